/- Parts of the proof, one behind the other: D41, D42, D43, D44, D45, D46, D47, D48, D49, D50. -/
import Derived.Test.YtkmjncmdhinlgaaX4
set_option linter.unusedSimpArgs false
set_option linter.unusedVariables false
section
namespace Go.Proofs.Ytkmjncmdhinlgaa.HL
open Go Go.Proofs
set_option linter.unusedSimpArgs false
set_option linter.unusedVariables false
attribute [local irreducible] Lt Lq CW OW TW CallH


/-- a device and the document's -/
structure RlD (s : Dv) (m : RDv) : Prop where
  sz : s.size = m.sec.length
  su : ∀ i, s.sure i = if 0 ≤ i ∧ i < m.sec.length then m.sec.getD i.toNat default else Sec.zero
  wa : s.wait = m.wait
  at_ : ∀ k, k < m.wait.length → 0 ≤ (m.wait.getD k default).at_ ∧ (m.wait.getD k default).at_ < m.sec.length
/-- a set and the document's -/
structure Rl (s : St) (m : RSt) : Prop where
  st : s.steps = m.steps
  go : s.gone = m.gone
  ar : s.armed = m.armed
  le : m.armed = true → s.left = m.left ∧ 0 ≤ m.left
  len : s.dv.length = m.dv.length
  dv : ∀ i, i < m.dv.length → RlD (s.dv.getD i default) (m.dv.getD i default)
theorem Rl.step {s : St} {m : RSt} (h : Rl s m) (hl : m.armed = true → m.left ≤ 9223372036854775807) : s.step.2 = m.step.2 ∧ Rl s.step.1 m.step.1 := by
  have hs := step_dv s
  have hm := m.step_dv
  unfold St.step RSt.step at *
  by_cases hg : m.gone = true
  · rw [if_pos (.inl (by rw [h.go]; exact hg)), if_pos hg]
    exact ⟨rfl, ⟨h.st, by rw [hg], h.ar, h.le, h.len, h.dv⟩⟩
  · by_cases ha : m.armed = true ∧ m.left = 0
    · have h1 := h.le ha.1
      rw [if_pos (.inr ⟨by rw [h.ar]; exact ha.1, by omega⟩), if_neg hg, if_pos ha]
      exact ⟨rfl, ⟨h.st, rfl, h.ar, h.le, h.len, h.dv⟩⟩
    · have hn : ¬ (s.gone = true ∨ (s.armed = true ∧ s.left ≤ 0)) := by
        rintro (h1 | ⟨h1, h2⟩)
        · rw [h.go] at h1; exact hg h1
        · rw [h.ar] at h1
          have h3 := h.le h1
          exact ha ⟨h1, by omega⟩
      rw [if_neg hn, if_neg hg, if_neg ha]
      refine ⟨rfl, ⟨by show IntKind.i64.wrap _ = IntKind.i64.wrap _; rw [h.st], h.go, h.ar, fun h1 => ?_, h.len, h.dv⟩⟩
      have h3 := h.le h1
      have h4 := hl h1
      have h5 : m.left ≠ 0 := fun e => ha ⟨h1, e⟩
      show IntKind.i64.wrap (s.left - 1) = (if m.armed = true then IntKind.i64.wrap (m.left - 1) else m.left) ∧ 0 ≤ (if m.armed = true then IntKind.i64.wrap (m.left - 1) else m.left)
      rw [if_pos h1, h3.1, wrap_i64 _ (by omega) (by omega)]
      exact ⟨rfl, by omega⟩
theorem Rl.has {s : St} {m : RSt} (h : Rl s m) (dev i : Int) : s.has dev i = m.has dev i := by
  unfold St.has RSt.has
  rw [h.len]
  by_cases hd : 0 ≤ dev ∧ dev < m.dv.length
  · rw [(h.dv dev.toNat (by omega)).sz]
  · rw [decide_eq_false hd, Bool.false_and, Bool.false_and]

end Go.Proofs.Ytkmjncmdhinlgaa.HL
end
section
namespace Go.Proofs.Ytkmjncmdhinlgaa.HL
open Go Go.Proofs
set_option linter.unusedSimpArgs false
set_option linter.unusedVariables false
attribute [local irreducible] Lt Lq CW OW TW CallH


theorem getD_set' {α : Type} [Inhabited α] {l : List α} {k : Nat} {d : α} (i : Nat) : (l.set k d).getD i default = if i = k ∧ k < l.length then d else l.getD i default := by
  simp only [List.getD_eq_getElem?_getD, List.getElem?_set]
  by_cases h : k = i
  · subst h
    by_cases h2 : k < l.length
    · simp [h2]
    · simp [h2, List.getElem?_eq_none (by omega : l.length ≤ k)]
  · rw [if_neg h, if_neg (by rintro ⟨rfl, _⟩; exact h rfl)]
theorem Rl.set {s t : St} {m q : RSt} (h : Rl s m) {k : Nat} {d : Dv} {e : RDv} (hd : RlD d e) (ht : t.dv = s.dv.set k d) (hq : q.dv = m.dv.set k e) (h1 : t.steps = q.steps) (h2 : t.gone = q.gone) (h3 : t.armed = q.armed) (h4 : q.armed = true → t.left = q.left ∧ 0 ≤ q.left) : Rl t q := by
  refine ⟨h1, h2, h3, h4, by rw [ht, hq, List.length_set, List.length_set]; exact h.len, fun i hi => ?_⟩
  rw [hq, List.length_set] at hi
  rw [ht, hq, getD_set', getD_set', h.len]
  by_cases e : i = k
  · rw [if_pos ⟨e, by omega⟩, if_pos ⟨e, by omega⟩]; exact hd
  · rw [if_neg (fun x => e x.1), if_neg (fun x => e x.1)]; exact h.dv i hi
theorem RlD.put {s : Dv} {m : RDv} (h : RlD s m) {i : Int} (x : Sec) (hi : 0 ≤ i ∧ i < m.sec.length) : RlD (s.put ⟨i, x⟩) ⟨m.sec, m.wait ++ [⟨i, x⟩]⟩ := by
  refine ⟨h.sz, h.su, by show s.wait ++ _ = _; rw [h.wa], fun k hk => ?_⟩
  simp only [List.length_append, List.length_cons, List.length_nil] at hk
  by_cases e : k < m.wait.length
  · have : (m.wait ++ [(⟨i, x⟩ : Wt)]).getD k default = m.wait.getD k default := by
      simp [List.getD_eq_getElem?_getD, List.getElem?_append_left e]
    rw [this]; exact h.at_ k e
  · have e2 : k = m.wait.length := by omega
    have : (m.wait ++ [(⟨i, x⟩ : Wt)]).getD k default = ⟨i, x⟩ := by
      subst e2; simp [List.getD_eq_getElem?_getD]
    rw [this]; exact hi
theorem Rl.put {s : St} {m : RSt} (h : Rl s m) (hl : m.armed = true → m.left ≤ 9223372036854775807) (dev i : Int) (x : Sec) : Rl (s.wr dev i x).1 (m.put dev i x).1 ∧ (m.put dev i x).2 = (s.wr dev i x).2.getD 0 := by
  obtain ⟨e2, hr⟩ := h.step hl
  have hh := h.has dev i
  rcases wr_cases s dev i x with ⟨a1, a2, a3⟩ | ⟨a1, a2, a3, a4⟩ | ⟨a1, a2, a3, a4⟩
  · rcases rput_cases m dev i x with ⟨_, b⟩ | ⟨b1, _⟩ | ⟨b1, _⟩
    · rw [a1, a2, b]; exact ⟨h, rfl⟩
    · rw [← hh, a3] at b1; cases b1
    · rw [← hh, a3] at b1; cases b1
  · rcases rput_cases m dev i x with ⟨b1, _⟩ | ⟨_, _, b⟩ | ⟨_, b1, _⟩
    · rw [← hh, a4] at b1; cases b1
    · rw [a1, a2, b]; exact ⟨hr, rfl⟩
    · rw [← e2, a3] at b1; cases b1
  · rcases rput_cases m dev i x with ⟨b1, _⟩ | ⟨_, b1, _⟩ | ⟨b0, _, b⟩
    · rw [← hh, a4] at b1; cases b1
    · rw [← e2, a3] at b1; cases b1
    · rw [a1, a2, b]
      unfold RSt.has at b0
      rw [Bool.and_eq_true, decide_eq_true_eq, decide_eq_true_eq] at b0
      refine ⟨h.set ((h.dv dev.toNat (by omega)).put x b0.2) rfl rfl hr.st hr.go hr.ar hr.le, rfl⟩

end Go.Proofs.Ytkmjncmdhinlgaa.HL
end
section
namespace Go.Proofs.Ytkmjncmdhinlgaa.HL
open Go Go.Proofs
set_option linter.unusedSimpArgs false
set_option linter.unusedVariables false
attribute [local irreducible] Lt Lq CW OW TW CallH


theorem RlD.stN {s : Dv} {m : RDv} (h : RlD s m) (kept : Nat → Option Int) : ∀ n, n ≤ m.wait.length → ∀ i, stN kept m.wait s.sure n i = if 0 ≤ i ∧ i < m.sec.length then (crW kept m.wait m.sec n).getD i.toNat default else Sec.zero
  | 0, _, i => h.su i
  | n + 1, hn, i => by
    have ih := RlD.stN h kept n (by omega)
    have ha := h.at_ n (by omega)
    cases hk : kept n with
    | none => simp only [Go.Proofs.Ytkmjncmdhinlgaa.HL.stN, crW, hk]; exact ih i
    | some t =>
      simp only [Go.Proofs.Ytkmjncmdhinlgaa.HL.stN, crW, hk]
      have hold : Go.Proofs.Ytkmjncmdhinlgaa.HL.stN kept m.wait s.sure n (m.wait.getD n default).at_ = (crW kept m.wait m.sec n).getD (m.wait.getD n default).at_.toNat default := by rw [ih, if_pos ha]
      rw [hold]
      by_cases e : i = (m.wait.getD n default).at_
      · rw [if_pos e, e, if_pos ha, getD_set', if_pos ⟨rfl, by rw [crW_len]; omega⟩]
      · rw [if_neg e, ih i]
        by_cases hr : 0 ≤ i ∧ i < m.sec.length
        · rw [if_pos hr, if_pos hr, getD_set', if_neg (fun hc => e (by omega))]
        · rw [if_neg hr, if_neg hr]
theorem RlD.settle {s : Dv} {m : RDv} (h : RlD s m) (kept : Nat → Option Int) : RlD (s.settle kept) (m.settle kept) := by
  refine ⟨by show s.size = (crW _ _ _ _).length; rw [crW_len]; exact h.sz, fun i => ?_, rfl, fun k hk => by simp [RDv.settle] at hk⟩
  show Go.Proofs.Ytkmjncmdhinlgaa.HL.stN kept s.wait s.sure s.wait.length i = _
  rw [h.wa, h.stN kept _ (Nat.le_refl _)]
  simp only [RDv.settle, crW_len]
theorem crW_done (ws : List Wt) (sec : List Sec) : ∀ n, n ≤ ws.length → crW (fun _ => some 0) ws sec n = doneL sec (ws.take n)
  | 0, _ => rfl
  | n + 1, hn => by
    rw [doneL_next sec ws n (by omega), ← crW_done ws sec n (by omega)]
    simp only [crW]
    rw [torn_not _ _ _ (by omega)]
theorem RlD.flush {s : Dv} {m : RDv} (h : RlD s m) : RlD (s.settle (fun _ => some 0)) ⟨doneL m.sec m.wait, []⟩ := by
  have := h.settle (fun _ => some 0)
  unfold RDv.settle at this
  rwa [crW_done _ _ _ (Nat.le_refl _), List.take_of_length_le (Nat.le_refl _)] at this

end Go.Proofs.Ytkmjncmdhinlgaa.HL
end
section
namespace Go.Proofs.Ytkmjncmdhinlgaa.HL
open Go Go.Proofs
set_option linter.unusedSimpArgs false
set_option linter.unusedVariables false
attribute [local irreducible] Lt Lq CW OW TW CallH


theorem Rl.flush {s : St} {m : RSt} (h : Rl s m) (hl : m.armed = true → m.left ≤ 9223372036854775807) (dev : Int) : Rl (s.fl dev).1 (m.fl dev).1 ∧ (m.fl dev).2 = (s.fl dev).2.getD 0 := by
  obtain ⟨e2, hr⟩ := h.step hl
  have hlen := h.len
  rcases fl_cases s dev with ⟨a1, a2, a3⟩ | ⟨a1, a2, a3, a4⟩ | ⟨a1, a2, a3, a4⟩
  · rcases rfl_cases m dev with ⟨_, b⟩ | ⟨b1, _⟩ | ⟨b1, _⟩
    · rw [a1, a2, b]; exact ⟨h, rfl⟩
    · exact absurd b1 (by rw [← hlen]; exact a3)
    · exact absurd b1 (by rw [← hlen]; exact a3)
  · rcases rfl_cases m dev with ⟨b1, _⟩ | ⟨_, _, b⟩ | ⟨_, b1, _⟩
    · exact absurd a4 (by rw [hlen]; exact b1)
    · rw [a1, a2, b]; exact ⟨hr, rfl⟩
    · rw [← e2, a3] at b1; cases b1
  · rcases rfl_cases m dev with ⟨b1, _⟩ | ⟨_, b1, _⟩ | ⟨b0, _, b⟩
    · exact absurd a4 (by rw [hlen]; exact b1)
    · rw [← e2, a3] at b1; cases b1
    · rw [a1, a2, b]
      exact ⟨h.set ((h.dv dev.toNat (by omega)).flush) rfl rfl hr.st hr.go hr.ar hr.le, rfl⟩
theorem Rl.crash {s : St} {m : RSt} (h : Rl s m) (l : List Kp) : Rl (s.cr l) (m.cr l) := by
  refine ⟨h.st, rfl, rfl, fun h1 => (by cases h1), by simp [St.cr, RSt.cr, h.len], fun i hi => ?_⟩
  have hi' : i < m.dv.length := by simpa [RSt.cr] using hi
  have hs : i < s.dv.length := by rw [h.len]; exact hi'
  have hd := h.dv i hi'
  have e1 : (s.cr l).dv.getD i default = (s.dv.getD i default).settle (fun n => keepOf l i n) := by
    simp [St.cr, List.getD_eq_getElem?_getD, List.getElem?_mapIdx, List.getElem?_eq_getElem hs]
  have e2 : (m.cr l).dv.getD i default = (m.dv.getD i default).settle (fun n => keepOf l i n) := by
    simp [RSt.cr, List.getD_eq_getElem?_getD, List.getElem?_mapIdx, List.getElem?_eq_getElem hi']
  rw [e1, e2]; exact hd.settle _
theorem Rl.read {s : St} {m : RSt} (h : Rl s m) (dev i : Int) : (m.rd dev i).1 = (s.rd dev i).1 ∧ (m.rd dev i).2 = (s.rd dev i).2.getD 0 := by
  unfold St.rd RSt.rd
  rw [h.go, h.has dev i]
  by_cases hg : m.gone = true
  · rw [if_pos hg, if_pos hg]; exact ⟨rfl, rfl⟩
  · rw [if_neg hg, if_neg hg]
    by_cases hh : m.has dev i = true
    · rw [if_pos hh, if_pos hh]
      refine ⟨?_, rfl⟩
      unfold RSt.has at hh
      rw [Bool.and_eq_true, decide_eq_true_eq, decide_eq_true_eq] at hh
      have hd := h.dv dev.toNat (by omega)
      unfold Dv.read
      rw [hd.wa, hd.su, if_pos hh.2]
    · rw [if_neg hh, if_neg hh]; exact ⟨rfl, rfl⟩

end Go.Proofs.Ytkmjncmdhinlgaa.HL
end
section
namespace Go.Proofs.Ytkmjncmdhinlgaa.HL
open Go Go.Proofs
set_option linter.unusedSimpArgs false
set_option linter.unusedVariables false
attribute [local irreducible] Lt Lq CW OW TW CallH


/-- one byte of one's own sectors is stored: the sector is so many bytes further -/
theorem OwnS.byte {H : Hp} {E : TypeId} {r n cap : Nat} {L : List Sec} {c : Array Value} {x old : Sec} {i b : Nat} (h : OwnS H E 64 (.slice (some ⟨r, 0, none⟩) n cap) n (secs (L.set i (mixS x old b))) (some r)) (hc : H r = some (.cells c E)) (hn : n = L.length) (hi : i < n) (hb : b < 64) : OwnS (H.upd r (.cells (c.setIfInBounds (i * 64 + b) (.int .u8 (x.b.getD b 0))) E)) E 64 (.slice (some ⟨r, 0, none⟩) n cap) n (secs (L.set i (mixS x old (b + 1)))) (some r) := by
  obtain ⟨h1, ⟨h2, _, _⟩ | ⟨r', cap', c', h3, h4, h5, h6, h7, h8⟩⟩ := h
  · cases h2
  · cases h3
    rw [hc] at h4; cases h4
    have m1 := Nat.mul_le_mul_right 64 (show i + 1 ≤ n by omega)
    have m2 := Nat.mul_le_mul_right 64 h5
    refine ⟨by rw [flat_size Sec.len, List.length_set, hn], .inr ⟨r, cap, _, rfl, upd_same _ _ _, h5, by simpa using h6, ?_, rfl⟩⟩
    have e : secs (L.set i (mixS x old (b + 1))) = (secs (L.set i (mixS x old b))).set (i * 64 + b) (.int .u8 (x.b.getD b 0)) := by
      have f1 : ∀ y : Sec, secs (L.set i y) = (secs L).take (i * 64) ++ y.c ++ (secs L).drop (i * 64 + 64) := fun y => flat_set Sec.len L i y (by omega)
      rw [f1, f1]
      have hl : ((secs L).take (i * 64)).length = i * 64 := by rw [List.length_take, flat_size Sec.len]; omega
      rw [List.append_assoc, List.append_assoc, List.set_append_right _ _ (by rw [hl]; omega), hl, Nat.add_sub_cancel_left, List.set_append_left _ _ (by rw [Sec.len]; omega)]
      congr 2
      simp only [Sec.c, u8s, mix_next x old b hb, List.map_set]
    rw [e, ← h7]
    simp only [Array.toList_extract, List.extract_eq_take_drop, Array.toList_setIfInBounds, List.drop_zero, Nat.sub_zero, List.take_set]

end Go.Proofs.Ytkmjncmdhinlgaa.HL
end
section
namespace Go.Proofs.Ytkmjncmdhinlgaa.HL
open Go Go.Proofs
set_option linter.unusedSimpArgs false
set_option linter.unusedVariables false
attribute [local irreducible] Lt Lq CW OW TW CallH


structure NC (H0 H : Hp) (D : List RDv) (k : Nat) (v : Value) (rs : Option Nat) (X : List RDX) (G : Hp) : Prop where
  len : X.length = k
  own : OwnS H 98 2 v k (X.flatMap RDX.c) rs
  ok : ∀ x ∈ X, x.ok G
  le : Le G H
  fr : ∀ b, G b ≠ none → H0 b = none
  frr : ∀ r, rs = some r → H0 r = none ∧ G r = none
  old : Le H0 H
  dv : rdv X = D.take k
theorem keepOf_at {l : List Kp} {q : Nat} (hq : q < l.length) {dev n : Int} (h1 : (l.getD q default).dev = dev) (h2 : (l.getD q default).n = n) (hno : ∀ t, t < q → ¬ ((l.getD t default).dev = dev ∧ (l.getD t default).n = n)) : keepOf l dev n = some (l.getD q default).tear := by
  unfold keepOf
  rw [find_at _ l q hq (by simp only [h1, h2, decide_true, Bool.and_self]) (fun t ht => ?_)]
  · rfl
  · have := hno t ht
    rw [Bool.and_eq_false_iff]
    simp only [decide_eq_false_iff_not]
    by_cases e : (l.getD t default).dev = dev
    · exact .inr (fun e2 => this ⟨e, e2⟩)
    · exact .inl e
theorem keepOf_no {l : List Kp} {dev n : Int} (hno : ∀ t, t < l.length → ¬ ((l.getD t default).dev = dev ∧ (l.getD t default).n = n)) : keepOf l dev n = none := by
  unfold keepOf
  rw [find_no _ l (fun t ht => ?_)]
  · rfl
  · have := hno t ht
    rw [Bool.and_eq_false_iff]
    simp only [decide_eq_false_iff_not]
    by_cases e : (l.getD t default).dev = dev
    · exact .inr (fun e2 => this ⟨e, e2⟩)
    · exact .inl e

end Go.Proofs.Ytkmjncmdhinlgaa.HL
end
section
namespace Go.Proofs.Ytkmjncmdhinlgaa.HL
open Go Go.Proofs
set_option linter.unusedSimpArgs false
set_option linter.unusedVariables false
attribute [local irreducible] Lt Lq CW OW TW CallH


theorem crW_no {kept : Nat → Option Int} {ws : List Wt} {sec : List Sec} {j : Nat} (h : kept j = none) : crW kept ws sec (j + 1) = crW kept ws sec j := by
  conv => lhs; unfold crW
  rw [h]
theorem crW_at {kept : Nat → Option Int} {ws : List Wt} {sec : List Sec} {j mo : Nat} {t : Int} (h : kept j = some t) (hm : mo = if 0 < t ∧ t < 64 then t.toNat else 64) : crW kept ws sec (j + 1) = (crW kept ws sec j).set (ws.getD j default).at_.toNat (mixS (ws.getD j default).x ((crW kept ws sec j).getD (ws.getD j default).at_.toNat default) mo) := by
  conv => lhs; unfold crW
  rw [h]
  simp only [torn_mix, hm]
theorem set_same {L : List Sec} {i : Nat} (h : i < L.length) (x : Sec) : L.set i (mixS x (L.getD i default) 0) = L := by
  rw [mix_zero, List.getD_eq_getElem?_getD, List.getElem?_eq_getElem h]
  simp
theorem cr_dv (m : RSt) (l : List Kp) (k : Nat) (hk : k < m.dv.length) : (m.cr l).dv.getD k default = ⟨crW (fun n => keepOf l (k : Int) n) (m.dv.getD k default).wait (m.dv.getD k default).sec (m.dv.getD k default).wait.length, []⟩ := by
  simp only [RSt.cr, List.getD_eq_getElem?_getD, List.getElem?_mapIdx, List.getElem?_eq_getElem hk, Option.map_some, Option.getD_some, RDv.settle]
theorem NC.next {H0 H HF : Hp} {D : List RDv} {k : Nat} {v : Value} {rs : Option Nat} {X : List RDX} {G : Hp} (h : NC H0 H D k v rs X G) (hk : k < D.length) {b : Nat} (hb : H b = none) {y : RDX} {o : Obj} (hy : y.ok (emptyHp.upd b o)) (hyd : y.d = D.getD k default) {v' : Value} {rs' : Option Nat}
    (hown : OwnS HF 98 2 v' (k + 1) (X.flatMap RDX.c ++ y.c) rs') (hfb : HF b = some o)
    (hkeep : ∀ x o, H x = some o → (G x ≠ none ∨ H0 x ≠ none) → HF x = some o) (hr : ∀ r, rs' = some r → rs = some r ∨ (H r = none ∧ r ≠ b)) :
    NC H0 HF D (k + 1) v' rs' (X ++ [y]) (G.upd b o) := by
  have hGb : G b = none := none_of_le h.le hb
  refine ⟨by simp [h.len], ?_, fun x hx => ?_, ?_, fun x hx => ?_, fun r e => ?_, fun x o hx => hkeep x o (h.old x o hx) (.inr (by rw [hx]; simp)), ?_⟩
  · rw [List.flatMap_append]
    simpa using hown
  · rcases List.mem_append.1 hx with h1 | h1
    · exact (h.ok x h1).le (le_upd _ _ _ hGb)
    · simp at h1
      subst h1
      exact hy.le (fun z oz hz => by
        by_cases e : z = b
        · subst e; rw [upd_same] at hz ⊢; exact hz
        · rw [upd_ne _ _ e] at hz; cases hz)
  · exact le_put (fun x o hx => hkeep x o (h.le x o hx) (.inl (by rw [hx]; simp))) hfb
  · by_cases e : x = b
    · subst e; exact none_of_le h.old hb
    · rw [upd_ne _ _ e] at hx; exact h.fr x hx
  · rcases hr r e with h1 | ⟨h1, h2⟩
    · refine ⟨(h.frr r h1).1, (upd_ne _ _ (fun e2 => ?_)).trans (h.frr r h1).2⟩
      subst e2; exact h.own.known r h1 hb
    · exact ⟨none_of_le h.old h1, (upd_ne _ _ h2).trans (none_of_le h.le h1)⟩
  · rw [List.take_add_one, List.getElem?_eq_getElem hk]
    simp [rdv, h.dv, hyd, List.getD_eq_getElem?_getD, List.getElem?_eq_getElem hk]


theorem wt_byte (w : Wt) {b : Nat} (hb : b < 64) : w.c.toArray[1 + b]? = some (.int .u8 (w.x.b.getD b 0)) := by
  have h := w.x.h
  rw [List.getElem?_toArray, Nat.add_comm]
  show w.x.c[b]? = _
  simp only [Sec.c, u8s, List.getElem?_map, List.getD_eq_getElem?_getD]
  rw [List.getElem?_eq_getElem (by omega)]
  rfl

end Go.Proofs.Ytkmjncmdhinlgaa.HL
end
section
namespace Go.Proofs.Ytkmjncmdhinlgaa.HL
open Go Go.Proofs
set_option linter.unusedSimpArgs false
set_option linter.unusedVariables false
attribute [local irreducible] Lt Lq CW OW TW CallH

set_option maxRecDepth 100000 in
set_option maxHeartbeats 16000000 in
theorem rcrash_ok (H : Hp) (a : Option Addr) (cap : Nat) (X : List RDX) (hX : RX H a cap X) (m : RSt) (hm : m.dv = rdv X) (hl : X.length ≤ 5) (n : Nat) (hn : n ≤ 1000000) (hg : ∀ i, i < X.length → RG n (X.getD i default).d) (ka : Option Addr) (kc : Nat) (l : List Kp) (hk : Holds H 3 (.slice ka l.length kc) l.length (kps l)) (hkl : l.length ≤ 1000) : CallH Try.prog 41 #[m.v (.slice a X.length cap), .slice ka l.length kc] H (fun v H' => ∃ a' cap' X', X'.length = X.length ∧ Le H H' ∧ v = (m.cr l).v (.slice a' X'.length cap') ∧ RX H' a' cap' X' ∧ (m.cr l).dv = rdv X') := by
  refine CallH_enter (l := [_, _]) (rl := [.cell 4 59]) (n := 111) Try.func41 rfl rfl rfl rfl rfl ?_
  simp only [envOf, Nat.reduceAdd]
  have hlen : m.dv.length = X.length := by rw [hm]; simp
  have hclen : (m.cr l).dv.length = X.length := by simp only [RSt.cr, List.length_mapIdx, hlen]
  refine CW_seq (fun K1 hK1 => ?_)
  refine CW_region ?_
  refine OW_opS (fun K hK r => ?_)
  simp only [x_box, Value.cells, eX, ↓reduceIte, Nat.reduceEqDiff, Int.reduceToNat]
  intro b2 hb2
  have f2_H : H b2 = none := none_of_le lhA hb2
  try simp only [eX, ↓reduceIte, Nat.reduceEqDiff, Int.reduceToNat]
  refine hK _ _ ?_; clear hK K
  refine OW_opS (fun K hK r => ?_)
  simp only [x_alloc, zr59, orF_some, Value.cells, eX, ↓reduceIte, Nat.reduceEqDiff, Int.reduceToNat]
  intro b4 hb4
  try have n4_b2 : b2 ≠ b4 := ne_of_none hbA hb4
  have f4_H : H b4 = none := none_of_le lhA hb4
  try simp only [eX, ↓reduceIte, Nat.reduceEqDiff, Int.reduceToNat]
  refine hK _ _ ?_; clear hK K
  refine OW_nil ?_
  try simp only [Ex.thnH, Ex.inBlockH, ↓reduceIte, Nat.reduceEqDiff]
  refine hK1 _ _ ?_; try clear hK1 K1
  refine CW_seq (fun K2 hK2 => ?_)
  refine CW_region ?_
  refine OW_opS (fun K hK r => ?_)
  simp only [x_fieldAddr, fa59_1, add_mk, Nat.reduceAdd, Nat.zero_add, eX, ↓reduceIte, Nat.reduceEqDiff, Int.reduceToNat]
  refine hK _ _ ?_; clear hK K
  refine OW_opS (fun K hK r => ?_)
  simp only [x_load, eX, ↓reduceIte, Nat.reduceEqDiff, Int.reduceToNat]
  refine Lt_loadAt1 Try.underlying3 rfl hbA ldA ?_
  try simp only [eX, ↓reduceIte, Nat.reduceEqDiff, Int.reduceToNat]
  refine hK _ _ ?_; clear hK K
  refine OW_opS (fun K hK r => ?_)
  simp only [x_fieldAddr, fa59_2, add_mk, Nat.reduceAdd, Nat.zero_add, eX, ↓reduceIte, Nat.reduceEqDiff, Int.reduceToNat]
  refine hK _ _ ?_; clear hK K
  refine OW_opS (fun K hK r => ?_)
  simp only [x_load, eX, ↓reduceIte, Nat.reduceEqDiff, Int.reduceToNat]
  refine Lt_loadAt1 Try.underlying3 rfl hbA ldA ?_
  try simp only [eX, ↓reduceIte, Nat.reduceEqDiff, Int.reduceToNat]
  refine hK _ _ ?_; clear hK K
  refine OW_opS (fun K hK r => ?_)
  simp only [x_build, bp59, List.map_toArray, List.map_cons, List.map_nil, eX, ↓reduceIte, Nat.reduceEqDiff, Int.reduceToNat]
  rw [fill_one rfl clA bdA]
  rw [fill_one rfl clA bdA]
  simp only [fill_nil, orF_some, List.setIfInBounds_toArray, List.set_cons_zero, List.set_cons_succ]
  try simp only [eX, ↓reduceIte, Nat.reduceEqDiff, Int.reduceToNat]
  refine hK _ _ ?_; clear hK K
  refine OW_opS (fun K hK r => ?_)
  simp only [x_alloc, zr59, orF_some, Value.cells, eX, ↓reduceIte, Nat.reduceEqDiff, Int.reduceToNat]
  intro b5 hb5
  try have n5_b2 : b2 ≠ b5 := ne_of_none hbA hb5
  try have n5_b4 : b4 ≠ b5 := ne_of_none hbA hb5
  have f5_H : H b5 = none := none_of_le lhA hb5
  try simp only [eX, ↓reduceIte, Nat.reduceEqDiff, Int.reduceToNat]
  refine hK _ _ ?_; clear hK K
  refine OW_op rfl (lt_none) (fun K hK r => ?_)
  simp only [x_store, eX, ↓reduceIte, Nat.reduceEqDiff, Int.reduceToNat]
  first | refine Lt_storeAll sz59 bdA hbA bdA plA (by decide) ?_ | refine Lt_storeAtA sz59 bdA hbA bdA plA (by decide) ?_
  try simp only [eX, ↓reduceIte, Nat.reduceEqDiff, Int.reduceToNat]
  refine hK _ _ ?_; clear hK K
  refine OW_nil ?_
  try simp only [Ex.thnH, Ex.inBlockH, ↓reduceIte, Nat.reduceEqDiff]
  refine hK2 _ _ ?_; try clear hK2 K2
  refine CW_seq (fun K3 hK3 => ?_)
  refine CW_seq (fun K4 hK4 => ?_)
  refine CW_region ?_
  refine OW_as rfl ?_
  refine OW_nil ?_
  try simp only [Ex.thnH, Ex.inBlockH, ↓reduceIte, Nat.reduceEqDiff]
  refine hK4 _ _ ?_; try clear hK4 K4
  refine CW_block ?_
  refine CW_loop (fun m_ e H_ => ∃ (k : Nat) (v : Value) (rs : Option Nat) (Y : List RDX) (G : Hp), k ≤ X.length ∧ m_ = X.length - k ∧ NC H H_ (m.cr l).dv k v rs Y G ∧ G b2 = none ∧ G b4 = none ∧ G b5 = none ∧ H_ b2 = some (.cells (m.c (.slice a X.length cap)).toArray 59) ∧ H_ b4 = some (.cells #[.slice none 0 0, .int .i64 0, .int .i64 0, .bool false, .bool false] 59) ∧ H_ b5 = some (.cells #[v, .int .i64 m.steps, .int .i64 m.left, .bool false, .bool false] 59) ∧ Env.has [(1, .slice ka l.length kc), (2, .pointer (some ⟨b2, 0, none⟩)), (4, .pointer (some ⟨b4, 0, none⟩)), (5, .pointer (some ⟨b5, 0, none⟩)), (6, .int .i64 k)] e) (X.length) ?_ ?_
  · skip
    refine ⟨0, .slice none 0 0, none, [], emptyHp, by omega, by omega, ⟨rfl, OwnS.nil _ _ _, (fun x hx => by simp at hx), le_empty _, (fun b hb => absurd rfl hb), (fun r hr => by cases hr), lhA, rfl⟩, rfl, rfl, rfl, hbA, hbA, hbA, rfl, rfl, rfl, rfl, rfl, trivial⟩
  intro m_ e_ H_ hI_
  obtain ⟨k, v, rs, Y, G, hkl_, rfl, hN, g2, g4, g5, k2, k4, k5, he⟩ := hI_
  refine CW_env he.sub ?_; clear he e_
  obtain ⟨HA, hHA⟩ : ∃ G : Hp, G = H_ := ⟨_, rfl⟩
  subst hHA
  have hOld := hN.old
  obtain ⟨va, vc, rfl⟩ := hN.own.holds.form
  refine CW_seq (fun K5 hK5 => ?_)
  refine CW_seq (fun K6 hK6 => ?_)
  refine CW_region ?_
  refine OW_mv rfl ?_
  refine OW_opS (fun K hK r => ?_)
  simp only [x_fieldAddr, fa59_0, add_mk, Nat.reduceAdd, Nat.zero_add, eX, ↓reduceIte, Nat.reduceEqDiff, Int.reduceToNat]
  refine hK _ _ ?_; clear hK K
  refine OW_opS (fun K hK r => ?_)
  simp only [x_load, eX, ↓reduceIte, Nat.reduceEqDiff, Int.reduceToNat]
  refine Lt_loadAt1 Try.underlying57 rfl hbA ldA ?_
  try simp only [eX, ↓reduceIte, Nat.reduceEqDiff, Int.reduceToNat]
  refine hK _ _ ?_; clear hK K
  refine OW_opS (fun K hK r => ?_)
  simp only [x_builtin, l_len, List.map_toArray, List.map_cons, List.map_nil, i_len_slice _ _ Try.underlying57, eX, ↓reduceIte, Nat.reduceEqDiff, Int.reduceToNat]
  refine hK _ _ ?_; clear hK K
  refine OW_opS (fun K hK r => ?_)
  simp (disch := (first | omega | decide)) only [x_bin, g_int, b_lss, dec_lt_t, dec_lt_f, dec_le_t, dec_le_f, dec_eq_t, dec_eq_f, Bool.not_true, Bool.not_false, eX, ↓reduceIte, Nat.reduceEqDiff, Int.reduceToNat]
  refine hK _ _ ?_; clear hK K
  refine OW_nil ?_
  try simp only [Ex.thnH, Ex.inBlockH, ↓reduceIte, Nat.reduceEqDiff]
  refine hK6 _ _ ?_; try clear hK6 K6
  refine CW_cond (fun r => rfl) (fun c23 => ?_) (fun c23 => ?_)
  · first
    | (exfalso; exact cnA c23; done)
    | skip
      (try simp only [decide_eq_true_eq, decide_eq_false_iff_not, Bool.not_eq_true, Bool.not_eq_false, Bool.and_eq_true, Bool.or_eq_true, Bool.or_eq_false_iff, Bool.not_eq_true, Bool.not_eq_eq_eq_not, Bool.not_true, Bool.not_false] at c23)
      obtain ⟨bw, ow, cw, Tw, Fw, ew, hbw, hsw, atw⟩ := hX.h.at (by omega)
      have hxok := hX.ok _ (getD_mem' (show k < X.length by omega))
      have hgx := hg k (by omega)
      have hL := hgx.lo
      have hwl := Nat.le_trans hgx.w hn
      have mk := Nat.mul_le_mul_right 2 (show k + 1 ≤ X.length by omega)
      refine CW_skip ?_
      try simp only [Ex.thnH, Ex.inBlockH, ↓reduceIte, Nat.reduceEqDiff]
      refine hK5 _ _ ?_; try clear hK5 K5
      refine CW_seq (fun K7 hK7 => ?_)
      refine CW_block ?_
      refine CW_seq (fun K8 hK8 => ?_)
      refine CW_region ?_
      refine OW_opS (fun K hK r => ?_)
      simp only [x_fieldAddr, fa59_0, add_mk, Nat.reduceAdd, Nat.zero_add, eX, ↓reduceIte, Nat.reduceEqDiff, Int.reduceToNat]
      refine hK _ _ ?_; clear hK K
      refine OW_opS (fun K hK r => ?_)
      simp only [x_load, eX, ↓reduceIte, Nat.reduceEqDiff, Int.reduceToNat]
      refine Lt_loadAt1 Try.underlying57 rfl hbA ldA ?_
      try simp only [eX, ↓reduceIte, Nat.reduceEqDiff, Int.reduceToNat]
      refine hK _ _ ?_; clear hK K
      refine OW_mv rfl ?_
      refine OW_opS (fun K hK r => ?_)
      simp only [x_indexAddr, eX, ↓reduceIte, Nat.reduceEqDiff, Int.reduceToNat]
      refine Lt_indexSof Try.underlying57 sz98 ew ixA ixA ?_
      try simp only [Int.toNat_natCast]
      refine hK _ _ ?_; clear hK K
      refine OW_opS (fun K hK r => ?_)
      simp only [x_load, eX, ↓reduceIte, Nat.reduceEqDiff, Int.reduceToNat]
      refine Lt_loadAtA Try.underlying98 rfl sz98 (hOld _ _ hbw) (by omega) ?_
      rw [ext_at RDX.len atw rfl k (by omega) hsw]
      refine hK _ _ ?_; clear hK K
      refine OW_opS (fun K hK r => ?_)
      simp only [x_alloc, zr98, orF_some, Value.cells, eX, ↓reduceIte, Nat.reduceEqDiff, Int.reduceToNat]
      intro b7 hb7
      try have n7_b2 : b2 ≠ b7 := ne_of_none hbA hb7
      try have n7_b4 : b4 ≠ b7 := ne_of_none hbA hb7
      try have n7_b5 : b5 ≠ b7 := ne_of_none hbA hb7
      have f7_H : H b7 = none := none_of_le lhA hb7
      try simp only [eX, ↓reduceIte, Nat.reduceEqDiff, Int.reduceToNat]
      refine hK _ _ ?_; clear hK K
      refine OW_op rfl (lt_none) (fun K hK r => ?_)
      simp only [x_store, eX, ↓reduceIte, Nat.reduceEqDiff, Int.reduceToNat]
      first | refine Lt_storeAll sz98 bdA hbA bdA plA (by decide) ?_ | refine Lt_storeAtA sz98 bdA hbA bdA plA (by decide) ?_
      try simp only [eX, ↓reduceIte, Nat.reduceEqDiff, Int.reduceToNat]
      refine hK _ _ ?_; clear hK K
      refine OW_nil ?_
      try simp only [Ex.thnH, Ex.inBlockH, ↓reduceIte, Nat.reduceEqDiff]
      refine hK8 _ _ ?_; try clear hK8 K8
      refine CW_seq (fun K9 hK9 => ?_)
      refine CW_region ?_
      refine OW_opS (fun K hK r => ?_)
      simp only [x_buildSlice, List.map_toArray, List.map_cons, List.map_nil, eX, ↓reduceIte, Nat.reduceEqDiff, Int.reduceToNat]
      refine Lt_buildSlice (vs := []) Try.underlying95 sz38 zr38 rfl bsA (by first | decide | (simp; done)) ?_
      simp only [List.flatMap_cons, List.flatMap_nil, Value.cells, List.append_nil, List.cons_append, List.nil_append, List.length_cons, List.length_nil, Nat.zero_add, Nat.reduceAdd]
      intro b31 hb31
      try have n31_b2 : b2 ≠ b31 := ne_of_none hbA hb31
      try have n31_b4 : b4 ≠ b31 := ne_of_none hbA hb31
      try have n31_b5 : b5 ≠ b31 := ne_of_none hbA hb31
      try have n31_b7 : b7 ≠ b31 := ne_of_none hbA hb31
      have f31_H : H b31 = none := none_of_le lhA hb31
      try simp only [eX, ↓reduceIte, Nat.reduceEqDiff, Int.reduceToNat]
      refine hK _ _ ?_; clear hK K
      refine OW_opS (fun K hK r => ?_)
      simp only [x_fieldAddr, fa98_0, add_mk, Nat.reduceAdd, Nat.zero_add, eX, ↓reduceIte, Nat.reduceEqDiff, Int.reduceToNat]
      refine hK _ _ ?_; clear hK K
      refine OW_opS (fun K hK r => ?_)
      simp only [x_load, eX, ↓reduceIte, Nat.reduceEqDiff, Int.reduceToNat]
      refine Lt_loadAt1 Try.underlying95 rfl hbA ldA ?_
      try simp only [eX, ↓reduceIte, Nat.reduceEqDiff, Int.reduceToNat]
      refine hK _ _ ?_; clear hK K
      refine OW_opS (fun K hK r => ?_)
      simp only [x_builtin, l_append, List.map_toArray, List.map_cons, List.map_nil, eX, ↓reduceIte, Nat.reduceEqDiff, Int.reduceToNat]
      obtain ⟨HQ, hHQ⟩ : ∃ G : Hp, G = HA.upd b7 (.cells (X.getD k default).c.toArray 98) := ⟨_, rfl⟩
      have h31 : HQ b31 = none := by rw [hHQ]; exact hb31
      rw [← hHQ]
      refine Lt_appendNew Try.underlying95 sz38 by38 (by decide) zr38 rfl _ (m := (X.getD k default).d.sec.length) (ds := secs (X.getD k default).d.sec) (upd_same _ _ _) (hxok.s.le (Le.trans hOld (Le.trans (le_upd _ _ _ hb7) (by rw [hHQ]; exact le_upd _ _ _ hb31)))) (secs_plain _) (by have := hgx.hi; omega) ?_
      intro v34 H34 rs34 hg34 ho34 hr34
      have lQ34 : Le HQ H34 := fun z o hz => hg34.known z o ((upd_ne _ _ (ne_of_none hz h31)).trans hz) (fun e => by cases e; rw [h31] at hz; cases hz)
      obtain ⟨rb, c34, c34', rfl, rfl, hc34, hn34, hs34⟩ := ho34.full hL
      have hrn : HQ rb = none := (hr34 rb rfl).elim (fun e => by rw [e]; exact h31) (fun e => upd_none e)
      refine hK _ _ ?_; clear hK K
      refine OW_as rfl ?_
      refine OW_nil ?_
      try simp only [Ex.thnH, Ex.inBlockH, ↓reduceIte, Nat.reduceEqDiff]
      refine hK9 _ _ ?_; try clear hK9 K9
      refine CW_seq (fun K10 hK10 => ?_)
      refine CW_seq (fun K11 hK11 => ?_)
      refine CW_region ?_
      refine OW_as rfl ?_
      refine OW_nil ?_
      try simp only [Ex.thnH, Ex.inBlockH, ↓reduceIte, Nat.reduceEqDiff]
      refine hK11 _ _ ?_; try clear hK11 K11
      refine CW_block ?_
      refine CW_loop (fun m_ e H_ => ∃ j : Nat, j ≤ (X.getD k default).d.wait.length ∧ m_ = (X.getD k default).d.wait.length - j ∧ Le HQ H_ ∧ OwnS H_ 38 64 (.slice (some ⟨rb, 0, none⟩) (X.getD k default).d.sec.length c34) (X.getD k default).d.sec.length (secs (crW (fun n => keepOf l (k : Int) n) (X.getD k default).d.wait (X.getD k default).d.sec j)) (some rb) ∧ Env.has [(1, .slice ka l.length kc), (2, .pointer (some ⟨b2, 0, none⟩)), (4, .pointer (some ⟨b4, 0, none⟩)), (5, .pointer (some ⟨b5, 0, none⟩)), (6, .int .i64 k), (7, .pointer (some ⟨b7, 0, none⟩)), (8, .slice (some ⟨rb, 0, none⟩) (X.getD k default).d.sec.length c34), (9, .int .i64 j)] e) ((X.getD k default).d.wait.length) ?_ ?_
      · skip
        exact ⟨0, by omega, by omega, lQ34, ho34, rfl, rfl, rfl, rfl, rfl, rfl, rfl, rfl, trivial⟩
      intro m_ e_ H_ hI_
      obtain ⟨j, hj, rfl, hlQ, hO, he⟩ := hI_
      refine CW_env he.sub ?_; clear he e_
      obtain ⟨HB, hHB⟩ : ∃ G : Hp, G = H_ := ⟨_, rfl⟩
      subst hHB
      have k7 : HB b7 = some (.cells (X.getD k default).c.toArray 98) := hlQ _ _ (by rw [hHQ]; exact upd_same _ _ _)
      have hkk : Le H HB := Le.trans hOld (Le.trans (by rw [hHQ]; exact le_upd _ _ _ hb7) hlQ)
      refine CW_seq (fun K12 hK12 => ?_)
      refine CW_seq (fun K13 hK13 => ?_)
      refine CW_region ?_
      refine OW_mv rfl ?_
      refine OW_opS (fun K hK r => ?_)
      simp only [x_fieldAddr, fa98_1, add_mk, Nat.reduceAdd, Nat.zero_add, eX, ↓reduceIte, Nat.reduceEqDiff, Int.reduceToNat]
      refine hK _ _ ?_; clear hK K
      refine OW_opS (fun K hK r => ?_)
      simp only [x_load, eX, ↓reduceIte, Nat.reduceEqDiff, Int.reduceToNat]
      refine Lt_loadAt1 Try.underlying96 rfl hbA ldA ?_
      try simp only [eX, ↓reduceIte, Nat.reduceEqDiff, Int.reduceToNat]
      refine hK _ _ ?_; clear hK K
      refine OW_opS (fun K hK r => ?_)
      simp only [x_builtin, l_len, List.map_toArray, List.map_cons, List.map_nil, i_len_slice _ _ Try.underlying96, eX, ↓reduceIte, Nat.reduceEqDiff, Int.reduceToNat]
      refine hK _ _ ?_; clear hK K
      refine OW_opS (fun K hK r => ?_)
      simp (disch := (first | omega | decide)) only [x_bin, g_int, b_lss, dec_lt_t, dec_lt_f, dec_le_t, dec_le_f, dec_eq_t, dec_eq_f, Bool.not_true, Bool.not_false, eX, ↓reduceIte, Nat.reduceEqDiff, Int.reduceToNat]
      refine hK _ _ ?_; clear hK K
      refine OW_nil ?_
      try simp only [Ex.thnH, Ex.inBlockH, ↓reduceIte, Nat.reduceEqDiff]
      refine hK13 _ _ ?_; try clear hK13 K13
      refine CW_cond (fun r => rfl) (fun c39 => ?_) (fun c39 => ?_)
      · first
        | (exfalso; exact cnA c39; done)
        | skip
          (try simp only [decide_eq_true_eq, decide_eq_false_iff_not, Bool.not_eq_true, Bool.not_eq_false, Bool.and_eq_true, Bool.or_eq_true, Bool.or_eq_false_iff, Bool.not_eq_true, Bool.not_eq_eq_eq_not, Bool.not_true, Bool.not_false] at c39)
          obtain ⟨bv, ov, cv, Tv, Fv, ev, hbv, hsv, atv⟩ := hxok.w.at (by omega)
          have hik := hgx.at_ j (by omega)
          have mj := Nat.mul_le_mul_right 65 (show j + 1 ≤ (X.getD k default).d.wait.length by omega)
          have mi := Nat.mul_le_mul_right 64 (show ((X.getD k default).d.wait.getD j default).at_.toNat + 1 ≤ (X.getD k default).d.sec.length by omega)
          refine CW_skip ?_
          try simp only [Ex.thnH, Ex.inBlockH, ↓reduceIte, Nat.reduceEqDiff]
          refine hK12 _ _ ?_; try clear hK12 K12
          refine CW_cut (fun e H_ => Le HQ H_ ∧ OwnS H_ 38 64 (.slice (some ⟨rb, 0, none⟩) (X.getD k default).d.sec.length c34) (X.getD k default).d.sec.length (secs (crW (fun n => keepOf l (k : Int) n) (X.getD k default).d.wait (X.getD k default).d.sec (j + 1))) (some rb) ∧ Env.has [(1, .slice ka l.length kc), (2, .pointer (some ⟨b2, 0, none⟩)), (4, .pointer (some ⟨b4, 0, none⟩)), (5, .pointer (some ⟨b5, 0, none⟩)), (6, .int .i64 k), (7, .pointer (some ⟨b7, 0, none⟩)), (8, .slice (some ⟨rb, 0, none⟩) (X.getD k default).d.sec.length c34), (9, .int .i64 j)] e) ?_ ?_
          · skip
            refine CW_block ?_
            refine CW_seq (fun K14 hK14 => ?_)
            refine CW_region ?_
            refine OW_as rfl ?_
            refine OW_nil ?_
            try simp only [Ex.thnH, Ex.inBlockH, ↓reduceIte, Nat.reduceEqDiff]
            refine hK14 _ _ ?_; try clear hK14 K14
            refine CW_block ?_
            refine CW_loop (fun m_ e H_ => ∃ q : Nat, q ≤ l.length ∧ m_ = l.length - q ∧ H_ = HB ∧ (∀ t, t < q → ¬ ((l.getD t default).dev = (k : Int) ∧ (l.getD t default).n = (j : Int))) ∧ Env.has [(1, .slice ka l.length kc), (2, .pointer (some ⟨b2, 0, none⟩)), (4, .pointer (some ⟨b4, 0, none⟩)), (5, .pointer (some ⟨b5, 0, none⟩)), (6, .int .i64 k), (7, .pointer (some ⟨b7, 0, none⟩)), (8, .slice (some ⟨rb, 0, none⟩) (X.getD k default).d.sec.length c34), (9, .int .i64 j), (10, .int .i64 q)] e) (l.length) ?_ ?_
            · skip
              exact ⟨0, by omega, by omega, rfl, (fun t ht => absurd ht (by omega)), rfl, rfl, rfl, rfl, rfl, rfl, rfl, rfl, rfl, trivial⟩
            intro m_ e_ H_ hI_
            obtain ⟨q, hq, rfl, hHe, hno, he⟩ := hI_
            refine CW_env he.sub ?_; clear he e_
            have hHe := hHe.symm
            subst hHe
            refine CW_seq (fun K15 hK15 => ?_)
            refine CW_seq (fun K16 hK16 => ?_)
            refine CW_region ?_
            refine OW_mv rfl ?_
            refine OW_mv rfl ?_
            refine OW_opS (fun K hK r => ?_)
            simp only [x_builtin, l_len, List.map_toArray, List.map_cons, List.map_nil, i_len_slice _ _ Try.underlying23, eX, ↓reduceIte, Nat.reduceEqDiff, Int.reduceToNat]
            refine hK _ _ ?_; clear hK K
            refine OW_opS (fun K hK r => ?_)
            simp (disch := (first | omega | decide)) only [x_bin, g_int, b_lss, dec_lt_t, dec_lt_f, dec_le_t, dec_le_f, dec_eq_t, dec_eq_f, Bool.not_true, Bool.not_false, eX, ↓reduceIte, Nat.reduceEqDiff, Int.reduceToNat]
            refine hK _ _ ?_; clear hK K
            refine OW_nil ?_
            try simp only [Ex.thnH, Ex.inBlockH, ↓reduceIte, Nat.reduceEqDiff]
            refine hK16 _ _ ?_; try clear hK16 K16
            refine CW_cond (fun r => rfl) (fun c45 => ?_) (fun c45 => ?_)
            · first
              | (exfalso; exact cnA c45; done)
              | skip
                (try simp only [decide_eq_true_eq, decide_eq_false_iff_not, Bool.not_eq_true, Bool.not_eq_false, Bool.and_eq_true, Bool.or_eq_true, Bool.or_eq_false_iff, Bool.not_eq_true, Bool.not_eq_eq_eq_not, Bool.not_true, Bool.not_false] at c45)
                obtain ⟨bk, ok, ck, Tk, Fk, ek, hbk, hsk, atk⟩ := hk.at (by omega)
                refine CW_skip ?_
                try simp only [Ex.thnH, Ex.inBlockH, ↓reduceIte, Nat.reduceEqDiff]
                refine hK15 _ _ ?_; try clear hK15 K15
                refine CW_seq (fun K17 hK17 => ?_)
                refine CW_block ?_
                refine CW_seq (fun K18 hK18 => ?_)
                refine CW_seq (fun K19 hK19 => ?_)
                refine CW_region ?_
                refine OW_mv rfl ?_
                refine OW_mv rfl ?_
                refine OW_opS (fun K hK r => ?_)
                simp only [x_indexAddr, eX, ↓reduceIte, Nat.reduceEqDiff, Int.reduceToNat]
                refine Lt_indexSof Try.underlying23 sz42 ek ixA ixA ?_
                try simp only [Int.toNat_natCast]
                refine hK _ _ ?_; clear hK K
                refine OW_opS (fun K hK r => ?_)
                simp only [x_fieldAddr, fa42_0, add_mk, Nat.reduceAdd, Nat.zero_add, eX, ↓reduceIte, Nat.reduceEqDiff, Int.reduceToNat]
                refine hK _ _ ?_; clear hK K
                refine OW_opS (fun K hK r => ?_)
                simp only [x_load, eX, ↓reduceIte, Nat.reduceEqDiff, Int.reduceToNat]
                refine Lt_loadAt1 Try.underlying3 rfl ((show Le H _ from lhA) _ _ hbk) (v := .int .i64 (l.getD q default).dev) (by first | exact cell_at Kp.len atk rfl q (by omega) 0 (by decide) | (rw [cell_at Kp.len atk rfl q (by omega) 0 (by decide)]; rfl)) ?_
                refine hK _ _ ?_; clear hK K
                refine OW_mv rfl ?_
                refine OW_opS (fun K hK r => ?_)
                simp (disch := (first | omega | decide)) only [x_bin, g_int, b_neq, dec_lt_t, dec_lt_f, dec_le_t, dec_le_f, dec_eq_t, dec_eq_f, Bool.not_true, Bool.not_false, eX, ↓reduceIte, Nat.reduceEqDiff, Int.reduceToNat]
                refine hK _ _ ?_; clear hK K
                refine OW_mv rfl ?_
                (first | refine OW_split (d := 55) rfl (fun g55 => ?_) (fun g55 => ?_) | skip)
                all_goals try (exfalso; exact cnA g55)
                all_goals (try simp only [decide_eq_true_eq, decide_eq_false_iff_not, Bool.not_eq_true, Bool.not_eq_false, Bool.and_eq_true, Bool.or_eq_true, Bool.or_eq_false_iff, Bool.not_eq_true, Bool.not_eq_eq_eq_not, Bool.not_true, Bool.not_false] at g55)
                all_goals
                  try simp only [eX, ↓reduceIte, Nat.reduceEqDiff, Int.reduceToNat]
                  first
                  | refine OW_guardT rfl (lt_some (by decide)) rfl (fun K hK r => ?_)
                    simp only [x_move, eX, ↓reduceIte, Nat.reduceEqDiff, Int.reduceToNat]
                    refine hK _ _ ?_; clear hK K
                  | refine OW_guardF rfl (lt_some (by decide)) rfl ?_
                    simp only [eX, ↓reduceIte, Nat.reduceEqDiff, Int.reduceToNat]
                  first
                  | refine OW_guardT rfl (lt_some (by decide)) rfl (fun K hK r => ?_)
                    simp only [x_move, eX, ↓reduceIte, Nat.reduceEqDiff, Int.reduceToNat]
                    refine hK _ _ ?_; clear hK K
                  | refine OW_guardF rfl (lt_some (by decide)) rfl ?_
                    simp only [eX, ↓reduceIte, Nat.reduceEqDiff, Int.reduceToNat]
                  first
                  | refine OW_guardT rfl (lt_some (by decide)) rfl (fun K hK r => ?_)
                    simp only [x_indexAddr, eX, ↓reduceIte, Nat.reduceEqDiff, Int.reduceToNat]
                    refine Lt_indexSof Try.underlying23 sz42 ek ixA ixA ?_
                    try simp only [Int.toNat_natCast]
                    refine hK _ _ ?_; clear hK K
                  | refine OW_guardF rfl (lt_some (by decide)) rfl ?_
                    simp only [eX, ↓reduceIte, Nat.reduceEqDiff, Int.reduceToNat]
                  first
                  | refine OW_guardT rfl (lt_some (by decide)) rfl (fun K hK r => ?_)
                    simp only [x_fieldAddr, fa42_1, add_mk, Nat.reduceAdd, Nat.zero_add, eX, ↓reduceIte, Nat.reduceEqDiff, Int.reduceToNat]
                    refine hK _ _ ?_; clear hK K
                  | refine OW_guardF rfl (lt_some (by decide)) rfl ?_
                    simp only [eX, ↓reduceIte, Nat.reduceEqDiff, Int.reduceToNat]
                  first
                  | refine OW_guardT rfl (lt_some (by decide)) rfl (fun K hK r => ?_)
                    simp only [x_load, eX, ↓reduceIte, Nat.reduceEqDiff, Int.reduceToNat]
                    refine Lt_loadAt1 Try.underlying3 rfl ((show Le H _ from lhA) _ _ hbk) (v := .int .i64 (l.getD q default).n) (by first | exact cell_at Kp.len atk rfl q (by omega) 1 (by decide) | (rw [cell_at Kp.len atk rfl q (by omega) 1 (by decide)]; rfl)) ?_
                    refine hK _ _ ?_; clear hK K
                  | refine OW_guardF rfl (lt_some (by decide)) rfl ?_
                    simp only [eX, ↓reduceIte, Nat.reduceEqDiff, Int.reduceToNat]
                  first
                  | refine OW_guardT rfl (lt_some (by decide)) rfl (fun K hK r => ?_)
                    simp only [x_move, eX, ↓reduceIte, Nat.reduceEqDiff, Int.reduceToNat]
                    refine hK _ _ ?_; clear hK K
                  | refine OW_guardF rfl (lt_some (by decide)) rfl ?_
                    simp only [eX, ↓reduceIte, Nat.reduceEqDiff, Int.reduceToNat]
                  first
                  | refine OW_guardT rfl (lt_some (by decide)) rfl (fun K hK r => ?_)
                    simp (disch := (first | omega | decide)) only [x_bin, g_int, b_neq, dec_lt_t, dec_lt_f, dec_le_t, dec_le_f, dec_eq_t, dec_eq_f, Bool.not_true, Bool.not_false, eX, ↓reduceIte, Nat.reduceEqDiff, Int.reduceToNat]
                    refine hK _ _ ?_; clear hK K
                  | refine OW_guardF rfl (lt_some (by decide)) rfl ?_
                    simp only [eX, ↓reduceIte, Nat.reduceEqDiff, Int.reduceToNat]
                  refine OW_opS (fun K hK r => ?_)
                  simp only [x_pick, l_asBool, HL.ite_bool, if_true, if_false, Bool.false_eq_true, eX, ↓reduceIte, Nat.reduceEqDiff, Int.reduceToNat]
                  refine hK _ _ ?_; clear hK K
                  refine OW_nil ?_
                  try simp only [Ex.thnH, Ex.inBlockH, ↓reduceIte, Nat.reduceEqDiff]
                  refine hK19 _ _ ?_; try clear hK19 K19
                  refine CW_cond (fun r => rfl) (fun c63 => ?_) (fun c63 => ?_)
                  · first
                    | (exfalso; exact cnA c63; done)
                    | skip
                      (try simp only [decide_eq_true_eq, decide_eq_false_iff_not, Bool.not_eq_true, Bool.not_eq_false, Bool.and_eq_true, Bool.or_eq_true, Bool.or_eq_false_iff, Bool.not_eq_true, Bool.not_eq_eq_eq_not, Bool.not_true, Bool.not_false] at c63)
                      have hno1 : ¬ ((l.getD q default).dev = (k : Int) ∧ (l.getD q default).n = (j : Int)) := by omega
                      refine CW_exit ?_
                      try simp only [Ex.thnH, Ex.inBlockH, ↓reduceIte, Nat.reduceEqDiff]
                      refine hK17 _ _ ?_; try clear hK17 K17
                      refine CW_region ?_
                      refine OW_mv rfl ?_
                      refine OW_opS (fun K hK r => ?_)
                      simp (disch := (first | omega | decide)) only [x_bin, g_int, b_add, wrap_i64, wrap_u64, wrap_u32, wrap_u8, eX, ↓reduceIte, Nat.reduceEqDiff, Int.reduceToNat]
                      refine hK _ _ ?_; clear hK K
                      refine OW_as rfl ?_
                      refine OW_nil ?_
                      try simp only [Ex.thnH, Ex.inBlockH, ↓reduceIte, Nat.reduceEqDiff]
                      refine ⟨l.length - (q + 1), by omega, q + 1, by omega, rfl, rfA, (fun t ht => ?_), rfl, rfl, rfl, rfl, rfl, rfl, rfl, rfl, rfl, trivial⟩
                      by_cases e : t = q
                      · subst e; exact hno1
                      · exact hno t (by omega)
                  · first
                    | (exfalso; exact cnA c63; done)
                    | skip
                      (try simp only [decide_eq_true_eq, decide_eq_false_iff_not, Bool.not_eq_true, Bool.not_eq_false, Bool.and_eq_true, Bool.or_eq_true, Bool.or_eq_false_iff, Bool.not_eq_true, Bool.not_eq_eq_eq_not, Bool.not_true, Bool.not_false] at c63)
                      have hyes : (l.getD q default).dev = (k : Int) ∧ (l.getD q default).n = (j : Int) := by omega
                      refine CW_skip ?_
                      try simp only [Ex.thnH, Ex.inBlockH, ↓reduceIte, Nat.reduceEqDiff]
                      refine hK18 _ _ ?_; try clear hK18 K18
                      refine CW_seq (fun K20 hK20 => ?_)
                      refine CW_region ?_
                      refine OW_opS (fun K hK r => ?_)
                      simp only [x_fieldAddr, fa98_1, add_mk, Nat.reduceAdd, Nat.zero_add, eX, ↓reduceIte, Nat.reduceEqDiff, Int.reduceToNat]
                      refine hK _ _ ?_; clear hK K
                      refine OW_opS (fun K hK r => ?_)
                      simp only [x_load, eX, ↓reduceIte, Nat.reduceEqDiff, Int.reduceToNat]
                      refine Lt_loadAt1 Try.underlying96 rfl hbA ldA ?_
                      try simp only [eX, ↓reduceIte, Nat.reduceEqDiff, Int.reduceToNat]
                      refine hK _ _ ?_; clear hK K
                      refine OW_mv rfl ?_
                      refine OW_opS (fun K hK r => ?_)
                      simp only [x_indexAddr, eX, ↓reduceIte, Nat.reduceEqDiff, Int.reduceToNat]
                      refine Lt_indexSof Try.underlying96 sz117 ev ixA ixA ?_
                      try simp only [Int.toNat_natCast]
                      refine hK _ _ ?_; clear hK K
                      refine OW_opS (fun K hK r => ?_)
                      simp only [x_load, eX, ↓reduceIte, Nat.reduceEqDiff, Int.reduceToNat]
                      refine Lt_loadAtA Try.underlying117 rfl sz117 (hkk _ _ hbv) (by omega) ?_
                      rw [ext_at Wt.len atv rfl j (by omega) hsv]
                      refine hK _ _ ?_; clear hK K
                      refine OW_opS (fun K hK r => ?_)
                      simp only [x_alloc, zr117, orF_some, Value.cells, eX, ↓reduceIte, Nat.reduceEqDiff, Int.reduceToNat]
                      intro b11 hb11
                      try have n11_b2 : b2 ≠ b11 := ne_of_none hbA hb11
                      try have n11_b4 : b4 ≠ b11 := ne_of_none hbA hb11
                      try have n11_b5 : b5 ≠ b11 := ne_of_none hbA hb11
                      try have n11_b7 : b7 ≠ b11 := ne_of_none hbA hb11
                      try have n11_b31 : b31 ≠ b11 := ne_of_none hbA hb11
                      have f11_H : H b11 = none := none_of_le lhA hb11
                      try simp only [eX, ↓reduceIte, Nat.reduceEqDiff, Int.reduceToNat]
                      refine hK _ _ ?_; clear hK K
                      refine OW_op rfl (lt_none) (fun K hK r => ?_)
                      simp only [x_store, eX, ↓reduceIte, Nat.reduceEqDiff, Int.reduceToNat]
                      refine Lt_storeAll sz117 (by rw [List.size_toArray, Wt.len]) hbA (by simp [Sec.h]) (Wt.plain _) (by decide) ?_
                      refine hK _ _ ?_; clear hK K
                      refine OW_nil ?_
                      try simp only [Ex.thnH, Ex.inBlockH, ↓reduceIte, Nat.reduceEqDiff]
                      refine hK20 _ _ ?_; try clear hK20 K20
                      refine CW_seq (fun K21 hK21 => ?_)
                      refine CW_region ?_
                      refine OW_as rfl ?_
                      refine OW_nil ?_
                      try simp only [Ex.thnH, Ex.inBlockH, ↓reduceIte, Nat.reduceEqDiff]
                      refine hK21 _ _ ?_; try clear hK21 K21
                      refine CW_seq (fun K22 hK22 => ?_)
                      refine CW_seq (fun K23 hK23 => ?_)
                      refine CW_region ?_
                      refine OW_mv rfl ?_
                      refine OW_mv rfl ?_
                      refine OW_opS (fun K hK r => ?_)
                      simp only [x_indexAddr, eX, ↓reduceIte, Nat.reduceEqDiff, Int.reduceToNat]
                      refine Lt_indexSof Try.underlying23 sz42 ek ixA ixA ?_
                      try simp only [Int.toNat_natCast]
                      refine hK _ _ ?_; clear hK K
                      refine OW_opS (fun K hK r => ?_)
                      simp only [x_fieldAddr, fa42_2, add_mk, Nat.reduceAdd, Nat.zero_add, eX, ↓reduceIte, Nat.reduceEqDiff, Int.reduceToNat]
                      refine hK _ _ ?_; clear hK K
                      refine OW_opS (fun K hK r => ?_)
                      simp only [x_load, eX, ↓reduceIte, Nat.reduceEqDiff, Int.reduceToNat]
                      refine Lt_loadAt1 Try.underlying3 rfl ((show Le H _ from lhA) _ _ hbk) (v := .int .i64 (l.getD q default).tear) (by first | exact cell_at Kp.len atk rfl q (by omega) 2 (by decide) | (rw [cell_at Kp.len atk rfl q (by omega) 2 (by decide)]; rfl)) ?_
                      refine hK _ _ ?_; clear hK K
                      refine OW_opS (fun K hK r => ?_)
                      simp (disch := (first | omega | decide)) only [x_bin, g_int, b_gtr, dec_lt_t, dec_lt_f, dec_le_t, dec_le_f, dec_eq_t, dec_eq_f, Bool.not_true, Bool.not_false, eX, ↓reduceIte, Nat.reduceEqDiff, Int.reduceToNat]
                      refine hK _ _ ?_; clear hK K
                      refine OW_mv rfl ?_
                      (first | refine OW_split (d := 75) rfl (fun g75 => ?_) (fun g75 => ?_) | skip)
                      all_goals try (exfalso; exact cnA g75)
                      all_goals (try simp only [decide_eq_true_eq, decide_eq_false_iff_not, Bool.not_eq_true, Bool.not_eq_false, Bool.and_eq_true, Bool.or_eq_true, Bool.or_eq_false_iff, Bool.not_eq_true, Bool.not_eq_eq_eq_not, Bool.not_true, Bool.not_false] at g75)
                      all_goals
                        try simp only [eX, ↓reduceIte, Nat.reduceEqDiff, Int.reduceToNat]
                        first
                        | refine OW_guardT rfl (lt_some (by decide)) rfl (fun K hK r => ?_)
                          simp only [x_move, eX, ↓reduceIte, Nat.reduceEqDiff, Int.reduceToNat]
                          refine hK _ _ ?_; clear hK K
                        | refine OW_guardF rfl (lt_some (by decide)) rfl ?_
                          simp only [eX, ↓reduceIte, Nat.reduceEqDiff, Int.reduceToNat]
                        first
                        | refine OW_guardT rfl (lt_some (by decide)) rfl (fun K hK r => ?_)
                          simp only [x_move, eX, ↓reduceIte, Nat.reduceEqDiff, Int.reduceToNat]
                          refine hK _ _ ?_; clear hK K
                        | refine OW_guardF rfl (lt_some (by decide)) rfl ?_
                          simp only [eX, ↓reduceIte, Nat.reduceEqDiff, Int.reduceToNat]
                        first
                        | refine OW_guardT rfl (lt_some (by decide)) rfl (fun K hK r => ?_)
                          simp only [x_indexAddr, eX, ↓reduceIte, Nat.reduceEqDiff, Int.reduceToNat]
                          refine Lt_indexSof Try.underlying23 sz42 ek ixA ixA ?_
                          try simp only [Int.toNat_natCast]
                          refine hK _ _ ?_; clear hK K
                        | refine OW_guardF rfl (lt_some (by decide)) rfl ?_
                          simp only [eX, ↓reduceIte, Nat.reduceEqDiff, Int.reduceToNat]
                        first
                        | refine OW_guardT rfl (lt_some (by decide)) rfl (fun K hK r => ?_)
                          simp only [x_fieldAddr, fa42_2, add_mk, Nat.reduceAdd, Nat.zero_add, eX, ↓reduceIte, Nat.reduceEqDiff, Int.reduceToNat]
                          refine hK _ _ ?_; clear hK K
                        | refine OW_guardF rfl (lt_some (by decide)) rfl ?_
                          simp only [eX, ↓reduceIte, Nat.reduceEqDiff, Int.reduceToNat]
                        first
                        | refine OW_guardT rfl (lt_some (by decide)) rfl (fun K hK r => ?_)
                          simp only [x_load, eX, ↓reduceIte, Nat.reduceEqDiff, Int.reduceToNat]
                          refine Lt_loadAt1 Try.underlying3 rfl ((show Le H _ from lhA) _ _ hbk) (v := .int .i64 (l.getD q default).tear) (by first | exact cell_at Kp.len atk rfl q (by omega) 2 (by decide) | (rw [cell_at Kp.len atk rfl q (by omega) 2 (by decide)]; rfl)) ?_
                          refine hK _ _ ?_; clear hK K
                        | refine OW_guardF rfl (lt_some (by decide)) rfl ?_
                          simp only [eX, ↓reduceIte, Nat.reduceEqDiff, Int.reduceToNat]
                        first
                        | refine OW_guardT rfl (lt_some (by decide)) rfl (fun K hK r => ?_)
                          simp (disch := (first | omega | decide)) only [x_bin, g_int, b_lss, dec_lt_t, dec_lt_f, dec_le_t, dec_le_f, dec_eq_t, dec_eq_f, Bool.not_true, Bool.not_false, eX, ↓reduceIte, Nat.reduceEqDiff, Int.reduceToNat]
                          refine hK _ _ ?_; clear hK K
                        | refine OW_guardF rfl (lt_some (by decide)) rfl ?_
                          simp only [eX, ↓reduceIte, Nat.reduceEqDiff, Int.reduceToNat]
                        refine OW_opS (fun K hK r => ?_)
                        simp only [x_pick, l_asBool, HL.ite_bool, if_true, if_false, Bool.false_eq_true, eX, ↓reduceIte, Nat.reduceEqDiff, Int.reduceToNat]
                        refine hK _ _ ?_; clear hK K
                        refine OW_nil ?_
                        try simp only [Ex.thnH, Ex.inBlockH, ↓reduceIte, Nat.reduceEqDiff]
                        refine hK23 _ _ ?_; try clear hK23 K23
                        refine CW_cond (fun r => rfl) (fun c82 => ?_) (fun c82 => ?_)
                        · first
                          | (exfalso; exact cnA c82; done)
                          | skip
                            (try simp only [decide_eq_true_eq, decide_eq_false_iff_not, Bool.not_eq_true, Bool.not_eq_false, Bool.and_eq_true, Bool.or_eq_true, Bool.or_eq_false_iff, Bool.not_eq_true, Bool.not_eq_eq_eq_not, Bool.not_true, Bool.not_false] at c82)
                            refine CW_region ?_
                            refine OW_mv rfl ?_
                            refine OW_mv rfl ?_
                            refine OW_opS (fun K hK r => ?_)
                            simp only [x_indexAddr, eX, ↓reduceIte, Nat.reduceEqDiff, Int.reduceToNat]
                            refine Lt_indexSof Try.underlying23 sz42 ek ixA ixA ?_
                            try simp only [Int.toNat_natCast]
                            refine hK _ _ ?_; clear hK K
                            refine OW_opS (fun K hK r => ?_)
                            simp only [x_fieldAddr, fa42_2, add_mk, Nat.reduceAdd, Nat.zero_add, eX, ↓reduceIte, Nat.reduceEqDiff, Int.reduceToNat]
                            refine hK _ _ ?_; clear hK K
                            refine OW_opS (fun K hK r => ?_)
                            simp only [x_load, eX, ↓reduceIte, Nat.reduceEqDiff, Int.reduceToNat]
                            refine Lt_loadAt1 Try.underlying3 rfl ((show Le H _ from lhA) _ _ hbk) (v := .int .i64 (l.getD q default).tear) (by first | exact cell_at Kp.len atk rfl q (by omega) 2 (by decide) | (rw [cell_at Kp.len atk rfl q (by omega) 2 (by decide)]; rfl)) ?_
                            obtain ⟨mo, hmo, hmo2⟩ : ∃ mo : Nat, (mo : Int) = (l.getD q default).tear ∧ mo = (if 0 < (l.getD q default).tear ∧ (l.getD q default).tear < 64 then (l.getD q default).tear.toNat else 64) := ⟨(l.getD q default).tear.toNat, by omega, by rw [if_pos (by omega)]⟩
                            refine hK _ _ ?_; clear hK K
                            refine OW_as rfl ?_
                            refine OW_nil ?_
                            try simp only [Ex.thnH, Ex.inBlockH, ↓reduceIte, Nat.reduceEqDiff]
                            refine hK22 _ _ ?_; try clear hK22 K22
                            refine CW_seq (fun K24 hK24 => ?_)
                            refine CW_seq (fun K25 hK25 => ?_)
                            refine CW_region ?_
                            refine OW_as rfl ?_
                            refine OW_nil ?_
                            try simp only [Ex.thnH, Ex.inBlockH, ↓reduceIte, Nat.reduceEqDiff]
                            refine hK25 _ _ ?_; try clear hK25 K25
                            refine CW_block ?_
                            refine CW_loop (fun m_ e H_ => ∃ b : Nat, b ≤ mo ∧ m_ = mo - b ∧ Le HQ H_ ∧ OwnS H_ 38 64 (.slice (some ⟨rb, 0, none⟩) (X.getD k default).d.sec.length c34) (X.getD k default).d.sec.length (secs ((crW (fun n => keepOf l (k : Int) n) (X.getD k default).d.wait (X.getD k default).d.sec j).set ((X.getD k default).d.wait.getD j default).at_.toNat (mixS ((X.getD k default).d.wait.getD j default).x ((crW (fun n => keepOf l (k : Int) n) (X.getD k default).d.wait (X.getD k default).d.sec j).getD ((X.getD k default).d.wait.getD j default).at_.toNat default) b))) (some rb) ∧ H_ b11 = some (.cells ((X.getD k default).d.wait.getD j default).c.toArray 117) ∧ Env.has [(1, .slice ka l.length kc), (2, .pointer (some ⟨b2, 0, none⟩)), (4, .pointer (some ⟨b4, 0, none⟩)), (5, .pointer (some ⟨b5, 0, none⟩)), (6, .int .i64 k), (7, .pointer (some ⟨b7, 0, none⟩)), (8, .slice (some ⟨rb, 0, none⟩) (X.getD k default).d.sec.length c34), (9, .int .i64 j), (10, .int .i64 q), (11, .pointer (some ⟨b11, 0, none⟩)), (12, .int .i64 (mo : Int)), (13, .int .i64 b)] e) (mo) ?_ ?_
                            · skip
                              refine ⟨0, by omega, by omega, Le.trans hlQ (le_upd _ _ _ (by assumption)), ?_, upd_same _ _ _, rfl, rfl, rfl, rfl, rfl, rfl, rfl, rfl, rfl, rfl, ?_, rfl, trivial⟩
                              · rw [set_same (by rw [crW_len]; omega)]
                                exact hO.make (by assumption)
                              · first
                                | (show some (Value.int _ _) = some (Value.int _ _); rw [hmo]; done)
                                | (show some (Value.int _ _) = some (Value.int _ _); rw [hmo]; rfl)
                            intro m_ e_ H_ hI_
                            obtain ⟨b, hbm_, rfl, hlQ3, hO3, k11, he⟩ := hI_
                            refine CW_env he.sub ?_; clear he e_
                            obtain ⟨HD, hHD⟩ : ∃ G : Hp, G = H_ := ⟨_, rfl⟩
                            subst hHD
                            refine CW_seq (fun K26 hK26 => ?_)
                            refine CW_seq (fun K27 hK27 => ?_)
                            refine CW_region ?_
                            refine OW_mv rfl ?_
                            refine OW_mv rfl ?_
                            refine OW_opS (fun K hK r => ?_)
                            simp (disch := (first | omega | decide)) only [x_bin, g_int, b_lss, dec_lt_t, dec_lt_f, dec_le_t, dec_le_f, dec_eq_t, dec_eq_f, Bool.not_true, Bool.not_false, eX, ↓reduceIte, Nat.reduceEqDiff, Int.reduceToNat]
                            refine hK _ _ ?_; clear hK K
                            refine OW_nil ?_
                            try simp only [Ex.thnH, Ex.inBlockH, ↓reduceIte, Nat.reduceEqDiff]
                            refine hK27 _ _ ?_; try clear hK27 K27
                            refine CW_cond (fun r => rfl) (fun c90 => ?_) (fun c90 => ?_)
                            · first
                              | (exfalso; exact cnA c90; done)
                              | skip
                                (try simp only [decide_eq_true_eq, decide_eq_false_iff_not, Bool.not_eq_true, Bool.not_eq_false, Bool.and_eq_true, Bool.or_eq_true, Bool.or_eq_false_iff, Bool.not_eq_true, Bool.not_eq_eq_eq_not, Bool.not_true, Bool.not_false] at c90)
                                have hb64 : b < 64 := by
                                  have : mo ≤ 64 := by rw [hmo2]; split <;> omega
                                  omega
                                refine CW_skip ?_
                                try simp only [Ex.thnH, Ex.inBlockH, ↓reduceIte, Nat.reduceEqDiff]
                                refine hK26 _ _ ?_; try clear hK26 K26
                                refine CW_seq (fun K28 hK28 => ?_)
                                refine CW_block ?_
                                obtain ⟨R21, hR21⟩ : ∃ R : Hp, R = emptyHp.upd b11 (.cells ((X.getD k default).d.wait.getD j default).c.toArray 117) := ⟨_, rfl⟩
                                refine CW_drawR [0, 0, 1, 0, 0, 0, 0, 1, 0, 0, 3] [0, 1, 2, 3, 4, 5, 6, 7, 8, 9, 10] R21 (by kernel_rfl) (by kernel_rfl) (by subst hR21; exact le_put (le_empty _) k11) (fun lR21 => ?_)
                                apply TW_pure rfl (lt_some (by decide)) rfl
                                · intro r
                                  simp only [x_move, eX, ↓reduceIte, Nat.reduceEqDiff]
                                  exact ⟨rfl, Le.refl _⟩
                                simp only [eX, ↓reduceIte, Nat.reduceEqDiff, Int.reduceToNat]
                                apply TW_pure rfl (lt_some (by decide)) rfl
                                · intro r
                                  simp only [x_fieldAddr, fa117_0, add_mk, Nat.reduceAdd, Nat.zero_add, eX, ↓reduceIte, Nat.reduceEqDiff]
                                  exact ⟨rfl, Le.refl _⟩
                                simp only [eX, ↓reduceIte, Nat.reduceEqDiff, Int.reduceToNat]
                                apply TW_look rfl (lt_some (by decide)) rfl
                                · intro r
                                  simp only [x_load, eX, ↓reduceIte, Nat.reduceEqDiff]
                                  refine Lt_loadAt1 Try.underlying3 rfl hbA ldA ?_
                                  exact ⟨rfl, Le.refl _⟩
                                simp only [eX, ↓reduceIte, Nat.reduceEqDiff, Int.reduceToNat]
                                apply TW_pure rfl (lt_some (by decide)) rfl
                                · intro r
                                  simp only [x_move, eX, ↓reduceIte, Nat.reduceEqDiff]
                                  exact ⟨rfl, Le.refl _⟩
                                simp only [eX, ↓reduceIte, Nat.reduceEqDiff, Int.reduceToNat]
                                apply TW_pure rfl (lt_some (by decide)) rfl
                                · intro r
                                  simp only [x_move, eX, ↓reduceIte, Nat.reduceEqDiff]
                                  exact ⟨rfl, Le.refl _⟩
                                simp only [eX, ↓reduceIte, Nat.reduceEqDiff, Int.reduceToNat]
                                apply TW_pure rfl (lt_some (by decide)) rfl
                                · intro r
                                  simp only [x_fieldAddr, fa117_1, add_mk, Nat.reduceAdd, Nat.zero_add, eX, ↓reduceIte, Nat.reduceEqDiff]
                                  exact ⟨rfl, Le.refl _⟩
                                simp only [eX, ↓reduceIte, Nat.reduceEqDiff, Int.reduceToNat]
                                apply TW_pure rfl (lt_some (by decide)) rfl
                                · intro r
                                  simp only [x_indexAddr, eX, ↓reduceIte, Nat.reduceEqDiff]
                                  refine Lt_indexA Try.underlying38 sz5 ixA ixA ?_
                                  try simp only [add_mk, Nat.mul_one, Nat.zero_add, Int.toNat_natCast]
                                  exact ⟨rfl, Le.refl _⟩
                                simp only [eX, ↓reduceIte, Nat.reduceEqDiff, Int.reduceToNat]
                                apply TW_look rfl (lt_some (by decide)) rfl
                                · intro r
                                  simp only [x_load, eX, ↓reduceIte, Nat.reduceEqDiff]
                                  refine Lt_loadAt1 Try.underlying5 rfl (by rw [hR21]; exact upd_same _ _ _) (v := .int .u8 (((X.getD k default).d.wait.getD j default).x.b.getD b 0)) (wt_byte _ (by omega)) ?_
                                  exact ⟨rfl, Le.refl _⟩
                                simp only [eX, ↓reduceIte, Nat.reduceEqDiff, Int.reduceToNat]
                                apply TW_pure rfl (lt_some (by decide)) rfl
                                · intro r
                                  simp only [x_indexAddr, eX, ↓reduceIte, Nat.reduceEqDiff]
                                  refine Lt_indexSof Try.underlying95 sz38 rfl ixA ixA ?_
                                  try simp only [Nat.zero_add]
                                  exact ⟨rfl, Le.refl _⟩
                                simp only [eX, ↓reduceIte, Nat.reduceEqDiff, Int.reduceToNat]
                                apply TW_pure rfl (lt_some (by decide)) rfl
                                · intro r
                                  simp only [x_indexAddr, eX, ↓reduceIte, Nat.reduceEqDiff]
                                  refine Lt_indexA Try.underlying38 sz5 ixA ixA ?_
                                  try simp only [add_mk, Nat.mul_one, Nat.zero_add, Int.toNat_natCast]
                                  exact ⟨rfl, Le.refl _⟩
                                simp only [eX, ↓reduceIte, Nat.reduceEqDiff, Int.reduceToNat]
                                refine TW_last rfl (lt_none) rfl (fun K hK r => ?_)
                                simp only [x_store, eX, ↓reduceIte, Nat.reduceEqDiff, Int.reduceToNat]
                                obtain ⟨r_, cap_, cr, e1, e2, hcr, hnr, hsr⟩ := hO3.full hL
                                cases e1
                                cases e2
                                have mc := Nat.mul_le_mul_right 64 (show ((X.getD k default).d.wait.getD j default).at_.toNat + 1 ≤ c34 by omega)
                                refine Lt_storeAt1 sz5 hcr (by rw [hsr]; omega) (plain_int _ _) fzA ?_
                                have hO' := OwnS.byte hO3 hcr (crW_len _ _ _ _).symm (i := ((X.getD k default).d.wait.getD j default).at_.toNat) (by omega) hb64
                                refine hK _ _ ?_; clear hK K
                                refine TW_nil ?_
                                try simp only [Ex.thnH, Ex.inBlockH, ↓reduceIte, Nat.reduceEqDiff]
                                refine hK28 _ _ ?_; try clear hK28 K28
                                refine CW_region ?_
                                refine OW_mv rfl ?_
                                refine OW_opS (fun K hK r => ?_)
                                simp (disch := (first | omega | decide)) only [x_bin, g_int, b_add, wrap_i64, wrap_u64, wrap_u32, wrap_u8, eX, ↓reduceIte, Nat.reduceEqDiff, Int.reduceToNat]
                                refine hK _ _ ?_; clear hK K
                                refine OW_as rfl ?_
                                refine OW_nil ?_
                                try simp only [Ex.thnH, Ex.inBlockH, ↓reduceIte, Nat.reduceEqDiff]
                                exact ⟨mo - (b + 1), by omega, b + 1, by omega, rfl, le_upd_of hlQ3 hrn, hO', (upd_ne _ _ (fun e => hO3.neT k11 (by decide) (by rw [e]))).trans k11, rfl, rfl, rfl, rfl, rfl, rfl, rfl, rfl, rfl, rfl, rfl, rfl, trivial⟩
                            · first
                              | (exfalso; exact cnA c90; done)
                              | skip
                                (try simp only [decide_eq_true_eq, decide_eq_false_iff_not, Bool.not_eq_true, Bool.not_eq_false, Bool.and_eq_true, Bool.or_eq_true, Bool.or_eq_false_iff, Bool.not_eq_true, Bool.not_eq_eq_eq_not, Bool.not_true, Bool.not_false] at c90)
                                have hbm : b = mo := by omega
                                have hlF : Le HQ HD := hlQ3
                                have hfin : OwnS HD 38 64 (.slice (some ⟨rb, 0, none⟩) (X.getD k default).d.sec.length c34) (X.getD k default).d.sec.length (secs (crW (fun n => keepOf l (k : Int) n) (X.getD k default).d.wait (X.getD k default).d.sec (j + 1))) (some rb) := by
                                  rw [crW_at (keepOf_at (by omega) hyes.1 hyes.2 hno) hmo2, ← hbm]
                                  exact hO3
                                refine CW_exit ?_
                                try simp only [Ex.thnH, Ex.inBlockH, ↓reduceIte, Nat.reduceEqDiff]
                                refine hK24 _ _ ?_; try clear hK24 K24
                                refine CW_exit ?_
                                try simp only [Ex.thnH, Ex.inBlockH, ↓reduceIte, Nat.reduceEqDiff]
                                exact ⟨hlF, hfin, rfl, rfl, rfl, rfl, rfl, rfl, rfl, rfl, trivial⟩
                        · first
                          | (exfalso; exact cnA c82; done)
                          | skip
                            (try simp only [decide_eq_true_eq, decide_eq_false_iff_not, Bool.not_eq_true, Bool.not_eq_false, Bool.and_eq_true, Bool.or_eq_true, Bool.or_eq_false_iff, Bool.not_eq_true, Bool.not_eq_eq_eq_not, Bool.not_true, Bool.not_false] at c82)
                            obtain ⟨mo, hmo, hmo2⟩ : ∃ mo : Nat, (mo : Int) = 64 ∧ mo = (if 0 < (l.getD q default).tear ∧ (l.getD q default).tear < 64 then (l.getD q default).tear.toNat else 64) := ⟨64, rfl, by rw [if_neg (by omega)]⟩
                            refine CW_skip ?_
                            try simp only [Ex.thnH, Ex.inBlockH, ↓reduceIte, Nat.reduceEqDiff]
                            refine hK22 _ _ ?_; try clear hK22 K22
                            refine CW_seq (fun K29 hK29 => ?_)
                            refine CW_seq (fun K30 hK30 => ?_)
                            refine CW_region ?_
                            refine OW_as rfl ?_
                            refine OW_nil ?_
                            try simp only [Ex.thnH, Ex.inBlockH, ↓reduceIte, Nat.reduceEqDiff]
                            refine hK30 _ _ ?_; try clear hK30 K30
                            refine CW_block ?_
                            refine CW_loop (fun m_ e H_ => ∃ b : Nat, b ≤ mo ∧ m_ = mo - b ∧ Le HQ H_ ∧ OwnS H_ 38 64 (.slice (some ⟨rb, 0, none⟩) (X.getD k default).d.sec.length c34) (X.getD k default).d.sec.length (secs ((crW (fun n => keepOf l (k : Int) n) (X.getD k default).d.wait (X.getD k default).d.sec j).set ((X.getD k default).d.wait.getD j default).at_.toNat (mixS ((X.getD k default).d.wait.getD j default).x ((crW (fun n => keepOf l (k : Int) n) (X.getD k default).d.wait (X.getD k default).d.sec j).getD ((X.getD k default).d.wait.getD j default).at_.toNat default) b))) (some rb) ∧ H_ b11 = some (.cells ((X.getD k default).d.wait.getD j default).c.toArray 117) ∧ Env.has [(1, .slice ka l.length kc), (2, .pointer (some ⟨b2, 0, none⟩)), (4, .pointer (some ⟨b4, 0, none⟩)), (5, .pointer (some ⟨b5, 0, none⟩)), (6, .int .i64 k), (7, .pointer (some ⟨b7, 0, none⟩)), (8, .slice (some ⟨rb, 0, none⟩) (X.getD k default).d.sec.length c34), (9, .int .i64 j), (10, .int .i64 q), (11, .pointer (some ⟨b11, 0, none⟩)), (12, .int .i64 (mo : Int)), (13, .int .i64 b)] e) (mo) ?_ ?_
                            · skip
                              refine ⟨0, by omega, by omega, Le.trans hlQ (le_upd _ _ _ (by assumption)), ?_, upd_same _ _ _, rfl, rfl, rfl, rfl, rfl, rfl, rfl, rfl, rfl, rfl, ?_, rfl, trivial⟩
                              · rw [set_same (by rw [crW_len]; omega)]
                                exact hO.make (by assumption)
                              · first
                                | (show some (Value.int _ _) = some (Value.int _ _); rw [hmo]; done)
                                | (show some (Value.int _ _) = some (Value.int _ _); rw [hmo]; rfl)
                            intro m_ e_ H_ hI_
                            obtain ⟨b, hbm_, rfl, hlQ3, hO3, k11, he⟩ := hI_
                            refine CW_env he.sub ?_; clear he e_
                            obtain ⟨HD, hHD⟩ : ∃ G : Hp, G = H_ := ⟨_, rfl⟩
                            subst hHD
                            refine CW_seq (fun K31 hK31 => ?_)
                            refine CW_seq (fun K32 hK32 => ?_)
                            refine CW_region ?_
                            refine OW_mv rfl ?_
                            refine OW_mv rfl ?_
                            refine OW_opS (fun K hK r => ?_)
                            simp (disch := (first | omega | decide)) only [x_bin, g_int, b_lss, dec_lt_t, dec_lt_f, dec_le_t, dec_le_f, dec_eq_t, dec_eq_f, Bool.not_true, Bool.not_false, eX, ↓reduceIte, Nat.reduceEqDiff, Int.reduceToNat]
                            refine hK _ _ ?_; clear hK K
                            refine OW_nil ?_
                            try simp only [Ex.thnH, Ex.inBlockH, ↓reduceIte, Nat.reduceEqDiff]
                            refine hK32 _ _ ?_; try clear hK32 K32
                            refine CW_cond (fun r => rfl) (fun c90 => ?_) (fun c90 => ?_)
                            · first
                              | (exfalso; exact cnA c90; done)
                              | skip
                                (try simp only [decide_eq_true_eq, decide_eq_false_iff_not, Bool.not_eq_true, Bool.not_eq_false, Bool.and_eq_true, Bool.or_eq_true, Bool.or_eq_false_iff, Bool.not_eq_true, Bool.not_eq_eq_eq_not, Bool.not_true, Bool.not_false] at c90)
                                have hb64 : b < 64 := by
                                  have : mo ≤ 64 := by rw [hmo2]; split <;> omega
                                  omega
                                refine CW_skip ?_
                                try simp only [Ex.thnH, Ex.inBlockH, ↓reduceIte, Nat.reduceEqDiff]
                                refine hK31 _ _ ?_; try clear hK31 K31
                                refine CW_seq (fun K33 hK33 => ?_)
                                refine CW_block ?_
                                obtain ⟨R21, hR21⟩ : ∃ R : Hp, R = emptyHp.upd b11 (.cells ((X.getD k default).d.wait.getD j default).c.toArray 117) := ⟨_, rfl⟩
                                refine CW_drawR [0, 0, 1, 0, 0, 0, 0, 1, 0, 0, 3] [0, 1, 2, 3, 4, 5, 6, 7, 8, 9, 10] R21 (by kernel_rfl) (by kernel_rfl) (by subst hR21; exact le_put (le_empty _) k11) (fun lR21 => ?_)
                                apply TW_pure rfl (lt_some (by decide)) rfl
                                · intro r
                                  simp only [x_move, eX, ↓reduceIte, Nat.reduceEqDiff]
                                  exact ⟨rfl, Le.refl _⟩
                                simp only [eX, ↓reduceIte, Nat.reduceEqDiff, Int.reduceToNat]
                                apply TW_pure rfl (lt_some (by decide)) rfl
                                · intro r
                                  simp only [x_fieldAddr, fa117_0, add_mk, Nat.reduceAdd, Nat.zero_add, eX, ↓reduceIte, Nat.reduceEqDiff]
                                  exact ⟨rfl, Le.refl _⟩
                                simp only [eX, ↓reduceIte, Nat.reduceEqDiff, Int.reduceToNat]
                                apply TW_look rfl (lt_some (by decide)) rfl
                                · intro r
                                  simp only [x_load, eX, ↓reduceIte, Nat.reduceEqDiff]
                                  refine Lt_loadAt1 Try.underlying3 rfl hbA ldA ?_
                                  exact ⟨rfl, Le.refl _⟩
                                simp only [eX, ↓reduceIte, Nat.reduceEqDiff, Int.reduceToNat]
                                apply TW_pure rfl (lt_some (by decide)) rfl
                                · intro r
                                  simp only [x_move, eX, ↓reduceIte, Nat.reduceEqDiff]
                                  exact ⟨rfl, Le.refl _⟩
                                simp only [eX, ↓reduceIte, Nat.reduceEqDiff, Int.reduceToNat]
                                apply TW_pure rfl (lt_some (by decide)) rfl
                                · intro r
                                  simp only [x_move, eX, ↓reduceIte, Nat.reduceEqDiff]
                                  exact ⟨rfl, Le.refl _⟩
                                simp only [eX, ↓reduceIte, Nat.reduceEqDiff, Int.reduceToNat]
                                apply TW_pure rfl (lt_some (by decide)) rfl
                                · intro r
                                  simp only [x_fieldAddr, fa117_1, add_mk, Nat.reduceAdd, Nat.zero_add, eX, ↓reduceIte, Nat.reduceEqDiff]
                                  exact ⟨rfl, Le.refl _⟩
                                simp only [eX, ↓reduceIte, Nat.reduceEqDiff, Int.reduceToNat]
                                apply TW_pure rfl (lt_some (by decide)) rfl
                                · intro r
                                  simp only [x_indexAddr, eX, ↓reduceIte, Nat.reduceEqDiff]
                                  refine Lt_indexA Try.underlying38 sz5 ixA ixA ?_
                                  try simp only [add_mk, Nat.mul_one, Nat.zero_add, Int.toNat_natCast]
                                  exact ⟨rfl, Le.refl _⟩
                                simp only [eX, ↓reduceIte, Nat.reduceEqDiff, Int.reduceToNat]
                                apply TW_look rfl (lt_some (by decide)) rfl
                                · intro r
                                  simp only [x_load, eX, ↓reduceIte, Nat.reduceEqDiff]
                                  refine Lt_loadAt1 Try.underlying5 rfl (by rw [hR21]; exact upd_same _ _ _) (v := .int .u8 (((X.getD k default).d.wait.getD j default).x.b.getD b 0)) (wt_byte _ (by omega)) ?_
                                  exact ⟨rfl, Le.refl _⟩
                                simp only [eX, ↓reduceIte, Nat.reduceEqDiff, Int.reduceToNat]
                                apply TW_pure rfl (lt_some (by decide)) rfl
                                · intro r
                                  simp only [x_indexAddr, eX, ↓reduceIte, Nat.reduceEqDiff]
                                  refine Lt_indexSof Try.underlying95 sz38 rfl ixA ixA ?_
                                  try simp only [Nat.zero_add]
                                  exact ⟨rfl, Le.refl _⟩
                                simp only [eX, ↓reduceIte, Nat.reduceEqDiff, Int.reduceToNat]
                                apply TW_pure rfl (lt_some (by decide)) rfl
                                · intro r
                                  simp only [x_indexAddr, eX, ↓reduceIte, Nat.reduceEqDiff]
                                  refine Lt_indexA Try.underlying38 sz5 ixA ixA ?_
                                  try simp only [add_mk, Nat.mul_one, Nat.zero_add, Int.toNat_natCast]
                                  exact ⟨rfl, Le.refl _⟩
                                simp only [eX, ↓reduceIte, Nat.reduceEqDiff, Int.reduceToNat]
                                refine TW_last rfl (lt_none) rfl (fun K hK r => ?_)
                                simp only [x_store, eX, ↓reduceIte, Nat.reduceEqDiff, Int.reduceToNat]
                                obtain ⟨r_, cap_, cr, e1, e2, hcr, hnr, hsr⟩ := hO3.full hL
                                cases e1
                                cases e2
                                have mc := Nat.mul_le_mul_right 64 (show ((X.getD k default).d.wait.getD j default).at_.toNat + 1 ≤ c34 by omega)
                                refine Lt_storeAt1 sz5 hcr (by rw [hsr]; omega) (plain_int _ _) fzA ?_
                                have hO' := OwnS.byte hO3 hcr (crW_len _ _ _ _).symm (i := ((X.getD k default).d.wait.getD j default).at_.toNat) (by omega) hb64
                                refine hK _ _ ?_; clear hK K
                                refine TW_nil ?_
                                try simp only [Ex.thnH, Ex.inBlockH, ↓reduceIte, Nat.reduceEqDiff]
                                refine hK33 _ _ ?_; try clear hK33 K33
                                refine CW_region ?_
                                refine OW_mv rfl ?_
                                refine OW_opS (fun K hK r => ?_)
                                simp (disch := (first | omega | decide)) only [x_bin, g_int, b_add, wrap_i64, wrap_u64, wrap_u32, wrap_u8, eX, ↓reduceIte, Nat.reduceEqDiff, Int.reduceToNat]
                                refine hK _ _ ?_; clear hK K
                                refine OW_as rfl ?_
                                refine OW_nil ?_
                                try simp only [Ex.thnH, Ex.inBlockH, ↓reduceIte, Nat.reduceEqDiff]
                                exact ⟨mo - (b + 1), by omega, b + 1, by omega, rfl, le_upd_of hlQ3 hrn, hO', (upd_ne _ _ (fun e => hO3.neT k11 (by decide) (by rw [e]))).trans k11, rfl, rfl, rfl, rfl, rfl, rfl, rfl, rfl, rfl, rfl, rfl, rfl, trivial⟩
                            · first
                              | (exfalso; exact cnA c90; done)
                              | skip
                                (try simp only [decide_eq_true_eq, decide_eq_false_iff_not, Bool.not_eq_true, Bool.not_eq_false, Bool.and_eq_true, Bool.or_eq_true, Bool.or_eq_false_iff, Bool.not_eq_true, Bool.not_eq_eq_eq_not, Bool.not_true, Bool.not_false] at c90)
                                have hbm : b = mo := by omega
                                have hlF : Le HQ HD := hlQ3
                                have hfin : OwnS HD 38 64 (.slice (some ⟨rb, 0, none⟩) (X.getD k default).d.sec.length c34) (X.getD k default).d.sec.length (secs (crW (fun n => keepOf l (k : Int) n) (X.getD k default).d.wait (X.getD k default).d.sec (j + 1))) (some rb) := by
                                  rw [crW_at (keepOf_at (by omega) hyes.1 hyes.2 hno) hmo2, ← hbm]
                                  exact hO3
                                refine CW_exit ?_
                                try simp only [Ex.thnH, Ex.inBlockH, ↓reduceIte, Nat.reduceEqDiff]
                                refine hK29 _ _ ?_; try clear hK29 K29
                                refine CW_exit ?_
                                try simp only [Ex.thnH, Ex.inBlockH, ↓reduceIte, Nat.reduceEqDiff]
                                exact ⟨hlF, hfin, rfl, rfl, rfl, rfl, rfl, rfl, rfl, rfl, trivial⟩
            · first
              | (exfalso; exact cnA c45; done)
              | skip
                (try simp only [decide_eq_true_eq, decide_eq_false_iff_not, Bool.not_eq_true, Bool.not_eq_false, Bool.and_eq_true, Bool.or_eq_true, Bool.or_eq_false_iff, Bool.not_eq_true, Bool.not_eq_eq_eq_not, Bool.not_true, Bool.not_false] at c45)
                have hqn : q = l.length := by omega
                have hlF : Le HQ HB := hlQ
                have hfin : OwnS HB 38 64 (.slice (some ⟨rb, 0, none⟩) (X.getD k default).d.sec.length c34) (X.getD k default).d.sec.length (secs (crW (fun n => keepOf l (k : Int) n) (X.getD k default).d.wait (X.getD k default).d.sec (j + 1))) (some rb) := by
                  rw [crW_no (keepOf_no (fun t ht => hno t (by omega)))]
                  exact hO
                refine CW_exit ?_
                try simp only [Ex.thnH, Ex.inBlockH, ↓reduceIte, Nat.reduceEqDiff]
                exact ⟨hlF, hfin, rfl, rfl, rfl, rfl, rfl, rfl, rfl, rfl, trivial⟩
          rintro e_ H2_ ⟨hlQ2, hO2, he⟩
          refine CW_env he.sub ?_; clear he e_
          refine CW_region ?_
          refine OW_mv rfl ?_
          refine OW_opS (fun K hK r => ?_)
          simp (disch := (first | omega | decide)) only [x_bin, g_int, b_add, wrap_i64, wrap_u64, wrap_u32, wrap_u8, eX, ↓reduceIte, Nat.reduceEqDiff, Int.reduceToNat]
          refine hK _ _ ?_; clear hK K
          refine OW_as rfl ?_
          refine OW_nil ?_
          try simp only [Ex.thnH, Ex.inBlockH, ↓reduceIte, Nat.reduceEqDiff]
          exact ⟨(X.getD k default).d.wait.length - (j + 1), by omega, j + 1, by omega, rfl, hlQ2, hO2, rfl, rfl, rfl, rfl, rfl, rfl, rfl, rfl, trivial⟩
      · first
        | (exfalso; exact cnA c39; done)
        | skip
          (try simp only [decide_eq_true_eq, decide_eq_false_iff_not, Bool.not_eq_true, Bool.not_eq_false, Bool.and_eq_true, Bool.or_eq_true, Bool.or_eq_false_iff, Bool.not_eq_true, Bool.not_eq_eq_eq_not, Bool.not_true, Bool.not_false] at c39)
          have hjn : j = (X.getD k default).d.wait.length := by omega
          have hAQ : Le HA HQ := by rw [hHQ]; exact le_upd _ _ _ hb7
          have hlA : Le HA HB := Le.trans hAQ hlQ
          have x2 := hN.own.neT k2 (by decide)
          have x4 := hN.own.neT k4 (by decide)
          have x5 := hN.own.neT k5 (by decide)
          have y2 := hlA _ _ k2
          have y4 := hlA _ _ k4
          have y5 := hlA _ _ k5
          have hrA : HA rb = none := none_of_le hAQ hrn
          obtain ⟨r_, cap_, cr, e1, e2, hcr, hnr, hsr⟩ := hO.full hL
          cases e1
          cases e2
          have ownB := hN.own.stay (H' := HB) (fun b o _ ho => hlA b o ho)
          have hyS : Holds (emptyHp.upd rb (.cells cr 38)) 64 (.slice (some ⟨rb, 0, none⟩) (X.getD k default).d.sec.length c34) (X.getD k default).d.sec.length (secs (crW (fun n => keepOf l (k : Int) n) (X.getD k default).d.wait (X.getD k default).d.sec j)) := (hO.stay (fun b o hb ho => by cases hb; rw [hcr] at ho; cases ho; exact upd_same _ _ _)).holds
          have zrb : rs ≠ some rb := fun e => hN.own.known rb e hrA
          refine CW_exit ?_
          try simp only [Ex.thnH, Ex.inBlockH, ↓reduceIte, Nat.reduceEqDiff]
          refine hK10 _ _ ?_; try clear hK10 K10
          refine CW_region ?_
          refine OW_opS (fun K hK r => ?_)
          simp only [x_fieldAddr, fa59_0, add_mk, Nat.reduceAdd, Nat.zero_add, eX, ↓reduceIte, Nat.reduceEqDiff, Int.reduceToNat]
          refine hK _ _ ?_; clear hK K
          refine OW_opS (fun K hK r => ?_)
          simp only [x_load, eX, ↓reduceIte, Nat.reduceEqDiff, Int.reduceToNat]
          refine Lt_loadAt1 Try.underlying57 rfl hbA ldA ?_
          try simp only [eX, ↓reduceIte, Nat.reduceEqDiff, Int.reduceToNat]
          refine hK _ _ ?_; clear hK K
          refine OW_mv rfl ?_
          refine OW_opS (fun K hK r => ?_)
          simp only [x_build, bp98, List.map_toArray, List.map_cons, List.map_nil, eX, ↓reduceIte, Nat.reduceEqDiff, Int.reduceToNat]
          rw [fill_one rfl clA bdA]
          simp only [fill_nil, orF_some, List.setIfInBounds_toArray, List.set_cons_zero, List.set_cons_succ]
          try simp only [eX, ↓reduceIte, Nat.reduceEqDiff, Int.reduceToNat]
          refine hK _ _ ?_; clear hK K
          refine OW_opS (fun K hK r => ?_)
          simp only [x_buildSlice, List.map_toArray, List.map_cons, List.map_nil, eX, ↓reduceIte, Nat.reduceEqDiff, Int.reduceToNat]
          refine Lt_buildSlice (vs := [_]) Try.underlying57 sz98 zr98 rfl bsA (by first | decide | (simp; done)) ?_
          simp only [List.flatMap_cons, List.flatMap_nil, Value.cells, List.append_nil, List.cons_append, List.nil_append, List.length_cons, List.length_nil, Nat.zero_add, Nat.reduceAdd]
          intro b107 hb107
          try have n107_b2 : b2 ≠ b107 := ne_of_none hbA hb107
          try have n107_b4 : b4 ≠ b107 := ne_of_none hbA hb107
          try have n107_b5 : b5 ≠ b107 := ne_of_none hbA hb107
          try have n107_b7 : b7 ≠ b107 := ne_of_none hbA hb107
          try have n107_b31 : b31 ≠ b107 := ne_of_none hbA hb107
          have f107_H : H b107 = none := none_of_le lhA hb107
          try simp only [eX, ↓reduceIte, Nat.reduceEqDiff, Int.reduceToNat]
          refine hK _ _ ?_; clear hK K
          refine OW_opS (fun K hK r => ?_)
          simp only [x_builtin, l_append, List.map_toArray, List.map_cons, List.map_nil, eX, ↓reduceIte, Nat.reduceEqDiff, Int.reduceToNat]
          have h107 : HB b107 = none := hb107
          refine Lt_append Try.underlying57 Try.underlying57 (by simp) sz98 by98 (by decide) zr98 rfl _ (n := k) (m := 1) (ds := [.slice (some ⟨rb, 0, none⟩) (X.getD k default).d.sec.length c34, .slice none 0 0]) (ownB.make h107) (fun Kx => len_slice _ _ _ Kx) (fun Kx => first_slice (w := 2) (n := 1) (cs := [.slice (some ⟨rb, 0, none⟩) (X.getD k default).d.sec.length c34, .slice none 0 0]) ⟨rfl, .inr ⟨b107, 0, 1, _, _, _, rfl, hbA, by simp, by simp⟩⟩ Kx) rfl (PlainL.cons (plain_slice _ _ _) (PlainL.cons (plain_slice _ _ _) PlainL.nil)) (by omega) ?_
          intro v108 H108 rs108 hg108 ho108 hr108
          obtain ⟨wa108, wc108, rfl⟩ := ho108.holds.form
          have q108 : ∀ z o, HB z = some o → rs ≠ some z → H108 z = some o := fun z o hz hne => hg108.known z o ((upd_ne _ _ (ne_of_none hz h107)).trans hz) hne
          have z2 := q108 _ _ y2 x2
          have z4 := q108 _ _ y4 x4
          have z5 := q108 _ _ y5 x5
          have zb := q108 _ _ hcr zrb
          have w5 := ho108.neT z5 (by decide)
          have nb5 : rb ≠ b5 := fun e => by subst e; rw [k5] at hrA; cases hrA
          have nb2 : b2 ≠ rb := ne_of_none k2 hrA
          have nb4 : b4 ≠ rb := ne_of_none k4 hrA
          have nb55 : b5 ≠ rb := ne_of_none k5 hrA
          have hr108' : ∀ r, rs108 = some r → rs = some r ∨ (HA r = none ∧ r ≠ rb) := fun r e => (hr108 r e).imp id (fun hn => by
            have h2 := upd_none hn
            exact ⟨none_of_le hlA h2, fun e => by subst e; rw [hcr] at h2; cases h2⟩)
          refine hK _ _ ?_; clear hK K
          refine OW_opS (fun K hK r => ?_)
          simp only [x_fieldAddr, fa59_0, add_mk, Nat.reduceAdd, Nat.zero_add, eX, ↓reduceIte, Nat.reduceEqDiff, Int.reduceToNat]
          refine hK _ _ ?_; clear hK K
          refine OW_op rfl (lt_none) (fun K hK r => ?_)
          simp only [x_store, eX, ↓reduceIte, Nat.reduceEqDiff, Int.reduceToNat]
          refine Lt_storeAt1 sz57 hbA bdA plA fzA ?_
          try simp only [setL0, setL1, setL2, setL3, setL4, setL5, setL6, setL7, setL8, setL9]
          try simp only [eX, ↓reduceIte, Nat.reduceEqDiff, Int.reduceToNat]
          refine hK _ _ ?_; clear hK K
          refine OW_nil ?_
          try simp only [Ex.thnH, Ex.inBlockH, ↓reduceIte, Nat.reduceEqDiff]
          refine hK7 _ _ ?_; try clear hK7 K7
          refine CW_region ?_
          refine OW_mv rfl ?_
          refine OW_opS (fun K hK r => ?_)
          simp (disch := (first | omega | decide)) only [x_bin, g_int, b_add, wrap_i64, wrap_u64, wrap_u32, wrap_u8, eX, ↓reduceIte, Nat.reduceEqDiff, Int.reduceToNat]
          refine hK _ _ ?_; clear hK K
          refine OW_as rfl ?_
          refine OW_nil ?_
          try simp only [Ex.thnH, Ex.inBlockH, ↓reduceIte, Nat.reduceEqDiff]
          have hN' := hN.next (HF := H108.upd b5 (.cells #[.slice wa108 (k + 1) wc108, .int .i64 m.steps, .int .i64 m.left, .bool false, .bool false] 59)) (y := ⟨some ⟨rb, 0, none⟩, c34, none, 0, ⟨(crW (fun n => keepOf l (k : Int) n) (X.getD k default).d.wait (X.getD k default).d.sec j), []⟩⟩) (o := .cells cr 38) (by omega) hrA ⟨by rw [crW_len]; exact hyS, ⟨rfl, .inl ⟨none, 0, rfl, rfl⟩⟩⟩ (by rw [cr_dv _ _ _ (by omega), hm, rdv_at, hjn]) (v' := .slice wa108 (k + 1) wc108) (rs' := rs108) (by simp only [RDX.c, crW_len]; exact ho108.upd w5) ((upd_ne _ _ nb5).trans zb) (fun x o hx hc => (upd_ne _ _ (fun e => ?_)).trans (q108 x o (hlA _ _ hx) (fun e => ?_))) hr108'
          refine ⟨X.length - (k + 1), by omega, k + 1, _, rs108, _, _, by omega, rfl, hN', (upd_ne _ _ nb2).trans g2, (upd_ne _ _ nb4).trans g4, (upd_ne _ _ nb55).trans g5, (upd_ne _ _ (by assumption)).trans z2, (upd_ne _ _ (by assumption)).trans z4, upd_same _ _ _, rfl, rfl, rfl, rfl, rfl, trivial⟩
          · subst e
            rcases hc with h1 | h1
            · exact h1 g5
            · exact h1 f5_H
          · rcases hc with h1 | h1
            · exact h1 (hN.frr x e).2
            · exact h1 (hN.frr x e).1
  · first
    | (exfalso; exact cnA c23; done)
    | skip
      (try simp only [decide_eq_true_eq, decide_eq_false_iff_not, Bool.not_eq_true, Bool.not_eq_false, Bool.and_eq_true, Bool.or_eq_true, Bool.or_eq_false_iff, Bool.not_eq_true, Bool.not_eq_eq_eq_not, Bool.not_true, Bool.not_false] at c23)
      have hkn : k = X.length := by omega
      refine CW_exit ?_
      try simp only [Ex.thnH, Ex.inBlockH, ↓reduceIte, Nat.reduceEqDiff]
      refine hK3 _ _ ?_; try clear hK3 K3
      refine CW_seq (fun K34 hK34 => ?_)
      refine CW_region ?_
      refine OW_opS (fun K hK r => ?_)
      simp only [x_load, eX, ↓reduceIte, Nat.reduceEqDiff, Int.reduceToNat]
      first | refine Lt_loadAll Try.underlying59 rfl sz59 hbA bdA ?_ | refine Lt_loadAtA Try.underlying59 rfl sz59 hbA bdA ?_
      try simp only [List.extract_toArray, List.extract_eq_take_drop, Nat.zero_add, Nat.reduceAdd, Nat.reduceSub, Nat.sub_zero, List.drop_succ_cons, List.drop_zero, List.take_succ_cons, List.take_zero, List.take_nil, List.drop_nil]
      try simp only [eX, ↓reduceIte, Nat.reduceEqDiff, Int.reduceToNat]
      refine hK _ _ ?_; clear hK K
      refine OW_op rfl (lt_none) (fun K hK r => ?_)
      simp only [x_store, eX, ↓reduceIte, Nat.reduceEqDiff, Int.reduceToNat]
      first | refine Lt_storeAll sz59 bdA hbA bdA plA (by decide) ?_ | refine Lt_storeAtA sz59 bdA hbA bdA plA (by decide) ?_
      try simp only [eX, ↓reduceIte, Nat.reduceEqDiff, Int.reduceToNat]
      refine hK _ _ ?_; clear hK K
      refine OW_nil ?_
      try simp only [Ex.thnH, Ex.inBlockH, ↓reduceIte, Nat.reduceEqDiff]
      refine hK34 _ _ ?_; try clear hK34 K34
      refine CW_ret ?_
      try simp only [Ex.thnH, Ex.inBlockH, ↓reduceIte, Nat.reduceEqDiff]
      refine ⟨[_], ⟨⟨_, rfl, Lq_loadAll Try.underlying59 rfl sz59 hbA bdA⟩, trivial⟩, _, Le.refl _, va, vc, Y, by rw [hN.len, hkn], ?_, ?_, ⟨?_, fun x hx => (hN.ok x hx).le (le_upd_of hN.le g4)⟩, ?_⟩
      · exact le_upd_of hOld f4_H
      · rw [hN.len]; rfl
      · rw [hN.len]
        exact (hN.own.upd (hN.own.neT k4 (by decide))).holds
      · rw [hN.dv, List.take_of_length_le (by omega)]

end Go.Proofs.Ytkmjncmdhinlgaa.HL
end
section
namespace Go.Proofs.Ytkmjncmdhinlgaa.HL
open Go Go.Proofs
set_option linter.unusedSimpArgs false
set_option linter.unusedVariables false
attribute [local irreducible] Lt Lq CW OW TW CallH


/-- an act by the program, and by the document -/
def St.act (s : St) (o : Op1) : St := if o.kind = 1 then (s.wr o.dev o.n (fullS o.b)).1 else if o.kind = 2 then (s.fl o.dev).1 else if o.kind = 4 then (if o.n < 0 then s else { s with armed := true, left := o.n }) else if o.kind = 5 then s.cr o.keep else s
def RSt.act (m : RSt) (o : Op1) : RSt := if o.kind = 1 then (m.put o.dev o.n (fullS o.b)).1 else if o.kind = 2 then (m.fl o.dev).1 else if o.kind = 4 then (if o.n < 0 then m else { m with armed := true, left := o.n }) else if o.kind = 5 then m.cr o.keep else m
/-- a set and the document's behind so many acts -/
structure PR (k : Nat) (s : St) (m : RSt) : Prop where
  rl : Rl s m
  sm : Sm k s
  sz : ∀ i, i < m.dv.length → 0 < (m.dv.getD i default).sec.length ∧ (m.dv.getD i default).sec.length ≤ 5000
  lf : m.armed = true → m.left ≤ 9223372036854775807
def SzEq (m q : RSt) : Prop := q.dv.length = m.dv.length ∧ ∀ i, i < m.dv.length → (q.dv.getD i default).sec.length = (m.dv.getD i default).sec.length
theorem SzEq.of {m q : RSt} (h : q.dv = m.dv) : SzEq m q := ⟨by rw [h], fun i _ => by rw [h]⟩
theorem SzEq.set {m q : RSt} {k : Nat} {d : RDv} (h : q.dv = m.dv.set k d) (hd : d.sec.length = (m.dv.getD k default).sec.length) : SzEq m q := by
  refine ⟨by rw [h, List.length_set], fun i hi => ?_⟩
  rw [h, getD_set']
  split
  · rename_i e; rw [hd, e.1]
  · rfl
theorem RSt.put_sz (m : RSt) (dev i : Int) (x : Sec) : SzEq m (m.put dev i x).1 := by
  rcases rput_cases m dev i x with ⟨_, e⟩ | ⟨_, _, e⟩ | ⟨_, _, e⟩
  · rw [e]; exact .of rfl
  · rw [e]; exact .of m.step_dv
  · rw [e]; exact .set (k := dev.toNat) rfl rfl
theorem RSt.fl_sz (m : RSt) (dev : Int) : SzEq m (m.fl dev).1 := by
  rcases rfl_cases m dev with ⟨_, e⟩ | ⟨_, _, e⟩ | ⟨_, _, e⟩
  · rw [e]; exact .of rfl
  · rw [e]; exact .of m.step_dv
  · rw [e]; exact .set (k := dev.toNat) rfl (doneL_len _ _)
theorem RSt.cr_sz (m : RSt) (l : List Kp) : SzEq m (m.cr l) := by
  refine ⟨by simp [RSt.cr], fun i hi => ?_⟩
  rw [cr_dv m l i hi]
  exact crW_len _ _ _ _
theorem RSt.act_sz (m : RSt) (o : Op1) : SzEq m (m.act o) := by
  unfold RSt.act
  split
  · exact m.put_sz _ _ _
  split
  · exact m.fl_sz _
  split
  · split <;> exact .of rfl
  split
  · exact m.cr_sz _
  · exact .of rfl
def LfOk (m : RSt) : Prop := m.armed = true → 0 ≤ m.left ∧ m.left ≤ 9223372036854775807
theorem LfOk.step {m : RSt} (h : LfOk m) : LfOk m.step.1 := by
  unfold RSt.step
  split
  · exact h
  split
  · exact h
  · rename_i h1 h2
    intro ha
    have := h ha
    have hne : m.left ≠ 0 := fun e => h2 ⟨ha, e⟩
    show 0 ≤ (if m.armed = true then IntKind.i64.wrap (m.left - 1) else m.left) ∧ (if m.armed = true then IntKind.i64.wrap (m.left - 1) else m.left) ≤ _
    have ha' : m.armed = true := ha
    rw [if_pos ha', wrap_i64 _ (by omega) (by omega)]
    omega
theorem LfOk.act {m : RSt} (h : LfOk m) (o : Op1) (hn : o.n ≤ 9223372036854775807) : LfOk (m.act o) := by
  unfold RSt.act
  split
  · rcases rput_cases m o.dev o.n (fullS o.b) with ⟨_, e⟩ | ⟨_, _, e⟩ | ⟨_, _, e⟩
    · rw [e]; exact h
    · rw [e]; exact h.step
    · rw [e]; exact h.step
  split
  · rcases rfl_cases m o.dev with ⟨_, e⟩ | ⟨_, _, e⟩ | ⟨_, _, e⟩
    · rw [e]; exact h
    · rw [e]; exact h.step
    · rw [e]; exact h.step
  split
  · split
    · exact h
    · rename_i h1; exact fun _ => ⟨by show 0 ≤ o.n; omega, hn⟩
  split
  · exact fun h1 => by cases h1
  · exact h
theorem PR.lfo {k : Nat} {s : St} {m : RSt} (h : PR k s m) : LfOk m := fun ha => ⟨(h.rl.le ha).2, h.lf ha⟩
theorem PR.act {k : Nat} {s : St} {m : RSt} (h : PR k s m) (o : Op1) (hn : o.n ≤ 9223372036854775807) : PR (k + 1) (s.act o) (m.act o) := by
  refine ⟨?_, ?_, fun i hi => ?_, fun ha => (h.lfo.act o hn ha).2⟩
  · unfold St.act RSt.act
    split
    · exact (h.rl.put h.lf _ _ _).1
    split
    · exact (h.rl.flush h.lf _).1
    split
    · split
      · exact h.rl
      · rename_i h1; exact ⟨h.rl.st, h.rl.go, rfl, fun _ => ⟨rfl, by show 0 ≤ o.n; omega⟩, h.rl.len, h.rl.dv⟩
    split
    · exact h.rl.crash _
    · exact h.rl
  · unfold St.act
    split
    · exact h.sm.wr _ _ _
    split
    · exact (h.sm.fl _).up (by omega)
    split
    · split
      · exact h.sm.up (by omega)
      · exact (h.sm.of_dv rfl).up (by omega)
    split
    · exact (h.sm.cr _).up (by omega)
    · exact h.sm.up (by omega)
  · obtain ⟨e1, e2⟩ := m.act_sz o
    rw [e1] at hi
    rw [e2 i hi]
    exact h.sz i hi
theorem PR.up {k n : Nat} {s : St} {m : RSt} (h : PR k s m) (hn : k ≤ n) : PR n s m := ⟨h.rl, h.sm.up hn, h.sz, h.lf⟩
theorem PR.rg {k : Nat} {s : St} {m : RSt} (h : PR k s m) {X : List RDX} (hm : m.dv = rdv X) : ∀ i, i < X.length → RG k (X.getD i default).d := fun i hi => by
  have hlen : m.dv.length = X.length := by rw [hm]; simp
  have hi' : i < m.dv.length := by omega
  have h1 := h.sz i hi'
  have h2 := h.rl.dv i hi'
  have h3 := h.sm.2 i
  rw [h2.wa] at h3
  have h4 := h2.at_
  rw [hm, rdv_at] at h1 h3 h4
  exact ⟨h1.1, h1.2, h3, h4⟩
theorem PR.len {k : Nat} {s : St} {m : RSt} (h : PR k s m) {X : List RDX} (hm : m.dv = rdv X) : X.length ≤ 5 ∧ s.dv.length = X.length := by
  have hlen : m.dv.length = X.length := by rw [hm]; simp
  have := h.sm.1
  have := h.rl.len
  omega
theorem PR.wt {k : Nat} {s : St} {m : RSt} (h : PR k s m) : ∀ i, (m.dv.getD i default).wait.length ≤ k := fun i => by
  by_cases hi : i < m.dv.length
  · rw [← (h.rl.dv i hi).wa]; exact h.sm.2 i
  · rw [List.getD_eq_getElem?_getD, List.getElem?_eq_none (by omega)]; exact Nat.zero_le _
theorem newS_at (l : List Int) (i : Nat) (hi : i < l.length) : (newSt l).dv.getD i default = newDv (l.getD i default) ∧ (newRs l).dv.getD i default = newR (l.getD i default) := by
  simp [newSt, newRs, List.getD_eq_getElem?_getD, List.getElem?_eq_getElem hi]
theorem good_at {l : List Int} (h : goodN l = true) (i : Nat) (hi : i < l.length) : 1 ≤ l.getD i default ∧ l.getD i default ≤ 4096 := by
  unfold goodN at h
  simp only [Bool.and_eq_true, List.all_eq_true] at h
  have := h.2 (l.getD i default) (by rw [List.getD_eq_getElem?_getD, List.getElem?_eq_getElem hi]; exact List.getElem_mem hi)
  unfold okN at this
  simpa using this
theorem PR.new {l : List Int} (h : goodN l = true) : PR 0 (newSt l) (newRs l) := by
  have hl : l.length ≤ 5 := by
    unfold goodN at h
    simp only [Bool.and_eq_true, decide_eq_true_eq] at h
    exact h.1.2
  refine ⟨⟨rfl, rfl, rfl, fun h => (by cases h), by simp [newSt, newRs], fun i hi => ?_⟩, Sm.new hl, fun i hi => ?_, fun h => by cases h⟩
  · have hi' : i < l.length := by simpa [newRs] using hi
    obtain ⟨e1, e2⟩ := newS_at l i hi'
    have hg := good_at h i hi'
    rw [e1, e2]
    refine ⟨?_, fun j => ?_, rfl, fun k hk => by simp [newR] at hk⟩
    · simp only [newDv, newR, List.length_replicate]; omega
    · show Sec.zero = _
      split
      · rename_i hj
        simp only [newR, List.length_replicate] at hj
        simp only [newR]
        rw [List.getD_eq_getElem?_getD, List.getElem?_replicate, if_pos (by omega)]
        rfl
      · rfl
  · have hi' : i < l.length := by simpa [newRs] using hi
    obtain ⟨e1, e2⟩ := newS_at l i hi'
    have hg := good_at h i hi'
    rw [e2]
    simp only [newR, List.length_replicate]
    omega
theorem Stn.side {H K F : Hp} {p : Nat} {s : St} (hA : Stn H K F p s) {G K' : Hp} (lG : Le G K') (hk : ∀ b o, K b = some o → H b = none → K' b = some o ∧ G b = none) : Stn G K' F p s := by
  have hx : ∀ b o, F b = some o → K' b = some o ∧ G b = none := fun b o hb => hk b o (hA.le b o hb) (by
    cases hc : H b with
    | none => rfl
    | some o' => have := hA.ap b (by rw [hc]; simp); rw [hb] at this; cases this)
  refine ⟨hA.set, fun b o hb => (hx b o hb).1, lG, fun b hb => ?_⟩
  cases hc : F b with
  | none => rfl
  | some o => exact absurd (hx b o hc).2 hb
theorem Stn.off {H K F : Hp} {p : Nat} {s : St} (hA : Stn H K F p s) {b : Nat} (hF : F b = none) (hH : H b = none) (o : Obj) : Stn H (K.upd b o) F p s := ⟨hA.set, le_upd_of hA.le hF, le_upd_of hA.old hH, hA.ap⟩
theorem PR.put2 {k : Nat} {s : St} {m : RSt} (h : PR k s m) (dev i : Int) (x : Sec) : (m.put dev i x).2 = (s.wr dev i x).2.getD 0 := (h.rl.put h.lf dev i x).2
theorem PR.fl2 {k : Nat} {s : St} {m : RSt} (h : PR k s m) (dev : Int) : (m.fl dev).2 = (s.fl dev).2.getD 0 := (h.rl.flush h.lf dev).2
theorem wr_err (s : St) (dev i : Int) (x : Sec) : errOk (s.wr dev i x).2 := fun k hk => by
  rcases wr_cases s dev i x with ⟨_, e, _⟩ | ⟨_, e, _⟩ | ⟨_, e, _⟩ <;> rw [e] at hk <;> cases hk <;> decide
theorem fl_err (s : St) (dev : Int) : errOk (s.fl dev).2 := fun k hk => by
  rcases fl_cases s dev with ⟨_, e, _⟩ | ⟨_, e, _⟩ | ⟨_, e, _⟩ <;> rw [e] at hk <;> cases hk <;> decide
theorem rd_err (s : St) (dev i : Int) : errOk (s.rd dev i).2 := fun k hk => by
  unfold St.rd at hk
  split at hk
  · cases hk; decide
  split at hk
  · cases hk
  · cases hk; decide

end Go.Proofs.Ytkmjncmdhinlgaa.HL
end
section
namespace Go.Proofs.Ytkmjncmdhinlgaa.HL
open Go Go.Proofs
set_option linter.unusedSimpArgs false
set_option linter.unusedVariables false
attribute [local irreducible] Lt Lq CW OW TW CallH


theorem q_sec {H : Hp} (x y : Sec) (K : Bool → Hp → Prop) : Lt Try.prog (Op.equalIn (9999 + 1) 38 (.agg x.c.toArray) (.agg y.c.toArray)) H K = K (decide (x = y)) H := by
  have h := q_array (P := Try.prog) (H := H) 9999 38 5 64 Try.underlying38 .u8 Try.underlying5 sz5 (fun x y K => q_int 9998 5 _ Try.underlying5 _ x y K) x.b y.b x.h y.h K
  refine h.trans ?_
  congr 1
  exact decide_eq_decide.2 ⟨fun e => Sec.ext e, fun e => by rw [e]⟩
theorem OwnS.part {H : Hp} {E : TypeId} {w : Nat} {v : Value} {n : Nat} {cs : List Value} {rs : Option Nat} (h : OwnS H E w v n cs rs) : ∃ G, Le G H ∧ Holds G w v n cs ∧ ∀ x, G x ≠ none → rs = some x := by
  obtain ⟨h1, ⟨h2, h3, h4⟩ | ⟨r, cap, c, h2, h3, h4, h5, h6, h7⟩⟩ := h
  · exact ⟨emptyHp, le_empty _, ⟨h1, .inl ⟨none, 0, h2, h3⟩⟩, fun x hx => absurd rfl hx⟩
  · refine ⟨emptyHp.upd r (.cells c E), le_put (le_empty _) h3, OwnS.holds (E := E) (rs := rs) ⟨h1, .inr ⟨r, cap, c, h2, upd_same _ _ _, h4, h5, h6, h7⟩⟩, fun x hx => ?_⟩
    by_cases e : x = r
    · rw [e]; exact h7
    · rw [upd_ne _ _ e] at hx; exact absurd rfl hx

set_option maxRecDepth 100000 in
set_option maxHeartbeats 16000000 in
theorem do_ok (Q H F : Hp) (p : Nat) (s : St) (hA : Stn Q H F p s) (a : Option Addr) (cap : Nat) (X : List RDX) (hX : RX Q a cap X) (m : RSt) (hm : m.dv = rdv X) (k : Nat) (hP : PR k s m) (hk : k ≤ 1000) (o : Op1) (ho : o.ok Q) (hol : o.keep.length ≤ 60) : CallH Try.prog 25 #[.pointer (some ⟨p, 0, none⟩), m.v (.slice a X.length cap), .agg o.c.toArray] H (fun v H' => ∃ Q' F' a' cap' X', X'.length = X.length ∧ Le Q Q' ∧ Stn Q' H' F' p (s.act o) ∧ v = .tuple #[(m.act o).v (.slice a' X'.length cap'), .bool true] ∧ RX Q' a' cap' X' ∧ (m.act o).dv = rdv X') := by
  refine CallH_enter (l := [_, _, _]) (rl := [.cell 6 59, .tmp 7]) (n := 108) Try.func25 rfl rfl rfl rfl rfl ?_
  simp only [envOf, Nat.reduceAdd]
  obtain ⟨hl5, hsl⟩ := hP.len hm
  refine CW_seq (fun K1 hK1 => ?_)
  refine CW_region ?_
  refine OW_opS (fun K hK r => ?_)
  simp only [x_box, Value.cells, eX, ↓reduceIte, Nat.reduceEqDiff, Int.reduceToNat]
  intro b4 hb4
  have f4_H : H b4 = none := none_of_le lhA hb4
  try simp only [eX, ↓reduceIte, Nat.reduceEqDiff, Int.reduceToNat]
  refine hK _ _ ?_; clear hK K
  refine OW_opS (fun K hK r => ?_)
  simp only [x_box, Value.cells, eX, ↓reduceIte, Nat.reduceEqDiff, Int.reduceToNat]
  intro b5 hb5
  try have n5_b4 : b4 ≠ b5 := ne_of_none hbA hb5
  have f5_H : H b5 = none := none_of_le lhA hb5
  try simp only [eX, ↓reduceIte, Nat.reduceEqDiff, Int.reduceToNat]
  refine hK _ _ ?_; clear hK K
  refine OW_opS (fun K hK r => ?_)
  simp only [x_alloc, zr59, orF_some, Value.cells, eX, ↓reduceIte, Nat.reduceEqDiff, Int.reduceToNat]
  intro b6 hb6
  try have n6_b4 : b4 ≠ b6 := ne_of_none hbA hb6
  try have n6_b5 : b5 ≠ b6 := ne_of_none hbA hb6
  have f6_H : H b6 = none := none_of_le lhA hb6
  have hA4 := hA.put (hA.fresh hb4) (.cells (m.c (.slice a X.length cap)).toArray 59)
  have hA5 := hA4.put (hA4.fresh hb5) (.cells o.c.toArray 35)
  have hA6 : Stn (((Q.upd b4 (.cells (m.c (.slice a X.length cap)).toArray 59)).upd b5 (.cells o.c.toArray 35)).upd b6 (.cells #[.slice none 0 0, .int .i64 0, .int .i64 0, .bool false, .bool false] 59)) (((H.upd b4 (.cells (m.c (.slice a X.length cap)).toArray 59)).upd b5 (.cells o.c.toArray 35)).upd b6 (.cells #[.slice none 0 0, .int .i64 0, .int .i64 0, .bool false, .bool false] 59)) F p s := hA5.put (hA5.fresh hb6) _
  have hO6 := hA6.old
  have q4 : Q b4 = none := none_of_le hA.old hb4
  have q5 : Q b5 = none := none_of_le hA.old (upd_none hb5)
  have q6 : Q b6 = none := none_of_le hA.old (upd_none (upd_none hb6))
  have lQ : Le Q (((Q.upd b4 (.cells (m.c (.slice a X.length cap)).toArray 59)).upd b5 (.cells o.c.toArray 35)).upd b6 (.cells #[.slice none 0 0, .int .i64 0, .int .i64 0, .bool false, .bool false] 59)) := le_upd_of (le_upd_of (le_upd _ _ _ q4) q5) q6
  try simp only [eX, ↓reduceIte, Nat.reduceEqDiff, Int.reduceToNat]
  refine hK _ _ ?_; clear hK K
  refine OW_as rfl ?_
  refine OW_nil ?_
  try simp only [Ex.thnH, Ex.inBlockH, ↓reduceIte, Nat.reduceEqDiff]
  refine hK1 _ _ ?_; try clear hK1 K1
  refine CW_seq (fun K2 hK2 => ?_)
  refine CW_region ?_
  refine OW_as rfl ?_
  refine OW_nil ?_
  try simp only [Ex.thnH, Ex.inBlockH, ↓reduceIte, Nat.reduceEqDiff]
  refine hK2 _ _ ?_; try clear hK2 K2
  refine CW_seq (fun K3 hK3 => ?_)
  refine CW_region ?_
  refine OW_as rfl ?_
  refine OW_nil ?_
  try simp only [Ex.thnH, Ex.inBlockH, ↓reduceIte, Nat.reduceEqDiff]
  refine hK3 _ _ ?_; try clear hK3 K3
  refine CW_seq (fun K4 hK4 => ?_)
  refine CW_region ?_
  refine OW_as rfl ?_
  refine OW_nil ?_
  try simp only [Ex.thnH, Ex.inBlockH, ↓reduceIte, Nat.reduceEqDiff]
  refine hK4 _ _ ?_; try clear hK4 K4
  refine CW_cut (fun e H_ => ∃ (F2 G : Hp) (a' : Option Addr) (cap' : Nat) (X' : List RDX) (ev : Option Int), Stn G H_ F2 p (s.act o) ∧ Le Q G ∧ RX G a' cap' X' ∧ X'.length = X.length ∧ (m.act o).dv = rdv X' ∧ H_ b4 = some (.cells ((m.act o).c (.slice a' X'.length cap')).toArray 59) ∧ H_ b6 = some (.cells #[.slice none 0 0, .int .i64 0, .int .i64 0, .bool false, .bool false] 59) ∧ G b6 = none ∧ F2 b6 = none ∧ errOk ev ∧ Env.has [(4, .pointer (some ⟨b4, 0, none⟩)), (6, .pointer (some ⟨b6, 0, none⟩)), (8, errV ev), (9, .int .i64 (ev.getD 0)), (10, .bool true)] e) ?_ ?_
  · skip
    refine CW_seq (fun K5 hK5 => ?_)
    refine CW_region ?_
    refine OW_opS (fun K hK r => ?_)
    simp only [x_fieldAddr, fa35_0, add_mk, Nat.reduceAdd, Nat.zero_add, eX, ↓reduceIte, Nat.reduceEqDiff, Int.reduceToNat]
    refine hK _ _ ?_; clear hK K
    refine OW_opS (fun K hK r => ?_)
    simp only [x_load, eX, ↓reduceIte, Nat.reduceEqDiff, Int.reduceToNat]
    refine Lt_loadAt1 Try.underlying3 rfl hbA ldA ?_
    try simp only [eX, ↓reduceIte, Nat.reduceEqDiff, Int.reduceToNat]
    refine hK _ _ ?_; clear hK K
    refine OW_nil ?_
    try simp only [Ex.thnH, Ex.inBlockH, ↓reduceIte, Nat.reduceEqDiff]
    refine hK5 _ _ ?_; try clear hK5 K5
    refine CW_block ?_
    refine CW_seq (fun K6 hK6 => ?_)
    refine CW_region ?_
    refine OW_opS (fun K hK r => ?_)
    simp (disch := (first | omega | decide)) only [x_bin, g_int, b_eql, dec_lt_t, dec_lt_f, dec_le_t, dec_le_f, dec_eq_t, dec_eq_f, Bool.not_true, Bool.not_false, eX, ↓reduceIte, Nat.reduceEqDiff, Int.reduceToNat]
    refine hK _ _ ?_; clear hK K
    refine OW_as rfl ?_
    refine OW_nil ?_
    try simp only [Ex.thnH, Ex.inBlockH, ↓reduceIte, Nat.reduceEqDiff]
    refine hK6 _ _ ?_; try clear hK6 K6
    refine CW_cond (fun r => rfl) (fun c40 => ?_) (fun c40 => ?_)
    · first
      | (exfalso; exact cnA c40; done)
      | skip
        (try simp only [decide_eq_true_eq, decide_eq_false_iff_not, Bool.not_eq_true, Bool.not_eq_false, Bool.and_eq_true, Bool.or_eq_true, Bool.or_eq_false_iff, Bool.not_eq_true, Bool.not_eq_eq_eq_not, Bool.not_true, Bool.not_false] at c40)
        have hk1 : o.kind = 1 := c40
        have hact : s.act o = (s.wr o.dev o.n (fullS o.b)).1 := by unfold St.act;  rw [if_pos hk1]
        have mact : m.act o = (m.put o.dev o.n (fullS o.b)).1 := by unfold RSt.act;  rw [if_pos hk1]
        refine CW_seq (fun K7 hK7 => ?_)
        obtain ⟨R9, hR9⟩ : ∃ R : Hp, R = emptyHp.upd b5 (.cells o.c.toArray 35) := ⟨_, rfl⟩
        refine CW_drawR [0, 0, 1, 0, 1, 0, 1, 2, 2, 0] [0, 1, 2, 3, 4, 5, 6, 7, 8, 9] R9 (by kernel_rfl) (by kernel_rfl) (by subst hR9; exact le_put (le_empty _) hbA) (fun lR9 => ?_)
        apply TW_pure rfl (lt_some (by decide)) rfl
        · intro r
          simp only [x_move, eX, ↓reduceIte, Nat.reduceEqDiff]
          exact ⟨rfl, Le.refl _⟩
        simp only [eX, ↓reduceIte, Nat.reduceEqDiff, Int.reduceToNat]
        apply TW_pure rfl (lt_some (by decide)) rfl
        · intro r
          simp only [x_fieldAddr, fa35_1, add_mk, Nat.reduceAdd, Nat.zero_add, eX, ↓reduceIte, Nat.reduceEqDiff]
          exact ⟨rfl, Le.refl _⟩
        simp only [eX, ↓reduceIte, Nat.reduceEqDiff, Int.reduceToNat]
        apply TW_look rfl (lt_some (by decide)) rfl
        · intro r
          simp only [x_load, eX, ↓reduceIte, Nat.reduceEqDiff]
          refine Lt_loadAt1 Try.underlying3 rfl hbA ldA ?_
          exact ⟨rfl, Le.refl _⟩
        simp only [eX, ↓reduceIte, Nat.reduceEqDiff, Int.reduceToNat]
        apply TW_pure rfl (lt_some (by decide)) rfl
        · intro r
          simp only [x_fieldAddr, fa35_2, add_mk, Nat.reduceAdd, Nat.zero_add, eX, ↓reduceIte, Nat.reduceEqDiff]
          exact ⟨rfl, Le.refl _⟩
        simp only [eX, ↓reduceIte, Nat.reduceEqDiff, Int.reduceToNat]
        apply TW_look rfl (lt_some (by decide)) rfl
        · intro r
          simp only [x_load, eX, ↓reduceIte, Nat.reduceEqDiff]
          refine Lt_loadAt1 Try.underlying3 rfl hbA ldA ?_
          exact ⟨rfl, Le.refl _⟩
        simp only [eX, ↓reduceIte, Nat.reduceEqDiff, Int.reduceToNat]
        apply TW_pure rfl (lt_some (by decide)) rfl
        · intro r
          simp only [x_fieldAddr, fa35_3, add_mk, Nat.reduceAdd, Nat.zero_add, eX, ↓reduceIte, Nat.reduceEqDiff]
          exact ⟨rfl, Le.refl _⟩
        simp only [eX, ↓reduceIte, Nat.reduceEqDiff, Int.reduceToNat]
        apply TW_look rfl (lt_some (by decide)) rfl
        · intro r
          simp only [x_load, eX, ↓reduceIte, Nat.reduceEqDiff]
          refine Lt_loadAt1 Try.underlying5 rfl hbA ldA ?_
          exact ⟨rfl, Le.refl _⟩
        simp only [eX, ↓reduceIte, Nat.reduceEqDiff, Int.reduceToNat]
        refine TW_chain rfl (lt_some (by decide)) rfl (fun K hK r => ?_)
        simp only [x_callF _ bd12, List.map_toArray, List.map_cons, List.map_nil, eX, ↓reduceIte, Nat.reduceEqDiff, Int.reduceToNat]
        refine (full_ok _ o.b).mono ?_
        rintro v H' ⟨rfl, rfl⟩
        try simp only [eX, ↓reduceIte, Nat.reduceEqDiff, Int.reduceToNat]
        refine hK _ _ leA ?_; clear hK K
        refine TW_chain rfl (lt_some (by decide)) rfl (fun K hK r => ?_)
        simp only [x_callF _ bd11, List.map_toArray, List.map_cons, List.map_nil, eX, ↓reduceIte, Nat.reduceEqDiff, Int.reduceToNat]
        refine (writeL hA6 hP.sm (by omega) o.dev o.n (fullS o.b)).mono ?_
        rintro v50 H50 ⟨rfl, F50, hA50⟩
        have hO50 := hA50.old
        have kb4 := hO50 b4 _ (show (((Q.upd b4 (.cells (m.c (.slice a X.length cap)).toArray 59)).upd b5 (.cells o.c.toArray 35)).upd b6 (.cells #[.slice none 0 0, .int .i64 0, .int .i64 0, .bool false, .bool false] 59)) b4 = some (.cells (m.c (.slice a X.length cap)).toArray 59) from hbA)
        have kb5 := hO50 b5 _ (show (((Q.upd b4 (.cells (m.c (.slice a X.length cap)).toArray 59)).upd b5 (.cells o.c.toArray 35)).upd b6 (.cells #[.slice none 0 0, .int .i64 0, .int .i64 0, .bool false, .bool false] 59)) b5 = some (.cells o.c.toArray 35) from hbA)
        have kb6 := hO50 b6 _ (upd_same _ _ _)
        have w4 := hA50.ap b4 (fun e => by have e2 : (((Q.upd b4 (.cells (m.c (.slice a X.length cap)).toArray 59)).upd b5 (.cells o.c.toArray 35)).upd b6 (.cells #[.slice none 0 0, .int .i64 0, .int .i64 0, .bool false, .bool false] 59)) b4 = some (.cells (m.c (.slice a X.length cap)).toArray 59) := hbA
                                           rw [e] at e2; cases e2)
        have w6 := hA50.ap b6 (fun e => by rw [upd_same] at e; cases e)
        have lR50 : Le R9 H50 := by rw [hR9]; exact le_put (le_empty _) (hO50 b5 _ hbA)
        try simp only [eX, ↓reduceIte, Nat.reduceEqDiff, Int.reduceToNat]
        refine hK _ _ leA ?_; clear hK K
        apply TW_pure rfl (lt_some (by decide)) rfl
        · intro r
          simp only [x_assign, eX, ↓reduceIte, Nat.reduceEqDiff]
          exact ⟨rfl, Le.refl _⟩
        simp only [eX, ↓reduceIte, Nat.reduceEqDiff, Int.reduceToNat]
        refine TW_nil ?_
        try simp only [Ex.thnH, Ex.inBlockH, ↓reduceIte, Nat.reduceEqDiff]
        refine hK7 _ _ ?_; try clear hK7 K7
        obtain ⟨R10, hR10⟩ : ∃ R : Hp, R = (emptyHp.upd b4 (.cells (m.c (.slice a X.length cap)).toArray 59)).upd b5 (.cells o.c.toArray 35) := ⟨_, rfl⟩
        refine CW_drawR [1, 0, 1, 0, 1, 0, 1, 2, 2, 0, 0, 0, 3, 0] [0, 1, 2, 3, 4, 5, 6, 7, 8, 9, 10, 11, 12, 13] R10 (by kernel_rfl) (by kernel_rfl) (by subst hR10; exact le_put (le_put (le_empty _) kb4) kb5) (fun lR10 => ?_)
        apply TW_look rfl (lt_some (by decide)) rfl
        · intro r
          simp only [x_load, eX, ↓reduceIte, Nat.reduceEqDiff]
          first | refine Lt_loadAll Try.underlying59 rfl sz59 hbA bdA ?_ | refine Lt_loadAtA Try.underlying59 rfl sz59 hbA bdA ?_
          try simp only [List.extract_toArray, List.extract_eq_take_drop, Nat.zero_add, Nat.reduceAdd, Nat.reduceSub, Nat.sub_zero, List.drop_succ_cons, List.drop_zero, List.take_succ_cons, List.take_zero, List.take_nil, List.drop_nil]
          exact ⟨rfl, Le.refl _⟩
        simp only [eX, ↓reduceIte, Nat.reduceEqDiff, Int.reduceToNat]
        apply TW_pure rfl (lt_some (by decide)) rfl
        · intro r
          simp only [x_fieldAddr, fa35_1, add_mk, Nat.reduceAdd, Nat.zero_add, eX, ↓reduceIte, Nat.reduceEqDiff]
          exact ⟨rfl, Le.refl _⟩
        simp only [eX, ↓reduceIte, Nat.reduceEqDiff, Int.reduceToNat]
        apply TW_look rfl (lt_some (by decide)) rfl
        · intro r
          simp only [x_load, eX, ↓reduceIte, Nat.reduceEqDiff]
          refine Lt_loadAt1 Try.underlying3 rfl hbA ldA ?_
          exact ⟨rfl, Le.refl _⟩
        simp only [eX, ↓reduceIte, Nat.reduceEqDiff, Int.reduceToNat]
        apply TW_pure rfl (lt_some (by decide)) rfl
        · intro r
          simp only [x_fieldAddr, fa35_2, add_mk, Nat.reduceAdd, Nat.zero_add, eX, ↓reduceIte, Nat.reduceEqDiff]
          exact ⟨rfl, Le.refl _⟩
        simp only [eX, ↓reduceIte, Nat.reduceEqDiff, Int.reduceToNat]
        apply TW_look rfl (lt_some (by decide)) rfl
        · intro r
          simp only [x_load, eX, ↓reduceIte, Nat.reduceEqDiff]
          refine Lt_loadAt1 Try.underlying3 rfl hbA ldA ?_
          exact ⟨rfl, Le.refl _⟩
        simp only [eX, ↓reduceIte, Nat.reduceEqDiff, Int.reduceToNat]
        apply TW_pure rfl (lt_some (by decide)) rfl
        · intro r
          simp only [x_fieldAddr, fa35_3, add_mk, Nat.reduceAdd, Nat.zero_add, eX, ↓reduceIte, Nat.reduceEqDiff]
          exact ⟨rfl, Le.refl _⟩
        simp only [eX, ↓reduceIte, Nat.reduceEqDiff, Int.reduceToNat]
        apply TW_look rfl (lt_some (by decide)) rfl
        · intro r
          simp only [x_load, eX, ↓reduceIte, Nat.reduceEqDiff]
          refine Lt_loadAt1 Try.underlying5 rfl hbA ldA ?_
          exact ⟨rfl, Le.refl _⟩
        simp only [eX, ↓reduceIte, Nat.reduceEqDiff, Int.reduceToNat]
        refine TW_chain rfl (lt_some (by decide)) rfl (fun K hK r => ?_)
        simp only [x_callF _ bd12, List.map_toArray, List.map_cons, List.map_nil, eX, ↓reduceIte, Nat.reduceEqDiff, Int.reduceToNat]
        refine (full_ok _ o.b).mono ?_
        rintro v H' ⟨rfl, rfl⟩
        try simp only [eX, ↓reduceIte, Nat.reduceEqDiff, Int.reduceToNat]
        refine hK _ _ leA ?_; clear hK K
        refine TW_chain rfl (lt_some (by decide)) rfl (fun K hK r => ?_)
        simp only [x_callF _ bd39, List.map_toArray, List.map_cons, List.map_nil, eX, ↓reduceIte, Nat.reduceEqDiff, Int.reduceToNat]
        have hcall := CallH.use (rput_ok Q a cap X hX m hm hl5 (fun i => Nat.le_trans (hP.wt i) (by omega)) o.dev o.n (fullS o.b)) (Le.trans lQ hO50)
        refine hcall.mono ?_
        rintro v60 H60 ⟨G, ⟨a', cap', X', hXl, lG0, rfl, hXn, hmn⟩, lG, hkeep⟩
        obtain ⟨kk4, kg4⟩ := hkeep b4 _ kb4 q4
        obtain ⟨kk5, kg5⟩ := hkeep b5 _ kb5 q5
        obtain ⟨kk6, kg6⟩ := hkeep b6 _ kb6 q6
        have hSn := (hA50.less lQ).side lG hkeep
        have lR60 : Le R10 H60 := by rw [hR10]; exact le_put (le_put (le_empty _) kk4) kk5
        rw [hP.put2 o.dev o.n (fullS o.b)]
        try simp only [eX, ↓reduceIte, Nat.reduceEqDiff, Int.reduceToNat]
        refine hK _ _ leA ?_; clear hK K
        apply TW_pure rfl (lt_some (by decide)) rfl
        · intro r
          simp only [x_move, eX, ↓reduceIte, Nat.reduceEqDiff]
          exact ⟨rfl, Le.refl _⟩
        simp only [eX, ↓reduceIte, Nat.reduceEqDiff, Int.reduceToNat]
        apply TW_pure rfl (lt_some (by decide)) rfl
        · intro r
          simp only [x_extract, i_extract, List.getElem?_toArray, List.getElem?_cons_zero, List.getElem?_cons_succ, orF_some, eX, ↓reduceIte, Nat.reduceEqDiff]
          exact ⟨rfl, Le.refl _⟩
        simp only [eX, ↓reduceIte, Nat.reduceEqDiff, Int.reduceToNat]
        apply TW_pure rfl (lt_some (by decide)) rfl
        · intro r
          simp only [x_extract, i_extract, List.getElem?_toArray, List.getElem?_cons_zero, List.getElem?_cons_succ, orF_some, eX, ↓reduceIte, Nat.reduceEqDiff]
          exact ⟨rfl, Le.refl _⟩
        simp only [eX, ↓reduceIte, Nat.reduceEqDiff, Int.reduceToNat]
        refine TW_last rfl (lt_none) rfl (fun K hK r => ?_)
        simp only [x_store, eX, ↓reduceIte, Nat.reduceEqDiff, Int.reduceToNat]
        first | refine Lt_storeAll sz59 bdA hbA bdA plA (by decide) ?_ | refine Lt_storeAtA sz59 bdA hbA bdA plA (by decide) ?_
        try simp only [eX, ↓reduceIte, Nat.reduceEqDiff, Int.reduceToNat]
        refine hK _ _ ?_; clear hK K
        apply TW_pure rfl (lt_some (by decide)) rfl
        · intro r
          simp only [x_assign, eX, ↓reduceIte, Nat.reduceEqDiff]
          exact ⟨rfl, Le.refl _⟩
        simp only [eX, ↓reduceIte, Nat.reduceEqDiff, Int.reduceToNat]
        refine TW_nil ?_
        try simp only [Ex.thnH, Ex.inBlockH, ↓reduceIte, Nat.reduceEqDiff]
        rw [hact, mact]
        have nb64 := Ne.symm n6_b4
        first
        | exact ⟨F50, G, a', cap', X', _, hSn.off w4 kg4 _, lG0, hXn, hXl, hmn, upd_same _ _ _, (upd_ne _ _ nb64).trans kk6, kg6, w6, wr_err _ _ _ _, rfl, rfl, rfl, rfl, rfl, trivial⟩
        | exact ⟨F68, G, a', cap', X', _, hSn.off w4 kg4 _, lG0, hXn, hXl, hmn, upd_same _ _ _, (upd_ne _ _ nb64).trans kk6, kg6, w6, fl_err _ _, rfl, rfl, rfl, rfl, rfl, trivial⟩
        | exact ⟨F81, Q, a, cap, X, some 1, hA81.less lQ, Le.refl _, hX, rfl, hm, kb4, kb6, q6, w6, (fun z hz => by cases hz; decide), rfl, rfl, rfl, rfl, rfl, trivial⟩
        | exact ⟨F81, Q, a, cap, X, none, (hA81.less lQ).off w4 q4 _, Le.refl _, hX, rfl, hm, upd_same _ _ _, (upd_ne _ _ nb64).trans kb6, q6, w6, (fun z hz => by cases hz), rfl, rfl, rfl, rfl, rfl, trivial⟩
        | exact ⟨F95, G, a', cap', X', none, hSn.off w4 kg4 _, lG0, hXn, hXl, hmn, upd_same _ _ _, (upd_ne _ _ nb64).trans kk6, kg6, w6, (fun z hz => by cases hz), rfl, rfl, rfl, rfl, rfl, trivial⟩
        | exact ⟨F, Q, a, cap, X, _, (hA6.less lQ).more (le_upd_of (le_upd _ _ _ hb11) (upd_none hb13)), Le.refl _, hX, rfl, hm, hbA, hbA, q6, hA6.ap b6 (fun e => by rw [upd_same] at e; cases e), rd_err _ _ _, rfl, rfl, rfl, rfl, (by first | rfl | simp), trivial⟩
    · first
      | (exfalso; exact cnA c40; done)
      | skip
        (try simp only [decide_eq_true_eq, decide_eq_false_iff_not, Bool.not_eq_true, Bool.not_eq_false, Bool.and_eq_true, Bool.or_eq_true, Bool.or_eq_false_iff, Bool.not_eq_true, Bool.not_eq_eq_eq_not, Bool.not_true, Bool.not_false] at c40)
        have hk1 : ¬ o.kind = 1 := c40
        refine CW_seq (fun K8 hK8 => ?_)
        refine CW_region ?_
        refine OW_opS (fun K hK r => ?_)
        simp (disch := (first | omega | decide)) only [x_bin, g_int, b_eql, dec_lt_t, dec_lt_f, dec_le_t, dec_le_f, dec_eq_t, dec_eq_f, Bool.not_true, Bool.not_false, eX, ↓reduceIte, Nat.reduceEqDiff, Int.reduceToNat]
        refine hK _ _ ?_; clear hK K
        refine OW_as rfl ?_
        refine OW_nil ?_
        try simp only [Ex.thnH, Ex.inBlockH, ↓reduceIte, Nat.reduceEqDiff]
        refine hK8 _ _ ?_; try clear hK8 K8
        refine CW_cond (fun r => rfl) (fun c63 => ?_) (fun c63 => ?_)
        · first
          | (exfalso; exact cnA c63; done)
          | skip
            (try simp only [decide_eq_true_eq, decide_eq_false_iff_not, Bool.not_eq_true, Bool.not_eq_false, Bool.and_eq_true, Bool.or_eq_true, Bool.or_eq_false_iff, Bool.not_eq_true, Bool.not_eq_eq_eq_not, Bool.not_true, Bool.not_false] at c63)
            have hk2 : o.kind = 2 := c63
            have hact : s.act o = (s.fl o.dev).1 := by unfold St.act; rw [if_neg hk1]; rw [if_pos hk2]
            have mact : m.act o = (m.fl o.dev).1 := by unfold RSt.act; rw [if_neg hk1]; rw [if_pos hk2]
            refine CW_seq (fun K9 hK9 => ?_)
            refine CW_region ?_
            refine OW_mv rfl ?_
            refine OW_opS (fun K hK r => ?_)
            simp only [x_fieldAddr, fa35_1, add_mk, Nat.reduceAdd, Nat.zero_add, eX, ↓reduceIte, Nat.reduceEqDiff, Int.reduceToNat]
            refine hK _ _ ?_; clear hK K
            refine OW_opS (fun K hK r => ?_)
            simp only [x_load, eX, ↓reduceIte, Nat.reduceEqDiff, Int.reduceToNat]
            refine Lt_loadAt1 Try.underlying3 rfl hbA ldA ?_
            try simp only [eX, ↓reduceIte, Nat.reduceEqDiff, Int.reduceToNat]
            refine hK _ _ ?_; clear hK K
            refine OW_opS (fun K hK r => ?_)
            simp only [x_callF _ bd13, List.map_toArray, List.map_cons, List.map_nil, eX, ↓reduceIte, Nat.reduceEqDiff, Int.reduceToNat]
            refine (flushL hA6 hP.sm (by omega) o.dev).mono ?_
            rintro v68 H68 ⟨rfl, F68, hA68⟩
            have hO68 := hA68.old
            have kb4 := hO68 b4 _ (show (((Q.upd b4 (.cells (m.c (.slice a X.length cap)).toArray 59)).upd b5 (.cells o.c.toArray 35)).upd b6 (.cells #[.slice none 0 0, .int .i64 0, .int .i64 0, .bool false, .bool false] 59)) b4 = some (.cells (m.c (.slice a X.length cap)).toArray 59) from hbA)
            have kb5 := hO68 b5 _ (show (((Q.upd b4 (.cells (m.c (.slice a X.length cap)).toArray 59)).upd b5 (.cells o.c.toArray 35)).upd b6 (.cells #[.slice none 0 0, .int .i64 0, .int .i64 0, .bool false, .bool false] 59)) b5 = some (.cells o.c.toArray 35) from hbA)
            have kb6 := hO68 b6 _ (upd_same _ _ _)
            have w4 := hA68.ap b4 (fun e => by have e2 : (((Q.upd b4 (.cells (m.c (.slice a X.length cap)).toArray 59)).upd b5 (.cells o.c.toArray 35)).upd b6 (.cells #[.slice none 0 0, .int .i64 0, .int .i64 0, .bool false, .bool false] 59)) b4 = some (.cells (m.c (.slice a X.length cap)).toArray 59) := hbA
                                               rw [e] at e2; cases e2)
            have w6 := hA68.ap b6 (fun e => by rw [upd_same] at e; cases e)
            try simp only [eX, ↓reduceIte, Nat.reduceEqDiff, Int.reduceToNat]
            refine hK _ _ ?_; clear hK K
            refine OW_as rfl ?_
            refine OW_nil ?_
            try simp only [Ex.thnH, Ex.inBlockH, ↓reduceIte, Nat.reduceEqDiff]
            refine hK9 _ _ ?_; try clear hK9 K9
            refine CW_region ?_
            refine OW_opS (fun K hK r => ?_)
            simp only [x_load, eX, ↓reduceIte, Nat.reduceEqDiff, Int.reduceToNat]
            first | refine Lt_loadAll Try.underlying59 rfl sz59 hbA bdA ?_ | refine Lt_loadAtA Try.underlying59 rfl sz59 hbA bdA ?_
            try simp only [List.extract_toArray, List.extract_eq_take_drop, Nat.zero_add, Nat.reduceAdd, Nat.reduceSub, Nat.sub_zero, List.drop_succ_cons, List.drop_zero, List.take_succ_cons, List.take_zero, List.take_nil, List.drop_nil]
            try simp only [eX, ↓reduceIte, Nat.reduceEqDiff, Int.reduceToNat]
            refine hK _ _ ?_; clear hK K
            refine OW_opS (fun K hK r => ?_)
            simp only [x_fieldAddr, fa35_1, add_mk, Nat.reduceAdd, Nat.zero_add, eX, ↓reduceIte, Nat.reduceEqDiff, Int.reduceToNat]
            refine hK _ _ ?_; clear hK K
            refine OW_opS (fun K hK r => ?_)
            simp only [x_load, eX, ↓reduceIte, Nat.reduceEqDiff, Int.reduceToNat]
            refine Lt_loadAt1 Try.underlying3 rfl hbA ldA ?_
            try simp only [eX, ↓reduceIte, Nat.reduceEqDiff, Int.reduceToNat]
            refine hK _ _ ?_; clear hK K
            refine OW_opS (fun K hK r => ?_)
            simp only [x_callF _ bd40, List.map_toArray, List.map_cons, List.map_nil, eX, ↓reduceIte, Nat.reduceEqDiff, Int.reduceToNat]
            have hcall := CallH.use (rflush_ok Q a cap X hX m hm hl5 k (by omega) (hP.rg hm) o.dev) (Le.trans lQ hO68)
            refine hcall.mono ?_
            rintro v73 H73 ⟨G, ⟨a', cap', X', hXl, lG0, rfl, hXn, hmn⟩, lG, hkeep⟩
            obtain ⟨kk4, kg4⟩ := hkeep b4 _ kb4 q4
            obtain ⟨kk5, kg5⟩ := hkeep b5 _ kb5 q5
            obtain ⟨kk6, kg6⟩ := hkeep b6 _ kb6 q6
            have hSn := (hA68.less lQ).side lG hkeep
            rw [hP.fl2 o.dev]
            try simp only [eX, ↓reduceIte, Nat.reduceEqDiff, Int.reduceToNat]
            refine hK _ _ ?_; clear hK K
            refine OW_mv rfl ?_
            refine OW_opS (fun K hK r => ?_)
            simp only [x_extract, i_extract, List.getElem?_toArray, List.getElem?_cons_zero, List.getElem?_cons_succ, orF_some, eX, ↓reduceIte, Nat.reduceEqDiff, Int.reduceToNat]
            refine hK _ _ ?_; clear hK K
            refine OW_opS (fun K hK r => ?_)
            simp only [x_extract, i_extract, List.getElem?_toArray, List.getElem?_cons_zero, List.getElem?_cons_succ, orF_some, eX, ↓reduceIte, Nat.reduceEqDiff, Int.reduceToNat]
            refine hK _ _ ?_; clear hK K
            refine OW_op rfl (lt_none) (fun K hK r => ?_)
            simp only [x_store, eX, ↓reduceIte, Nat.reduceEqDiff, Int.reduceToNat]
            first | refine Lt_storeAll sz59 bdA hbA bdA plA (by decide) ?_ | refine Lt_storeAtA sz59 bdA hbA bdA plA (by decide) ?_
            try simp only [eX, ↓reduceIte, Nat.reduceEqDiff, Int.reduceToNat]
            refine hK _ _ ?_; clear hK K
            refine OW_as rfl ?_
            refine OW_nil ?_
            try simp only [Ex.thnH, Ex.inBlockH, ↓reduceIte, Nat.reduceEqDiff]
            rw [hact, mact]
            have nb64 := Ne.symm n6_b4
            first
            | exact ⟨F50, G, a', cap', X', _, hSn.off w4 kg4 _, lG0, hXn, hXl, hmn, upd_same _ _ _, (upd_ne _ _ nb64).trans kk6, kg6, w6, wr_err _ _ _ _, rfl, rfl, rfl, rfl, rfl, trivial⟩
            | exact ⟨F68, G, a', cap', X', _, hSn.off w4 kg4 _, lG0, hXn, hXl, hmn, upd_same _ _ _, (upd_ne _ _ nb64).trans kk6, kg6, w6, fl_err _ _, rfl, rfl, rfl, rfl, rfl, trivial⟩
            | exact ⟨F81, Q, a, cap, X, some 1, hA81.less lQ, Le.refl _, hX, rfl, hm, kb4, kb6, q6, w6, (fun z hz => by cases hz; decide), rfl, rfl, rfl, rfl, rfl, trivial⟩
            | exact ⟨F81, Q, a, cap, X, none, (hA81.less lQ).off w4 q4 _, Le.refl _, hX, rfl, hm, upd_same _ _ _, (upd_ne _ _ nb64).trans kb6, q6, w6, (fun z hz => by cases hz), rfl, rfl, rfl, rfl, rfl, trivial⟩
            | exact ⟨F95, G, a', cap', X', none, hSn.off w4 kg4 _, lG0, hXn, hXl, hmn, upd_same _ _ _, (upd_ne _ _ nb64).trans kk6, kg6, w6, (fun z hz => by cases hz), rfl, rfl, rfl, rfl, rfl, trivial⟩
            | exact ⟨F, Q, a, cap, X, _, (hA6.less lQ).more (le_upd_of (le_upd _ _ _ hb11) (upd_none hb13)), Le.refl _, hX, rfl, hm, hbA, hbA, q6, hA6.ap b6 (fun e => by rw [upd_same] at e; cases e), rd_err _ _ _, rfl, rfl, rfl, rfl, (by first | rfl | simp), trivial⟩
        · first
          | (exfalso; exact cnA c63; done)
          | skip
            (try simp only [decide_eq_true_eq, decide_eq_false_iff_not, Bool.not_eq_true, Bool.not_eq_false, Bool.and_eq_true, Bool.or_eq_true, Bool.or_eq_false_iff, Bool.not_eq_true, Bool.not_eq_eq_eq_not, Bool.not_true, Bool.not_false] at c63)
            have hk2 : ¬ o.kind = 2 := c63
            refine CW_seq (fun K10 hK10 => ?_)
            refine CW_region ?_
            refine OW_opS (fun K hK r => ?_)
            simp (disch := (first | omega | decide)) only [x_bin, g_int, b_eql, dec_lt_t, dec_lt_f, dec_le_t, dec_le_f, dec_eq_t, dec_eq_f, Bool.not_true, Bool.not_false, eX, ↓reduceIte, Nat.reduceEqDiff, Int.reduceToNat]
            refine hK _ _ ?_; clear hK K
            refine OW_as rfl ?_
            refine OW_nil ?_
            try simp only [Ex.thnH, Ex.inBlockH, ↓reduceIte, Nat.reduceEqDiff]
            refine hK10 _ _ ?_; try clear hK10 K10
            refine CW_cond (fun r => rfl) (fun c76 => ?_) (fun c76 => ?_)
            · first
              | (exfalso; exact cnA c76; done)
              | skip
                (try simp only [decide_eq_true_eq, decide_eq_false_iff_not, Bool.not_eq_true, Bool.not_eq_false, Bool.and_eq_true, Bool.or_eq_true, Bool.or_eq_false_iff, Bool.not_eq_true, Bool.not_eq_eq_eq_not, Bool.not_true, Bool.not_false] at c76)
                have hk4 : o.kind = 4 := c76
                have hact : s.act o = (if o.n < 0 then s else { s with armed := true, left := o.n }) := by unfold St.act; rw [if_neg hk1]; rw [if_neg hk2]; rw [if_pos hk4]
                have mact : m.act o = (if o.n < 0 then m else { m with armed := true, left := o.n }) := by unfold RSt.act; rw [if_neg hk1]; rw [if_neg hk2]; rw [if_pos hk4]
                refine CW_seq (fun K11 hK11 => ?_)
                refine CW_region ?_
                refine OW_mv rfl ?_
                refine OW_opS (fun K hK r => ?_)
                simp only [x_fieldAddr, fa35_2, add_mk, Nat.reduceAdd, Nat.zero_add, eX, ↓reduceIte, Nat.reduceEqDiff, Int.reduceToNat]
                refine hK _ _ ?_; clear hK K
                refine OW_opS (fun K hK r => ?_)
                simp only [x_load, eX, ↓reduceIte, Nat.reduceEqDiff, Int.reduceToNat]
                refine Lt_loadAt1 Try.underlying3 rfl hbA ldA ?_
                try simp only [eX, ↓reduceIte, Nat.reduceEqDiff, Int.reduceToNat]
                refine hK _ _ ?_; clear hK K
                refine OW_opS (fun K hK r => ?_)
                simp only [x_callF _ bd20, List.map_toArray, List.map_cons, List.map_nil, eX, ↓reduceIte, Nat.reduceEqDiff, Int.reduceToNat]
                refine (armL hA6 o.n).mono ?_
                rintro v81 H81 ⟨rfl, F81, hA81⟩
                have hO81 := hA81.old
                have kb4 := hO81 b4 _ (show (((Q.upd b4 (.cells (m.c (.slice a X.length cap)).toArray 59)).upd b5 (.cells o.c.toArray 35)).upd b6 (.cells #[.slice none 0 0, .int .i64 0, .int .i64 0, .bool false, .bool false] 59)) b4 = some (.cells (m.c (.slice a X.length cap)).toArray 59) from hbA)
                have kb5 := hO81 b5 _ (show (((Q.upd b4 (.cells (m.c (.slice a X.length cap)).toArray 59)).upd b5 (.cells o.c.toArray 35)).upd b6 (.cells #[.slice none 0 0, .int .i64 0, .int .i64 0, .bool false, .bool false] 59)) b5 = some (.cells o.c.toArray 35) from hbA)
                have kb6 := hO81 b6 _ (upd_same _ _ _)
                have w4 := hA81.ap b4 (fun e => by have e2 : (((Q.upd b4 (.cells (m.c (.slice a X.length cap)).toArray 59)).upd b5 (.cells o.c.toArray 35)).upd b6 (.cells #[.slice none 0 0, .int .i64 0, .int .i64 0, .bool false, .bool false] 59)) b4 = some (.cells (m.c (.slice a X.length cap)).toArray 59) := hbA
                                                   rw [e] at e2; cases e2)
                have w6 := hA81.ap b6 (fun e => by rw [upd_same] at e; cases e)
                try simp only [eX, ↓reduceIte, Nat.reduceEqDiff, Int.reduceToNat]
                refine hK _ _ ?_; clear hK K
                refine OW_as rfl ?_
                refine OW_nil ?_
                try simp only [Ex.thnH, Ex.inBlockH, ↓reduceIte, Nat.reduceEqDiff]
                refine hK11 _ _ ?_; try clear hK11 K11
                refine CW_seq (fun K12 hK12 => ?_)
                refine CW_region ?_
                refine OW_opS (fun K hK r => ?_)
                simp only [x_fieldAddr, fa35_2, add_mk, Nat.reduceAdd, Nat.zero_add, eX, ↓reduceIte, Nat.reduceEqDiff, Int.reduceToNat]
                refine hK _ _ ?_; clear hK K
                refine OW_opS (fun K hK r => ?_)
                simp only [x_load, eX, ↓reduceIte, Nat.reduceEqDiff, Int.reduceToNat]
                refine Lt_loadAt1 Try.underlying3 rfl hbA ldA ?_
                try simp only [eX, ↓reduceIte, Nat.reduceEqDiff, Int.reduceToNat]
                refine hK _ _ ?_; clear hK K
                refine OW_opS (fun K hK r => ?_)
                simp (disch := (first | omega | decide)) only [x_bin, g_int, b_lss, dec_lt_t, dec_lt_f, dec_le_t, dec_le_f, dec_eq_t, dec_eq_f, Bool.not_true, Bool.not_false, eX, ↓reduceIte, Nat.reduceEqDiff, Int.reduceToNat]
                refine hK _ _ ?_; clear hK K
                refine OW_nil ?_
                try simp only [Ex.thnH, Ex.inBlockH, ↓reduceIte, Nat.reduceEqDiff]
                refine hK12 _ _ ?_; try clear hK12 K12
                refine CW_cond (fun r => rfl) (fun c84 => ?_) (fun c84 => ?_)
                · first
                  | (exfalso; exact cnA c84; done)
                  | skip
                    (try simp only [decide_eq_true_eq, decide_eq_false_iff_not, Bool.not_eq_true, Bool.not_eq_false, Bool.and_eq_true, Bool.or_eq_true, Bool.or_eq_false_iff, Bool.not_eq_true, Bool.not_eq_eq_eq_not, Bool.not_true, Bool.not_false] at c84)
                    rw [if_pos c84] at hact mact hA81
                    try rw [if_pos c84]
                    refine CW_region ?_
                    refine OW_as rfl ?_
                    refine OW_nil ?_
                    try simp only [Ex.thnH, Ex.inBlockH, ↓reduceIte, Nat.reduceEqDiff]
                    rw [hact, mact]
                    have nb64 := Ne.symm n6_b4
                    first
                    | exact ⟨F50, G, a', cap', X', _, hSn.off w4 kg4 _, lG0, hXn, hXl, hmn, upd_same _ _ _, (upd_ne _ _ nb64).trans kk6, kg6, w6, wr_err _ _ _ _, rfl, rfl, rfl, rfl, rfl, trivial⟩
                    | exact ⟨F68, G, a', cap', X', _, hSn.off w4 kg4 _, lG0, hXn, hXl, hmn, upd_same _ _ _, (upd_ne _ _ nb64).trans kk6, kg6, w6, fl_err _ _, rfl, rfl, rfl, rfl, rfl, trivial⟩
                    | exact ⟨F81, Q, a, cap, X, some 1, hA81.less lQ, Le.refl _, hX, rfl, hm, kb4, kb6, q6, w6, (fun z hz => by cases hz; decide), rfl, rfl, rfl, rfl, rfl, trivial⟩
                    | exact ⟨F81, Q, a, cap, X, none, (hA81.less lQ).off w4 q4 _, Le.refl _, hX, rfl, hm, upd_same _ _ _, (upd_ne _ _ nb64).trans kb6, q6, w6, (fun z hz => by cases hz), rfl, rfl, rfl, rfl, rfl, trivial⟩
                    | exact ⟨F95, G, a', cap', X', none, hSn.off w4 kg4 _, lG0, hXn, hXl, hmn, upd_same _ _ _, (upd_ne _ _ nb64).trans kk6, kg6, w6, (fun z hz => by cases hz), rfl, rfl, rfl, rfl, rfl, trivial⟩
                    | exact ⟨F, Q, a, cap, X, _, (hA6.less lQ).more (le_upd_of (le_upd _ _ _ hb11) (upd_none hb13)), Le.refl _, hX, rfl, hm, hbA, hbA, q6, hA6.ap b6 (fun e => by rw [upd_same] at e; cases e), rd_err _ _ _, rfl, rfl, rfl, rfl, (by first | rfl | simp), trivial⟩
                · first
                  | (exfalso; exact cnA c84; done)
                  | skip
                    (try simp only [decide_eq_true_eq, decide_eq_false_iff_not, Bool.not_eq_true, Bool.not_eq_false, Bool.and_eq_true, Bool.or_eq_true, Bool.or_eq_false_iff, Bool.not_eq_true, Bool.not_eq_eq_eq_not, Bool.not_true, Bool.not_false] at c84)
                    have c84n : ¬ o.n < 0 := by omega
                    rw [if_neg c84n] at hact mact hA81
                    try rw [if_neg c84n]
                    obtain ⟨R18, hR18⟩ : ∃ R : Hp, R = emptyHp.upd b5 (.cells o.c.toArray 35) := ⟨_, rfl⟩
                    refine CW_drawR [0, 1, 0, 2, 0, 3] [0, 1, 2, 3, 4, 5] R18 (by kernel_rfl) (by kernel_rfl) (by subst hR18; exact le_put (le_empty _) kb5) (fun lR18 => ?_)
                    apply TW_pure rfl (lt_some (by decide)) rfl
                    · intro r
                      simp only [x_fieldAddr, fa35_2, add_mk, Nat.reduceAdd, Nat.zero_add, eX, ↓reduceIte, Nat.reduceEqDiff]
                      exact ⟨rfl, Le.refl _⟩
                    simp only [eX, ↓reduceIte, Nat.reduceEqDiff, Int.reduceToNat]
                    apply TW_look rfl (lt_some (by decide)) rfl
                    · intro r
                      simp only [x_load, eX, ↓reduceIte, Nat.reduceEqDiff]
                      refine Lt_loadAt1 Try.underlying3 rfl hbA ldA ?_
                      exact ⟨rfl, Le.refl _⟩
                    simp only [eX, ↓reduceIte, Nat.reduceEqDiff, Int.reduceToNat]
                    apply TW_pure rfl (lt_some (by decide)) rfl
                    · intro r
                      simp only [x_fieldAddr, fa59_3, add_mk, Nat.reduceAdd, Nat.zero_add, eX, ↓reduceIte, Nat.reduceEqDiff]
                      exact ⟨rfl, Le.refl _⟩
                    simp only [eX, ↓reduceIte, Nat.reduceEqDiff, Int.reduceToNat]
                    refine TW_chain rfl (lt_none) rfl (fun K hK r => ?_)
                    simp only [x_store, eX, ↓reduceIte, Nat.reduceEqDiff, Int.reduceToNat]
                    have r18n : R18 b4 = none := by rw [hR18]; exact upd_ne _ _ n5_b4
                    refine Lt_storeAt1 sz4 hbA bdA plA fzA ?_
                    try simp only [setL0, setL1, setL2, setL3, setL4, setL5, setL6, setL7, setL8, setL9]
                    refine hK _ _ leA ?_; clear hK K
                    apply TW_pure rfl (lt_some (by decide)) rfl
                    · intro r
                      simp only [x_fieldAddr, fa59_2, add_mk, Nat.reduceAdd, Nat.zero_add, eX, ↓reduceIte, Nat.reduceEqDiff]
                      exact ⟨rfl, Le.refl _⟩
                    simp only [eX, ↓reduceIte, Nat.reduceEqDiff, Int.reduceToNat]
                    refine TW_last rfl (lt_none) rfl (fun K hK r => ?_)
                    simp only [x_store, eX, ↓reduceIte, Nat.reduceEqDiff, Int.reduceToNat]
                    refine Lt_storeAt1 sz3 hbA bdA plA fzA ?_
                    try simp only [setL0, setL1, setL2, setL3, setL4, setL5, setL6, setL7, setL8, setL9]
                    try simp only [eX, ↓reduceIte, Nat.reduceEqDiff, Int.reduceToNat]
                    refine hK _ _ ?_; clear hK K
                    refine TW_nil ?_
                    try simp only [Ex.thnH, Ex.inBlockH, ↓reduceIte, Nat.reduceEqDiff]
                    rw [hact, mact]
                    have nb64 := Ne.symm n6_b4
                    first
                    | exact ⟨F50, G, a', cap', X', _, hSn.off w4 kg4 _, lG0, hXn, hXl, hmn, upd_same _ _ _, (upd_ne _ _ nb64).trans kk6, kg6, w6, wr_err _ _ _ _, rfl, rfl, rfl, rfl, rfl, trivial⟩
                    | exact ⟨F68, G, a', cap', X', _, hSn.off w4 kg4 _, lG0, hXn, hXl, hmn, upd_same _ _ _, (upd_ne _ _ nb64).trans kk6, kg6, w6, fl_err _ _, rfl, rfl, rfl, rfl, rfl, trivial⟩
                    | exact ⟨F81, Q, a, cap, X, some 1, hA81.less lQ, Le.refl _, hX, rfl, hm, kb4, kb6, q6, w6, (fun z hz => by cases hz; decide), rfl, rfl, rfl, rfl, rfl, trivial⟩
                    | exact ⟨F81, Q, a, cap, X, none, (hA81.less lQ).off w4 q4 _, Le.refl _, hX, rfl, hm, upd_same _ _ _, (upd_ne _ _ nb64).trans kb6, q6, w6, (fun z hz => by cases hz), rfl, rfl, rfl, rfl, rfl, trivial⟩
                    | exact ⟨F95, G, a', cap', X', none, hSn.off w4 kg4 _, lG0, hXn, hXl, hmn, upd_same _ _ _, (upd_ne _ _ nb64).trans kk6, kg6, w6, (fun z hz => by cases hz), rfl, rfl, rfl, rfl, rfl, trivial⟩
                    | exact ⟨F, Q, a, cap, X, _, (hA6.less lQ).more (le_upd_of (le_upd _ _ _ hb11) (upd_none hb13)), Le.refl _, hX, rfl, hm, hbA, hbA, q6, hA6.ap b6 (fun e => by rw [upd_same] at e; cases e), rd_err _ _ _, rfl, rfl, rfl, rfl, (by first | rfl | simp), trivial⟩
            · first
              | (exfalso; exact cnA c76; done)
              | skip
                (try simp only [decide_eq_true_eq, decide_eq_false_iff_not, Bool.not_eq_true, Bool.not_eq_false, Bool.and_eq_true, Bool.or_eq_true, Bool.or_eq_false_iff, Bool.not_eq_true, Bool.not_eq_eq_eq_not, Bool.not_true, Bool.not_false] at c76)
                have hk4 : ¬ o.kind = 4 := c76
                refine CW_seq (fun K13 hK13 => ?_)
                refine CW_region ?_
                refine OW_opS (fun K hK r => ?_)
                simp (disch := (first | omega | decide)) only [x_bin, g_int, b_eql, dec_lt_t, dec_lt_f, dec_le_t, dec_le_f, dec_eq_t, dec_eq_f, Bool.not_true, Bool.not_false, eX, ↓reduceIte, Nat.reduceEqDiff, Int.reduceToNat]
                refine hK _ _ ?_; clear hK K
                refine OW_as rfl ?_
                refine OW_nil ?_
                try simp only [Ex.thnH, Ex.inBlockH, ↓reduceIte, Nat.reduceEqDiff]
                refine hK13 _ _ ?_; try clear hK13 K13
                refine CW_cond (fun r => rfl) (fun c89 => ?_) (fun c89 => ?_)
                · first
                  | (exfalso; exact cnA c89; done)
                  | skip
                    (try simp only [decide_eq_true_eq, decide_eq_false_iff_not, Bool.not_eq_true, Bool.not_eq_false, Bool.and_eq_true, Bool.or_eq_true, Bool.or_eq_false_iff, Bool.not_eq_true, Bool.not_eq_eq_eq_not, Bool.not_true, Bool.not_false] at c89)
                    have hk5 : o.kind = 5 := c89
                    have hact : s.act o = s.cr o.keep := by unfold St.act; rw [if_neg hk1]; rw [if_neg hk2]; rw [if_neg hk4]; rw [if_pos hk5]
                    have mact : m.act o = m.cr o.keep := by unfold RSt.act; rw [if_neg hk1]; rw [if_neg hk2]; rw [if_neg hk4]; rw [if_pos hk5]
                    refine CW_seq (fun K14 hK14 => ?_)
                    refine CW_region ?_
                    refine OW_mv rfl ?_
                    refine OW_opS (fun K hK r => ?_)
                    simp only [x_fieldAddr, fa35_4, add_mk, Nat.reduceAdd, Nat.zero_add, eX, ↓reduceIte, Nat.reduceEqDiff, Int.reduceToNat]
                    refine hK _ _ ?_; clear hK K
                    refine OW_opS (fun K hK r => ?_)
                    simp only [x_load, eX, ↓reduceIte, Nat.reduceEqDiff, Int.reduceToNat]
                    refine Lt_loadAt1 Try.underlying23 rfl hbA ldA ?_
                    try simp only [eX, ↓reduceIte, Nat.reduceEqDiff, Int.reduceToNat]
                    refine hK _ _ ?_; clear hK K
                    refine OW_opS (fun K hK r => ?_)
                    simp only [x_callF _ bd15, List.map_toArray, List.map_cons, List.map_nil, eX, ↓reduceIte, Nat.reduceEqDiff, Int.reduceToNat]
                    refine (keeps_ok _ o.ka o.kc o.keep (ho.hk.le (Le.trans lQ hO6)) (by omega)).mono ?_
                    rintro v94 H94 ⟨l94, rs94, ho94, hr94⟩
                    obtain ⟨G94, lG94, hG94, hx94⟩ := ho94.part
                    obtain ⟨ka94, kc94, rfl⟩ := hG94.form
                    have hA94 := hA6.more l94
                    have hO94 := hA94.old
                    try simp only [eX, ↓reduceIte, Nat.reduceEqDiff, Int.reduceToNat]
                    refine hK _ _ ?_; clear hK K
                    refine OW_opS (fun K hK r => ?_)
                    simp only [x_callF _ bd14, List.map_toArray, List.map_cons, List.map_nil, eX, ↓reduceIte, Nat.reduceEqDiff, Int.reduceToNat]
                    refine (crashL hA94 hP.sm (by omega) (G := G94) lG94 (fun x hx => none_of_le hA6.le (hr94 x (hx94 x hx))) (fun x hx => none_of_le hO6 (hr94 x (hx94 x hx))) ka94 kc94 o.keep hG94 (by omega)).mono ?_
                    rintro v95 H95 ⟨F95, hA95⟩
                    have hO95 := hA95.old
                    have kb4 := hO95 b4 _ (show (((Q.upd b4 (.cells (m.c (.slice a X.length cap)).toArray 59)).upd b5 (.cells o.c.toArray 35)).upd b6 (.cells #[.slice none 0 0, .int .i64 0, .int .i64 0, .bool false, .bool false] 59)) b4 = some (.cells (m.c (.slice a X.length cap)).toArray 59) from hbA)
                    have kb5 := hO95 b5 _ (show (((Q.upd b4 (.cells (m.c (.slice a X.length cap)).toArray 59)).upd b5 (.cells o.c.toArray 35)).upd b6 (.cells #[.slice none 0 0, .int .i64 0, .int .i64 0, .bool false, .bool false] 59)) b5 = some (.cells o.c.toArray 35) from hbA)
                    have kb6 := hO95 b6 _ (upd_same _ _ _)
                    have w4 := hA95.ap b4 (fun e => by have e2 : (((Q.upd b4 (.cells (m.c (.slice a X.length cap)).toArray 59)).upd b5 (.cells o.c.toArray 35)).upd b6 (.cells #[.slice none 0 0, .int .i64 0, .int .i64 0, .bool false, .bool false] 59)) b4 = some (.cells (m.c (.slice a X.length cap)).toArray 59) := hbA
                                                       rw [e] at e2; cases e2)
                    have w6 := hA95.ap b6 (fun e => by rw [upd_same] at e; cases e)
                    try simp only [eX, ↓reduceIte, Nat.reduceEqDiff, Int.reduceToNat]
                    refine hK _ _ ?_; clear hK K
                    refine OW_nil ?_
                    try simp only [Ex.thnH, Ex.inBlockH, ↓reduceIte, Nat.reduceEqDiff]
                    refine hK14 _ _ ?_; try clear hK14 K14
                    refine CW_region ?_
                    refine OW_opS (fun K hK r => ?_)
                    simp only [x_load, eX, ↓reduceIte, Nat.reduceEqDiff, Int.reduceToNat]
                    first | refine Lt_loadAll Try.underlying59 rfl sz59 hbA bdA ?_ | refine Lt_loadAtA Try.underlying59 rfl sz59 hbA bdA ?_
                    try simp only [List.extract_toArray, List.extract_eq_take_drop, Nat.zero_add, Nat.reduceAdd, Nat.reduceSub, Nat.sub_zero, List.drop_succ_cons, List.drop_zero, List.take_succ_cons, List.take_zero, List.take_nil, List.drop_nil]
                    try simp only [eX, ↓reduceIte, Nat.reduceEqDiff, Int.reduceToNat]
                    refine hK _ _ ?_; clear hK K
                    refine OW_opS (fun K hK r => ?_)
                    simp only [x_fieldAddr, fa35_4, add_mk, Nat.reduceAdd, Nat.zero_add, eX, ↓reduceIte, Nat.reduceEqDiff, Int.reduceToNat]
                    refine hK _ _ ?_; clear hK K
                    refine OW_opS (fun K hK r => ?_)
                    simp only [x_load, eX, ↓reduceIte, Nat.reduceEqDiff, Int.reduceToNat]
                    refine Lt_loadAt1 Try.underlying23 rfl hbA ldA ?_
                    try simp only [eX, ↓reduceIte, Nat.reduceEqDiff, Int.reduceToNat]
                    refine hK _ _ ?_; clear hK K
                    refine OW_opS (fun K hK r => ?_)
                    simp only [x_callF _ bd41, List.map_toArray, List.map_cons, List.map_nil, eX, ↓reduceIte, Nat.reduceEqDiff, Int.reduceToNat]
                    have hcall := CallH.use (rcrash_ok Q a cap X hX m hm hl5 k (by omega) (hP.rg hm) o.ka o.kc o.keep ho.hk (by omega)) (Le.trans lQ hO95)
                    refine hcall.mono ?_
                    rintro v99 H99 ⟨G, ⟨a', cap', X', hXl, lG0, rfl, hXn, hmn⟩, lG, hkeep⟩
                    obtain ⟨kk4, kg4⟩ := hkeep b4 _ kb4 q4
                    obtain ⟨kk5, kg5⟩ := hkeep b5 _ kb5 q5
                    obtain ⟨kk6, kg6⟩ := hkeep b6 _ kb6 q6
                    have hSn := (hA95.less lQ).side lG hkeep
                    try simp only [eX, ↓reduceIte, Nat.reduceEqDiff, Int.reduceToNat]
                    refine hK _ _ ?_; clear hK K
                    refine OW_op rfl (lt_none) (fun K hK r => ?_)
                    simp only [x_store, eX, ↓reduceIte, Nat.reduceEqDiff, Int.reduceToNat]
                    first | refine Lt_storeAll sz59 bdA hbA bdA plA (by decide) ?_ | refine Lt_storeAtA sz59 bdA hbA bdA plA (by decide) ?_
                    try simp only [eX, ↓reduceIte, Nat.reduceEqDiff, Int.reduceToNat]
                    refine hK _ _ ?_; clear hK K
                    refine OW_nil ?_
                    try simp only [Ex.thnH, Ex.inBlockH, ↓reduceIte, Nat.reduceEqDiff]
                    rw [hact, mact]
                    have nb64 := Ne.symm n6_b4
                    first
                    | exact ⟨F50, G, a', cap', X', _, hSn.off w4 kg4 _, lG0, hXn, hXl, hmn, upd_same _ _ _, (upd_ne _ _ nb64).trans kk6, kg6, w6, wr_err _ _ _ _, rfl, rfl, rfl, rfl, rfl, trivial⟩
                    | exact ⟨F68, G, a', cap', X', _, hSn.off w4 kg4 _, lG0, hXn, hXl, hmn, upd_same _ _ _, (upd_ne _ _ nb64).trans kk6, kg6, w6, fl_err _ _, rfl, rfl, rfl, rfl, rfl, trivial⟩
                    | exact ⟨F81, Q, a, cap, X, some 1, hA81.less lQ, Le.refl _, hX, rfl, hm, kb4, kb6, q6, w6, (fun z hz => by cases hz; decide), rfl, rfl, rfl, rfl, rfl, trivial⟩
                    | exact ⟨F81, Q, a, cap, X, none, (hA81.less lQ).off w4 q4 _, Le.refl _, hX, rfl, hm, upd_same _ _ _, (upd_ne _ _ nb64).trans kb6, q6, w6, (fun z hz => by cases hz), rfl, rfl, rfl, rfl, rfl, trivial⟩
                    | exact ⟨F95, G, a', cap', X', none, hSn.off w4 kg4 _, lG0, hXn, hXl, hmn, upd_same _ _ _, (upd_ne _ _ nb64).trans kk6, kg6, w6, (fun z hz => by cases hz), rfl, rfl, rfl, rfl, rfl, trivial⟩
                    | exact ⟨F, Q, a, cap, X, _, (hA6.less lQ).more (le_upd_of (le_upd _ _ _ hb11) (upd_none hb13)), Le.refl _, hX, rfl, hm, hbA, hbA, q6, hA6.ap b6 (fun e => by rw [upd_same] at e; cases e), rd_err _ _ _, rfl, rfl, rfl, rfl, (by first | rfl | simp), trivial⟩
                · first
                  | (exfalso; exact cnA c89; done)
                  | skip
                    (try simp only [decide_eq_true_eq, decide_eq_false_iff_not, Bool.not_eq_true, Bool.not_eq_false, Bool.and_eq_true, Bool.or_eq_true, Bool.or_eq_false_iff, Bool.not_eq_true, Bool.not_eq_eq_eq_not, Bool.not_true, Bool.not_false] at c89)
                    have hk5 : ¬ o.kind = 5 := c89
                    have hact : s.act o = s := by unfold St.act; rw [if_neg hk1]; rw [if_neg hk2]; rw [if_neg hk4]; rw [if_neg hk5];
                    have mact : m.act o = m := by unfold RSt.act; rw [if_neg hk1]; rw [if_neg hk2]; rw [if_neg hk4]; rw [if_neg hk5];
                    refine CW_seq (fun K15 hK15 => ?_)
                    refine CW_region ?_
                    refine OW_mv rfl ?_
                    refine OW_opS (fun K hK r => ?_)
                    simp only [x_fieldAddr, fa35_1, add_mk, Nat.reduceAdd, Nat.zero_add, eX, ↓reduceIte, Nat.reduceEqDiff, Int.reduceToNat]
                    refine hK _ _ ?_; clear hK K
                    refine OW_opS (fun K hK r => ?_)
                    simp only [x_load, eX, ↓reduceIte, Nat.reduceEqDiff, Int.reduceToNat]
                    refine Lt_loadAt1 Try.underlying3 rfl hbA ldA ?_
                    try simp only [eX, ↓reduceIte, Nat.reduceEqDiff, Int.reduceToNat]
                    refine hK _ _ ?_; clear hK K
                    refine OW_opS (fun K hK r => ?_)
                    simp only [x_fieldAddr, fa35_2, add_mk, Nat.reduceAdd, Nat.zero_add, eX, ↓reduceIte, Nat.reduceEqDiff, Int.reduceToNat]
                    refine hK _ _ ?_; clear hK K
                    refine OW_opS (fun K hK r => ?_)
                    simp only [x_load, eX, ↓reduceIte, Nat.reduceEqDiff, Int.reduceToNat]
                    refine Lt_loadAt1 Try.underlying3 rfl hbA ldA ?_
                    try simp only [eX, ↓reduceIte, Nat.reduceEqDiff, Int.reduceToNat]
                    refine hK _ _ ?_; clear hK K
                    refine OW_opS (fun K hK r => ?_)
                    simp only [x_callF _ bd16, List.map_toArray, List.map_cons, List.map_nil, eX, ↓reduceIte, Nat.reduceEqDiff, Int.reduceToNat]
                    refine (readL hA6 hP.sm (by omega) o.dev o.n).mono ?_
                    rintro v H' ⟨rfl, rfl⟩
                    try simp only [eX, ↓reduceIte, Nat.reduceEqDiff, Int.reduceToNat]
                    refine hK _ _ ?_; clear hK K
                    refine OW_mv rfl ?_
                    refine OW_opS (fun K hK r => ?_)
                    simp only [x_extract, i_extract, List.getElem?_toArray, List.getElem?_cons_zero, List.getElem?_cons_succ, orF_some, eX, ↓reduceIte, Nat.reduceEqDiff, Int.reduceToNat]
                    refine hK _ _ ?_; clear hK K
                    refine OW_opS (fun K hK r => ?_)
                    simp only [x_extract, i_extract, List.getElem?_toArray, List.getElem?_cons_zero, List.getElem?_cons_succ, orF_some, eX, ↓reduceIte, Nat.reduceEqDiff, Int.reduceToNat]
                    refine hK _ _ ?_; clear hK K
                    refine OW_opS (fun K hK r => ?_)
                    simp only [x_alloc, zr38, orF_some, Value.cells, eX, ↓reduceIte, Nat.reduceEqDiff, Int.reduceToNat]
                    intro b11 hb11
                    try have n11_b4 : b4 ≠ b11 := ne_of_none hbA hb11
                    try have n11_b5 : b5 ≠ b11 := ne_of_none hbA hb11
                    try have n11_b6 : b6 ≠ b11 := ne_of_none hbA hb11
                    have f11_H : H b11 = none := none_of_le lhA hb11
                    try simp only [eX, ↓reduceIte, Nat.reduceEqDiff, Int.reduceToNat]
                    refine hK _ _ ?_; clear hK K
                    refine OW_op rfl (lt_none) (fun K hK r => ?_)
                    simp only [x_store, eX, ↓reduceIte, Nat.reduceEqDiff, Int.reduceToNat]
                    refine Lt_storeAll sz38 (by simp [Sec.h]) hbA (by simp [Sec.h]) (PlainL.ints _ _) (by decide) ?_
                    refine hK _ _ ?_; clear hK K
                    refine OW_as rfl ?_
                    refine OW_nil ?_
                    try simp only [Ex.thnH, Ex.inBlockH, ↓reduceIte, Nat.reduceEqDiff]
                    refine hK15 _ _ ?_; try clear hK15 K15
                    refine CW_seq (fun K16 hK16 => ?_)
                    refine CW_region ?_
                    refine OW_opS (fun K hK r => ?_)
                    simp only [x_load, eX, ↓reduceIte, Nat.reduceEqDiff, Int.reduceToNat]
                    first | refine Lt_loadAll Try.underlying59 rfl sz59 hbA bdA ?_ | refine Lt_loadAtA Try.underlying59 rfl sz59 hbA bdA ?_
                    try simp only [List.extract_toArray, List.extract_eq_take_drop, Nat.zero_add, Nat.reduceAdd, Nat.reduceSub, Nat.sub_zero, List.drop_succ_cons, List.drop_zero, List.take_succ_cons, List.take_zero, List.take_nil, List.drop_nil]
                    try simp only [eX, ↓reduceIte, Nat.reduceEqDiff, Int.reduceToNat]
                    refine hK _ _ ?_; clear hK K
                    refine OW_opS (fun K hK r => ?_)
                    simp only [x_fieldAddr, fa35_1, add_mk, Nat.reduceAdd, Nat.zero_add, eX, ↓reduceIte, Nat.reduceEqDiff, Int.reduceToNat]
                    refine hK _ _ ?_; clear hK K
                    refine OW_opS (fun K hK r => ?_)
                    simp only [x_load, eX, ↓reduceIte, Nat.reduceEqDiff, Int.reduceToNat]
                    refine Lt_loadAt1 Try.underlying3 rfl hbA ldA ?_
                    try simp only [eX, ↓reduceIte, Nat.reduceEqDiff, Int.reduceToNat]
                    refine hK _ _ ?_; clear hK K
                    refine OW_opS (fun K hK r => ?_)
                    simp only [x_fieldAddr, fa35_2, add_mk, Nat.reduceAdd, Nat.zero_add, eX, ↓reduceIte, Nat.reduceEqDiff, Int.reduceToNat]
                    refine hK _ _ ?_; clear hK K
                    refine OW_opS (fun K hK r => ?_)
                    simp only [x_load, eX, ↓reduceIte, Nat.reduceEqDiff, Int.reduceToNat]
                    refine Lt_loadAt1 Try.underlying3 rfl hbA ldA ?_
                    try simp only [eX, ↓reduceIte, Nat.reduceEqDiff, Int.reduceToNat]
                    refine hK _ _ ?_; clear hK K
                    refine OW_opS (fun K hK r => ?_)
                    simp only [x_callF _ bd42, List.map_toArray, List.map_cons, List.map_nil, eX, ↓reduceIte, Nat.reduceEqDiff, Int.reduceToNat]
                    refine (rread_ok _ a cap X (hX.le (Le.trans lQ (Le.trans hO6 lhA))) m hm hl5 k (by omega) (hP.rg hm) o.dev o.n).mono ?_
                    rintro v H' ⟨rfl, rfl⟩
                    rw [(hP.rl.read o.dev o.n).1, (hP.rl.read o.dev o.n).2]
                    try simp only [eX, ↓reduceIte, Nat.reduceEqDiff, Int.reduceToNat]
                    refine hK _ _ ?_; clear hK K
                    refine OW_mv rfl ?_
                    refine OW_opS (fun K hK r => ?_)
                    simp only [x_extract, i_extract, List.getElem?_toArray, List.getElem?_cons_zero, List.getElem?_cons_succ, orF_some, eX, ↓reduceIte, Nat.reduceEqDiff, Int.reduceToNat]
                    refine hK _ _ ?_; clear hK K
                    refine OW_opS (fun K hK r => ?_)
                    simp only [x_extract, i_extract, List.getElem?_toArray, List.getElem?_cons_zero, List.getElem?_cons_succ, orF_some, eX, ↓reduceIte, Nat.reduceEqDiff, Int.reduceToNat]
                    refine hK _ _ ?_; clear hK K
                    refine OW_opS (fun K hK r => ?_)
                    simp only [x_alloc, zr38, orF_some, Value.cells, eX, ↓reduceIte, Nat.reduceEqDiff, Int.reduceToNat]
                    intro b13 hb13
                    try have n13_b4 : b4 ≠ b13 := ne_of_none hbA hb13
                    try have n13_b5 : b5 ≠ b13 := ne_of_none hbA hb13
                    try have n13_b6 : b6 ≠ b13 := ne_of_none hbA hb13
                    try have n13_b11 : b11 ≠ b13 := ne_of_none hbA hb13
                    have f13_H : H b13 = none := none_of_le lhA hb13
                    try simp only [eX, ↓reduceIte, Nat.reduceEqDiff, Int.reduceToNat]
                    refine hK _ _ ?_; clear hK K
                    refine OW_op rfl (lt_none) (fun K hK r => ?_)
                    simp only [x_store, eX, ↓reduceIte, Nat.reduceEqDiff, Int.reduceToNat]
                    refine Lt_storeAll sz38 (by simp [Sec.h]) hbA (by simp [Sec.h]) (PlainL.ints _ _) (by decide) ?_
                    refine hK _ _ ?_; clear hK K
                    refine OW_as rfl ?_
                    refine OW_nil ?_
                    try simp only [Ex.thnH, Ex.inBlockH, ↓reduceIte, Nat.reduceEqDiff]
                    refine hK16 _ _ ?_; try clear hK16 K16
                    obtain ⟨R7, hR7⟩ : ∃ R : Hp, R = (emptyHp.upd b11 (.cells (s.rd o.dev o.n).1.c.toArray 38)).upd b13 (.cells (s.rd o.dev o.n).1.c.toArray 38) := ⟨_, rfl⟩
                    refine CW_drawR [0, 0, 1, 1, 0, 0, 0, 0] [0, 1, 2, 3, 4, 5, 6, 7] R7 (by kernel_rfl) (by kernel_rfl) (by subst hR7; exact le_put (le_put (le_empty _) hbA) hbA) (fun lR7 => ?_)
                    apply TW_pure rfl (lt_some (by decide)) rfl
                    · intro r
                      simp only [x_move, eX, ↓reduceIte, Nat.reduceEqDiff]
                      exact ⟨rfl, Le.refl _⟩
                    simp only [eX, ↓reduceIte, Nat.reduceEqDiff, Int.reduceToNat]
                    apply TW_pure rfl (lt_some (by decide)) rfl
                    · intro r
                      simp only [x_move, eX, ↓reduceIte, Nat.reduceEqDiff]
                      exact ⟨rfl, Le.refl _⟩
                    simp only [eX, ↓reduceIte, Nat.reduceEqDiff, Int.reduceToNat]
                    apply TW_look rfl (lt_some (by decide)) rfl
                    · intro r
                      simp only [x_load, eX, ↓reduceIte, Nat.reduceEqDiff]
                      refine Lt_loadAll Try.underlying38 rfl sz38 (by rw [hR7]; exact (upd_ne _ _ n13_b11).trans (upd_same _ _ _)) (by simp [Sec.h]) ?_
                      exact ⟨rfl, Le.refl _⟩
                    simp only [eX, ↓reduceIte, Nat.reduceEqDiff, Int.reduceToNat]
                    apply TW_look rfl (lt_some (by decide)) rfl
                    · intro r
                      simp only [x_load, eX, ↓reduceIte, Nat.reduceEqDiff]
                      refine Lt_loadAll Try.underlying38 rfl sz38 (by rw [hR7]; exact upd_same _ _ _) (by simp [Sec.h]) ?_
                      exact ⟨rfl, Le.refl _⟩
                    simp only [eX, ↓reduceIte, Nat.reduceEqDiff, Int.reduceToNat]
                    apply TW_pure rfl (lt_some (by decide)) rfl
                    · intro r
                      simp only [x_bin, g_agg _ _ _ _ _ _ eqg38, eX, ↓reduceIte, Nat.reduceEqDiff]
                      rw [e_eql _ _ _ _ (by simp)]
                      rw [q_equal]
                      rw [q_sec]
                      exact ⟨rfl, Le.refl _⟩
                    simp only [eX, ↓reduceIte, Nat.reduceEqDiff, Int.reduceToNat]
                    apply TW_pure rfl (lt_some (by decide)) rfl
                    · intro r
                      simp only [x_assign, eX, ↓reduceIte, Nat.reduceEqDiff]
                      exact ⟨rfl, Le.refl _⟩
                    simp only [eX, ↓reduceIte, Nat.reduceEqDiff, Int.reduceToNat]
                    apply TW_pure rfl (lt_some (by decide)) rfl
                    · intro r
                      simp only [x_assign, eX, ↓reduceIte, Nat.reduceEqDiff]
                      exact ⟨rfl, Le.refl _⟩
                    simp only [eX, ↓reduceIte, Nat.reduceEqDiff, Int.reduceToNat]
                    apply TW_pure rfl (lt_some (by decide)) rfl
                    · intro r
                      simp only [x_assign, eX, ↓reduceIte, Nat.reduceEqDiff]
                      exact ⟨rfl, Le.refl _⟩
                    simp only [eX, ↓reduceIte, Nat.reduceEqDiff, Int.reduceToNat]
                    refine TW_nil ?_
                    try simp only [Ex.thnH, Ex.inBlockH, ↓reduceIte, Nat.reduceEqDiff]
                    rw [hact, mact]
                    have nb64 := Ne.symm n6_b4
                    first
                    | exact ⟨F50, G, a', cap', X', _, hSn.off w4 kg4 _, lG0, hXn, hXl, hmn, upd_same _ _ _, (upd_ne _ _ nb64).trans kk6, kg6, w6, wr_err _ _ _ _, rfl, rfl, rfl, rfl, rfl, trivial⟩
                    | exact ⟨F68, G, a', cap', X', _, hSn.off w4 kg4 _, lG0, hXn, hXl, hmn, upd_same _ _ _, (upd_ne _ _ nb64).trans kk6, kg6, w6, fl_err _ _, rfl, rfl, rfl, rfl, rfl, trivial⟩
                    | exact ⟨F81, Q, a, cap, X, some 1, hA81.less lQ, Le.refl _, hX, rfl, hm, kb4, kb6, q6, w6, (fun z hz => by cases hz; decide), rfl, rfl, rfl, rfl, rfl, trivial⟩
                    | exact ⟨F81, Q, a, cap, X, none, (hA81.less lQ).off w4 q4 _, Le.refl _, hX, rfl, hm, upd_same _ _ _, (upd_ne _ _ nb64).trans kb6, q6, w6, (fun z hz => by cases hz), rfl, rfl, rfl, rfl, rfl, trivial⟩
                    | exact ⟨F95, G, a', cap', X', none, hSn.off w4 kg4 _, lG0, hXn, hXl, hmn, upd_same _ _ _, (upd_ne _ _ nb64).trans kk6, kg6, w6, (fun z hz => by cases hz), rfl, rfl, rfl, rfl, rfl, trivial⟩
                    | exact ⟨F, Q, a, cap, X, _, (hA6.less lQ).more (le_upd_of (le_upd _ _ _ hb11) (upd_none hb13)), Le.refl _, hX, rfl, hm, hbA, hbA, q6, hA6.ap b6 (fun e => by rw [upd_same] at e; cases e), rd_err _ _ _, rfl, rfl, rfl, rfl, (by first | rfl | simp), trivial⟩
  rintro e_ HZ ⟨F2, G, a', cap', X', ev, hS, lG0, hXn, hXl, hmn, k4, k6, g6, w6, hev, he⟩
  refine CW_env he.sub ?_; clear he e_
  refine CW_seq (fun K17 hK17 => ?_)
  obtain ⟨R22, hR22⟩ : ∃ R : Hp, R = emptyHp.upd b4 (.cells ((m.act o).c (.slice a' X'.length cap')).toArray 59) := ⟨_, rfl⟩
  refine CW_drawR [1, 0, 2, 0, 0, 0, 0, 0, 3, 0] [0, 1, 2, 3, 4, 5, 6, 7, 8, 9] R22 (by kernel_rfl) (by kernel_rfl) (by subst hR22; exact le_put (le_empty _) k4) (fun lR22 => ?_)
  apply TW_look rfl (lt_some (by decide)) rfl
  · intro r
    simp only [x_load, eX, ↓reduceIte, Nat.reduceEqDiff]
    first | refine Lt_loadAll Try.underlying59 rfl sz59 hbA bdA ?_ | refine Lt_loadAtA Try.underlying59 rfl sz59 hbA bdA ?_
    try simp only [List.extract_toArray, List.extract_eq_take_drop, Nat.zero_add, Nat.reduceAdd, Nat.reduceSub, Nat.sub_zero, List.drop_succ_cons, List.drop_zero, List.take_succ_cons, List.take_zero, List.take_nil, List.drop_nil]
    exact ⟨rfl, Le.refl _⟩
  simp only [eX, ↓reduceIte, Nat.reduceEqDiff, Int.reduceToNat]
  apply TW_pure rfl (lt_some (by decide)) rfl
  · intro r
    simp only [x_move, eX, ↓reduceIte, Nat.reduceEqDiff]
    exact ⟨rfl, Le.refl _⟩
  simp only [eX, ↓reduceIte, Nat.reduceEqDiff, Int.reduceToNat]
  refine TW_chain rfl (lt_some (by decide)) rfl (fun K hK r => ?_)
  simp only [x_callF _ bd23, List.map_toArray, List.map_cons, List.map_nil, eX, ↓reduceIte, Nat.reduceEqDiff, Int.reduceToNat]
  refine (num_Num _ ev hev).mono ?_
  rintro v H' ⟨rfl, rfl⟩
  try simp only [eX, ↓reduceIte, Nat.reduceEqDiff, Int.reduceToNat]
  refine hK _ _ leA ?_; clear hK K
  apply TW_pure rfl (lt_some (by decide)) rfl
  · intro r
    simp only [x_move, eX, ↓reduceIte, Nat.reduceEqDiff]
    exact ⟨rfl, Le.refl _⟩
  simp only [eX, ↓reduceIte, Nat.reduceEqDiff, Int.reduceToNat]
  apply TW_pure rfl (lt_some (by decide)) rfl
  · intro r
    simp (disch := (first | omega | decide)) only [x_bin, g_int, b_eql, dec_lt_t, dec_lt_f, dec_le_t, dec_le_f, dec_eq_t, dec_eq_f, Bool.not_true, Bool.not_false, eX, ↓reduceIte, Nat.reduceEqDiff]
    exact ⟨rfl, Le.refl _⟩
  simp only [eX, ↓reduceIte, Nat.reduceEqDiff, Int.reduceToNat]
  apply TW_pure rfl (lt_some (by decide)) rfl
  · intro r
    simp only [x_move, eX, ↓reduceIte, Nat.reduceEqDiff]
    exact ⟨rfl, Le.refl _⟩
  simp only [eX, ↓reduceIte, Nat.reduceEqDiff, Int.reduceToNat]
  (first | refine TW_split (d := 105) rfl (fun g105 => ?_) (fun g105 => ?_) | skip)
  all_goals try (exfalso; exact cnA g105)
  all_goals (try simp only [decide_eq_true_eq, decide_eq_false_iff_not, Bool.not_eq_true, Bool.not_eq_false, Bool.and_eq_true, Bool.or_eq_true, Bool.or_eq_false_iff, Bool.not_eq_true, Bool.not_eq_eq_eq_not, Bool.not_true, Bool.not_false] at g105)
  all_goals
    try simp only [eX, ↓reduceIte, Nat.reduceEqDiff, Int.reduceToNat]
    first
    | apply TW_pureG rfl (lt_some (by decide)) rfl rfl
      · intro r
        simp only [x_move, eX, ↓reduceIte, Nat.reduceEqDiff]
        exact ⟨rfl, Le.refl _⟩
      simp only [eX, ↓reduceIte, Nat.reduceEqDiff, Int.reduceToNat]
    | refine TW_guardF rfl (lt_some (by decide)) rfl ?_
      simp only [eX, ↓reduceIte, Nat.reduceEqDiff, Int.reduceToNat]
    apply TW_pure rfl (lt_some (by decide)) rfl
    · intro r
      simp only [x_pick, l_asBool, HL.ite_bool, if_true, if_false, Bool.false_eq_true, eX, ↓reduceIte, Nat.reduceEqDiff]
      exact ⟨rfl, Le.refl _⟩
    simp only [eX, ↓reduceIte, Nat.reduceEqDiff, Int.reduceToNat]
    refine TW_last rfl (lt_none) rfl (fun K hK r => ?_)
    simp only [x_store, eX, ↓reduceIte, Nat.reduceEqDiff, Int.reduceToNat]
    first | refine Lt_storeAll sz59 bdA hbA bdA plA (by decide) ?_ | refine Lt_storeAtA sz59 bdA hbA bdA plA (by decide) ?_
    try simp only [eX, ↓reduceIte, Nat.reduceEqDiff, Int.reduceToNat]
    refine hK _ _ ?_; clear hK K
    apply TW_pure rfl (lt_some (by decide)) rfl
    · intro r
      simp only [x_assign, eX, ↓reduceIte, Nat.reduceEqDiff]
      exact ⟨rfl, Le.refl _⟩
    simp only [eX, ↓reduceIte, Nat.reduceEqDiff, Int.reduceToNat]
    refine TW_nil ?_
    try simp only [Ex.thnH, Ex.inBlockH, ↓reduceIte, Nat.reduceEqDiff]
    refine hK17 _ _ ?_; try clear hK17 K17
    refine CW_ret ?_
    try simp only [Ex.thnH, Ex.inBlockH, ↓reduceIte, Nat.reduceEqDiff]
    refine ⟨[_, _], ⟨⟨_, rfl, Lq_loadAll Try.underlying59 rfl sz59 hbA bdA⟩, rfl, trivial⟩, _, Le.refl _, G, F2, a', cap', X', hXl, lG0, hS.off w6 g6 _, ?_, hXn, hmn⟩
    first | rfl | (simp; done)

end Go.Proofs.Ytkmjncmdhinlgaa.HL
end
