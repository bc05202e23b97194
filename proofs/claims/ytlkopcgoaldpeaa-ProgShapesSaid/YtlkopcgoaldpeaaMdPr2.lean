/- Plain laws of what the functions compute; no program stands here. -/
import Derived.Test.YtlkopcgoaldpeaaMdPr
import Derived.Test.YtlkopcgoaldpeaaHLApi
namespace Go.Proofs.Ytlkopcgoaldpeaa.HL
open Go
set_option linter.unusedSimpArgs false
set_option linter.unusedVariables false
def cdK : List CK := [some .i64, some .i64, some .i64, some .i64, some .i64, some .i64]
theorem Cd.fit (w : Cd) : Fit cdK w.cells := by
  refine ⟨rfl, fun i k v hk hv => ?_⟩
  match i with
  | 0 => cases hk; cases hv; exact ⟨_, rfl⟩
  | 1 => cases hk; cases hv; exact ⟨_, rfl⟩
  | 2 => cases hk; cases hv; exact ⟨_, rfl⟩
  | 3 => cases hk; cases hv; exact ⟨_, rfl⟩
  | 4 => cases hk; cases hv; exact ⟨_, rfl⟩
  | 5 => cases hk; cases hv; exact ⟨_, rfl⟩
  | i + 6 => simp [cdK] at hk
theorem Cd.inj {a b : Cd} : a.cells = b.cells ↔ a = b := by
  obtain ⟨o, t, k, v, d, n⟩ := a
  obtain ⟨o', t', k', v', d', n'⟩ := b
  simp [Cd.cells]
theorem Cd.eqV {a b : Cd} : Go.Proofs.Ytlkopcgoaldpeaa.HL.eqV a.cells b.cells = decide (a = b) := eqV_of Cd.inj
theorem cds_len (L : List Cd) : (cds L).length = L.length * 6 := flat_size Cd.len L
theorem cds_plain (L : List Cd) : PlainL (cds L) := fun v hv => by
  obtain ⟨w, _, hw⟩ := List.mem_flatMap.1 hv
  simp [Cd.cells] at hw
  rcases hw with rfl | rfl | rfl | rfl | rfl | rfl <;> rfl
/-- where a letter's field lies -/
def foff (l : Int) : Nat := if l = 97 ∨ l = 115 then 1 else if l = 98 then 2 else if l = 99 then 3 else if l = 116 then 4 else 5
theorem foff_get (x : Cd) (l : Int) : x.cells[foff l]? = some (.int .i64 (x.fld l)) := by
  unfold foff Cd.fld; split
  · rfl
  · split
    · rfl
    · split
      · rfl
      · split <;> rfl
theorem foff_set (x : Cd) (l v : Int) : x.cells.set (foff l) (.int .i64 v) = (x.setf l v).cells := by
  unfold foff Cd.setf; split
  · rfl
  · split
    · rfl
    · split
      · rfl
      · split <;> rfl
theorem foff_lt (l : Int) : foff l < 6 := by unfold foff; repeat' (split <;> try omega)
theorem foff_setA (x : Cd) (l v : Int) : (x.cells.toArray).setIfInBounds (foff l) (.int .i64 v) = (x.setf l v).cells.toArray := by rw [← foff_set]; simp
theorem take_letter {l : List Int} {k : Nat} (h : k < l.length) : l.take (k + 1) = l.take k ++ [l.getD k 0] := by
  rw [List.take_succ_eq_append_getElem h]; simp [List.getD_eq_getElem?_getD, h]
theorem all_step {l : List Int} {p : Int → Bool} {k : Nat} (h : k < l.length) (ha : (l.take k).all p = true) (hp : p (l.getD k 0) = true) : (l.take (k + 1)).all p = true := by
  rw [take_letter h, List.all_append, ha, List.all_cons, hp]; rfl
theorem zero_step (x : Cd) {l : List Int} {k : Nat} (h : k < l.length) : (x.zero (l.take k)).setf (l.getD k 0) 0 = x.zero (l.take (k + 1)) := by
  rw [take_letter h]; simp [Cd.zero]
theorem goodC_none {x : Cd} {b : Int} (h : shp x.op = []) : goodC x b = false := by unfold goodC; simp [h]
theorem goodC_no {x : Cd} {b : Int} {k : Nat} (h : k < (shp x.op).length) (hp : sound ((shp x.op).getD k 0) (x.fld ((shp x.op).getD k 0)) b = false) : goodC x b = false := by
  have : (shp x.op).all (fun l => sound l (x.fld l) b) = false := by
    rw [List.all_eq_false]
    refine ⟨(shp x.op).getD k 0, ?_, by rw [hp]; simp⟩
    rw [List.getD_eq_getElem?_getD, List.getElem?_eq_getElem h]; exact List.getElem_mem h
  unfold goodC; rw [this]; simp
theorem goodC_yes {x : Cd} {b : Int} (h : shp x.op ≠ []) (ha : ((shp x.op).take (shp x.op).length).all (fun l => sound l (x.fld l) b) = true) : decide (x.zero ((shp x.op).take (shp x.op).length) = ⟨x.op, 0, 0, 0, 0, 0⟩) = goodC x b := by
  rw [List.take_length] at *
  unfold goodC; rw [ha]; simp [h]
/-- The same, as the document has it. -/
def usesB (op l : Int) : Bool := decide (l ∈ shp op)
def regB (u : Bool) (n : Int) : Bool := (u && decide (0 ≤ n ∧ n ≤ 7)) || (!u && decide (n = 0))
def goodR (x : Cd) (b : Int) : Bool := decide (shp x.op ≠ []) && regB (usesB x.op 98) x.b && regB (usesB x.op 99) x.c && (if x.op = 13 then decide (1 ≤ x.a ∧ x.a ≤ b) else regB (usesB x.op 97) x.a) &&
  (if usesB x.op 116 then decide (0 ≤ x.t ∧ x.t ≤ 3) else decide (x.t = 0)) && (if usesB x.op 107 then decide (1 ≤ x.n ∧ x.n ≤ 64) else if usesB x.op 106 then decide (0 ≤ x.n ∧ x.n ≤ 3) else usesB x.op 110 || decide (x.n = 0))
theorem goodR_eq (x : Cd) (b : Int) : goodR x b = goodC x b := by
  obtain ⟨op, a, b1, c, t, n⟩ := x
  have key : ∀ l : List Int, shp op = l → goodR ⟨op, a, b1, c, t, n⟩ b = (decide (l ≠ []) && regB (decide (98 ∈ l)) b1 && regB (decide (99 ∈ l)) c && (if op = 13 then decide (1 ≤ a ∧ a ≤ b) else regB (decide (97 ∈ l)) a) && (if decide (116 ∈ l) then decide (0 ≤ t ∧ t ≤ 3) else decide (t = 0)) && (if decide (107 ∈ l) then decide (1 ≤ n ∧ n ≤ 64) else if decide (106 ∈ l) then decide (0 ≤ n ∧ n ≤ 3) else decide (110 ∈ l) || decide (n = 0))) ∧ goodC ⟨op, a, b1, c, t, n⟩ b = (decide (l ≠ []) && l.all (fun z => sound z ((⟨op, a, b1, c, t, n⟩ : Cd).fld z) b) && decide ((⟨op, a, b1, c, t, n⟩ : Cd).zero l = ⟨op, 0, 0, 0, 0, 0⟩)) := by
    intro l hl
    unfold goodR goodC usesB
    simp only [hl]
    exact ⟨trivial, trivial⟩
  obtain ⟨k1, k2⟩ := key _ rfl
  have hs : shp op = [97, 110] ∨ shp op = [97, 98] ∨ shp op = [97, 98, 99] ∨ shp op = [97, 116, 98] ∨ shp op = [116, 98, 97] ∨ shp op = [116, 98] ∨ shp op = [97, 116, 98, 99, 107] ∨ (shp op = [115, 98, 106, 99] ∧ op = 13) ∨ shp op = [98, 106, 99] ∨ shp op = [97] ∨ shp op = [] := by
    unfold shp
    repeat' (split <;> try (simp [*]; done))
  have hn : ∀ l, shp op = l → l ≠ [115, 98, 106, 99] → op ≠ 13 := fun l h1 h2 h3 => by
    subst h3; exact h2 (h1.symm.trans (by decide))
  rw [k1, k2]
  rcases hs with h | h | h | h | h | h | h | ⟨h, h13⟩ | h | h | h
  all_goals
    try have h13 := hn _ h (by decide)
    rw [h]
    simp [h13, regB, sound, Cd.fld, Cd.zero, Cd.setf]
  all_goals (rw [Bool.eq_iff_iff]; simp; omega)
theorem badAt_step {cs : List Cd} {k : Nat} (h : k < cs.length) : badAt cs (cs.length - k) = if goodC (cs.getD k default) ((cs.length : Int) - 1 - k) = true then badAt cs (cs.length - (k + 1)) else (k : Int) := by
  have e : cs.length - k = (cs.length - (k + 1)) + 1 := by omega
  rw [e, badAt]
  have e1 : cs.length - (cs.length - (k + 1) + 1) = k := by omega
  have e2 : ((cs.length - (k + 1) : Nat) : Int) = (cs.length : Int) - 1 - k := by omega
  rw [e1, e2]
theorem badAt_range (cs : List Cd) : ∀ k : Nat, k ≤ cs.length → badAt cs k = -2 ∨ (0 ≤ badAt cs k ∧ badAt cs k < cs.length)
  | 0, _ => .inl rfl
  | k + 1, h => by
    rw [badAt]; split
    · exact badAt_range cs k (by omega)
    · right; omega
theorem checkP_range (fuel : Int) (cs : List Cd) (h : cs.length ≤ 1000000) : -2 ≤ checkP fuel cs ∧ checkP fuel cs ≤ 1000000 := by
  unfold checkP; split
  · rcases badAt_range cs cs.length (Nat.le_refl _) with h | h <;> omega
  · omega
end Go.Proofs.Ytlkopcgoaldpeaa.HL
