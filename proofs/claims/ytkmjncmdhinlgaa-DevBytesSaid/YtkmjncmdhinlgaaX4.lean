/- Parts of the proof, one behind the other: D49, D50, HLRowO, D60, D61, D62. -/
import Derived.Test.YtkmjncmdhinlgaaX3
set_option linter.unusedSimpArgs false
set_option linter.unusedVariables false
section
namespace Go.Proofs.Ytkmjncmdhinlgaa.HL
open Go Go.Proofs
set_option linter.unusedSimpArgs false
set_option linter.unusedVariables false
attribute [local irreducible] Lt Lq CW OW TW CallH


/-- an act by the program, and by the document -/
def St.act (s : St) (o : Op1) : St := if o.kind = 1 then (s.wr o.dev o.n (fullS o.b)).1 else if o.kind = 2 then (s.fl o.dev).1 else if o.kind = 4 then (if o.n < 0 then s else { s with armed := true, left := o.n }) else if o.kind = 5 then s.cr o.keep else s
def RSt.act (m : RSt) (o : Op1) : RSt := if o.kind = 1 then (m.put o.dev o.n (fullS o.b)).1 else if o.kind = 2 then (m.fl o.dev).1 else if o.kind = 4 then (if o.n < 0 then m else { m with armed := true, left := o.n }) else if o.kind = 5 then m.cr o.keep else m
/-- a set and the document's behind so many acts -/
structure PR (k : Nat) (s : St) (m : RSt) : Prop where
  rl : Rl s m
  sm : Sm k s
  sz : ∀ i, i < m.dv.length → 0 < (m.dv.getD i default).sec.length ∧ (m.dv.getD i default).sec.length ≤ 5000
  lf : m.armed = true → m.left ≤ 9223372036854775807
def SzEq (m q : RSt) : Prop := q.dv.length = m.dv.length ∧ ∀ i, i < m.dv.length → (q.dv.getD i default).sec.length = (m.dv.getD i default).sec.length
theorem SzEq.of {m q : RSt} (h : q.dv = m.dv) : SzEq m q := ⟨by rw [h], fun i _ => by rw [h]⟩
theorem SzEq.set {m q : RSt} {k : Nat} {d : RDv} (h : q.dv = m.dv.set k d) (hd : d.sec.length = (m.dv.getD k default).sec.length) : SzEq m q := by
  refine ⟨by rw [h, List.length_set], fun i hi => ?_⟩
  rw [h, getD_set']
  split
  · rename_i e; rw [hd, e.1]
  · rfl
theorem RSt.put_sz (m : RSt) (dev i : Int) (x : Sec) : SzEq m (m.put dev i x).1 := by
  rcases rput_cases m dev i x with ⟨_, e⟩ | ⟨_, _, e⟩ | ⟨_, _, e⟩
  · rw [e]; exact .of rfl
  · rw [e]; exact .of m.step_dv
  · rw [e]; exact .set (k := dev.toNat) rfl rfl
theorem RSt.fl_sz (m : RSt) (dev : Int) : SzEq m (m.fl dev).1 := by
  rcases rfl_cases m dev with ⟨_, e⟩ | ⟨_, _, e⟩ | ⟨_, _, e⟩
  · rw [e]; exact .of rfl
  · rw [e]; exact .of m.step_dv
  · rw [e]; exact .set (k := dev.toNat) rfl (doneL_len _ _)
theorem RSt.cr_sz (m : RSt) (l : List Kp) : SzEq m (m.cr l) := by
  refine ⟨by simp [RSt.cr], fun i hi => ?_⟩
  rw [cr_dv m l i hi]
  exact crW_len _ _ _ _
theorem RSt.act_sz (m : RSt) (o : Op1) : SzEq m (m.act o) := by
  unfold RSt.act
  split
  · exact m.put_sz _ _ _
  split
  · exact m.fl_sz _
  split
  · split <;> exact .of rfl
  split
  · exact m.cr_sz _
  · exact .of rfl
def LfOk (m : RSt) : Prop := m.armed = true → 0 ≤ m.left ∧ m.left ≤ 9223372036854775807
theorem LfOk.step {m : RSt} (h : LfOk m) : LfOk m.step.1 := by
  unfold RSt.step
  split
  · exact h
  split
  · exact h
  · rename_i h1 h2
    intro ha
    have := h ha
    have hne : m.left ≠ 0 := fun e => h2 ⟨ha, e⟩
    show 0 ≤ (if m.armed = true then IntKind.i64.wrap (m.left - 1) else m.left) ∧ (if m.armed = true then IntKind.i64.wrap (m.left - 1) else m.left) ≤ _
    have ha' : m.armed = true := ha
    rw [if_pos ha', wrap_i64 _ (by omega) (by omega)]
    omega
theorem LfOk.act {m : RSt} (h : LfOk m) (o : Op1) (hn : o.n ≤ 9223372036854775807) : LfOk (m.act o) := by
  unfold RSt.act
  split
  · rcases rput_cases m o.dev o.n (fullS o.b) with ⟨_, e⟩ | ⟨_, _, e⟩ | ⟨_, _, e⟩
    · rw [e]; exact h
    · rw [e]; exact h.step
    · rw [e]; exact h.step
  split
  · rcases rfl_cases m o.dev with ⟨_, e⟩ | ⟨_, _, e⟩ | ⟨_, _, e⟩
    · rw [e]; exact h
    · rw [e]; exact h.step
    · rw [e]; exact h.step
  split
  · split
    · exact h
    · rename_i h1; exact fun _ => ⟨by show 0 ≤ o.n; omega, hn⟩
  split
  · exact fun h1 => by cases h1
  · exact h
theorem PR.lfo {k : Nat} {s : St} {m : RSt} (h : PR k s m) : LfOk m := fun ha => ⟨(h.rl.le ha).2, h.lf ha⟩
theorem PR.act {k : Nat} {s : St} {m : RSt} (h : PR k s m) (o : Op1) (hn : o.n ≤ 9223372036854775807) : PR (k + 1) (s.act o) (m.act o) := by
  refine ⟨?_, ?_, fun i hi => ?_, fun ha => (h.lfo.act o hn ha).2⟩
  · unfold St.act RSt.act
    split
    · exact (h.rl.put h.lf _ _ _).1
    split
    · exact (h.rl.flush h.lf _).1
    split
    · split
      · exact h.rl
      · rename_i h1; exact ⟨h.rl.st, h.rl.go, rfl, fun _ => ⟨rfl, by show 0 ≤ o.n; omega⟩, h.rl.len, h.rl.dv⟩
    split
    · exact h.rl.crash _
    · exact h.rl
  · unfold St.act
    split
    · exact h.sm.wr _ _ _
    split
    · exact (h.sm.fl _).up (by omega)
    split
    · split
      · exact h.sm.up (by omega)
      · exact (h.sm.of_dv rfl).up (by omega)
    split
    · exact (h.sm.cr _).up (by omega)
    · exact h.sm.up (by omega)
  · obtain ⟨e1, e2⟩ := m.act_sz o
    rw [e1] at hi
    rw [e2 i hi]
    exact h.sz i hi
theorem PR.up {k n : Nat} {s : St} {m : RSt} (h : PR k s m) (hn : k ≤ n) : PR n s m := ⟨h.rl, h.sm.up hn, h.sz, h.lf⟩
theorem PR.len {k : Nat} {s : St} {m : RSt} (h : PR k s m) {X : List RDX} (hm : m.dv = rdv X) : X.length ≤ 5 ∧ s.dv.length = X.length := by
  have hlen : m.dv.length = X.length := by rw [hm]; simp
  have := h.sm.1
  have := h.rl.len
  omega
theorem newS_at (l : List Int) (i : Nat) (hi : i < l.length) : (newSt l).dv.getD i default = newDv (l.getD i default) ∧ (newRs l).dv.getD i default = newR (l.getD i default) := by
  simp [newSt, newRs, List.getD_eq_getElem?_getD, List.getElem?_eq_getElem hi]
theorem good_at {l : List Int} (h : goodN l = true) (i : Nat) (hi : i < l.length) : 1 ≤ l.getD i default ∧ l.getD i default ≤ 4096 := by
  unfold goodN at h
  simp only [Bool.and_eq_true, List.all_eq_true] at h
  have := h.2 (l.getD i default) (by rw [List.getD_eq_getElem?_getD, List.getElem?_eq_getElem hi]; exact List.getElem_mem hi)
  unfold okN at this
  simpa using this
theorem PR.new {l : List Int} (h : goodN l = true) : PR 0 (newSt l) (newRs l) := by
  have hl : l.length ≤ 5 := by
    unfold goodN at h
    simp only [Bool.and_eq_true, decide_eq_true_eq] at h
    exact h.1.2
  refine ⟨⟨rfl, rfl, rfl, fun h => (by cases h), by simp [newSt, newRs], fun i hi => ?_⟩, Sm.new hl, fun i hi => ?_, fun h => by cases h⟩
  · have hi' : i < l.length := by simpa [newRs] using hi
    obtain ⟨e1, e2⟩ := newS_at l i hi'
    have hg := good_at h i hi'
    rw [e1, e2]
    refine ⟨?_, fun j => ?_, rfl, fun k hk => by simp [newR] at hk⟩
    · simp only [newDv, newR, List.length_replicate]; omega
    · show Sec.zero = _
      split
      · rename_i hj
        simp only [newR, List.length_replicate] at hj
        simp only [newR]
        rw [List.getD_eq_getElem?_getD, List.getElem?_replicate, if_pos (by omega)]
        rfl
      · rfl
  · have hi' : i < l.length := by simpa [newRs] using hi
    obtain ⟨e1, e2⟩ := newS_at l i hi'
    have hg := good_at h i hi'
    rw [e2]
    simp only [newR, List.length_replicate]
    omega
theorem Stn.side {H K F : Hp} {p : Nat} {s : St} (hA : Stn H K F p s) {G K' : Hp} (lG : Le G K') (hk : ∀ b o, K b = some o → H b = none → K' b = some o ∧ G b = none) : Stn G K' F p s := by
  have hx : ∀ b o, F b = some o → K' b = some o ∧ G b = none := fun b o hb => hk b o (hA.le b o hb) (by
    cases hc : H b with
    | none => rfl
    | some o' => have := hA.ap b (by rw [hc]; simp); rw [hb] at this; cases this)
  refine ⟨hA.set, fun b o hb => (hx b o hb).1, lG, fun b hb => ?_⟩
  cases hc : F b with
  | none => rfl
  | some o => exact absurd (hx b o hc).2 hb
theorem Stn.off {H K F : Hp} {p : Nat} {s : St} (hA : Stn H K F p s) {b : Nat} (hF : F b = none) (hH : H b = none) (o : Obj) : Stn H (K.upd b o) F p s := ⟨hA.set, le_upd_of hA.le hF, le_upd_of hA.old hH, hA.ap⟩
theorem PR.put2 {k : Nat} {s : St} {m : RSt} (h : PR k s m) (dev i : Int) (x : Sec) : (m.put dev i x).2 = (s.wr dev i x).2.getD 0 := (h.rl.put h.lf dev i x).2
end Go.Proofs.Ytkmjncmdhinlgaa.HL
end
section
namespace Go.Proofs.Ytkmjncmdhinlgaa.HL
open Go Go.Proofs
set_option linter.unusedSimpArgs false
set_option linter.unusedVariables false
attribute [local irreducible] Lt Lq CW OW TW CallH


theorem q_sec {H : Hp} (x y : Sec) (K : Bool → Hp → Prop) : Lt Try.prog (Op.equalIn (9999 + 1) 38 (.agg x.c.toArray) (.agg y.c.toArray)) H K = K (decide (x = y)) H := by
  have h := q_array (P := Try.prog) (H := H) 9999 38 5 64 Try.underlying38 .u8 Try.underlying5 sz5 (fun x y K => q_int 9998 5 _ Try.underlying5 _ x y K) x.b y.b x.h y.h K
  refine h.trans ?_
  congr 1
  exact decide_eq_decide.2 ⟨fun e => Sec.ext e, fun e => by rw [e]⟩
theorem OwnS.part {H : Hp} {E : TypeId} {w : Nat} {v : Value} {n : Nat} {cs : List Value} {rs : Option Nat} (h : OwnS H E w v n cs rs) : ∃ G, Le G H ∧ Holds G w v n cs ∧ ∀ x, G x ≠ none → rs = some x := by
  obtain ⟨h1, ⟨h2, h3, h4⟩ | ⟨r, cap, c, h2, h3, h4, h5, h6, h7⟩⟩ := h
  · exact ⟨emptyHp, le_empty _, ⟨h1, .inl ⟨none, 0, h2, h3⟩⟩, fun x hx => absurd rfl hx⟩
  · refine ⟨emptyHp.upd r (.cells c E), le_put (le_empty _) h3, OwnS.holds (E := E) (rs := rs) ⟨h1, .inr ⟨r, cap, c, h2, upd_same _ _ _, h4, h5, h6, h7⟩⟩, fun x hx => ?_⟩
    by_cases e : x = r
    · rw [e]; exact h7
    · rw [upd_ne _ _ e] at hx; exact absurd rfl hx

end Go.Proofs.Ytkmjncmdhinlgaa.HL
end
section
namespace Go.Proofs.Ytkmjncmdhinlgaa.HL
open Go
set_option linter.unusedSimpArgs false
/-- where a slice of bytes lies -/
structure RwO where
  r : Nat
  o : Nat
  n : Nat
  cap : Nat
deriving Inhabited
abbrev RwO.v (x : RwO) : Value := .slice (some ⟨x.r, x.o, none⟩) x.n x.cap
def OwnO (H : Hp) (E : TypeId) (x : RwO) (l : List Int) : Prop := x.n = l.length ∧ x.n ≤ x.cap ∧ ∃ c, H x.r = some (.cells c E) ∧ x.o + x.cap ≤ c.size ∧ ∀ j, j < x.n → c[x.o + j]? = (u8s l)[j]?
theorem OwnO.stay {H H' : Hp} {E : TypeId} {x : RwO} {l : List Int} (h : OwnO H E x l) (k : ∀ o, H x.r = some o → H' x.r = some o) : OwnO H' E x l := by
  obtain ⟨h1, h2, c, h3, h4, h5⟩ := h
  exact ⟨h1, h2, c, k _ h3, h4, h5⟩
theorem OwnO.le {H H' : Hp} {E : TypeId} {x : RwO} {l : List Int} (h : OwnO H E x l) (k : Le H H') : OwnO H' E x l := h.stay (fun o ho => k _ o ho)
theorem OwnO.upd {H : Hp} {E : TypeId} {x : RwO} {l : List Int} (h : OwnO H E x l) {b : Nat} {o : Obj} (hb : x.r ≠ b) : OwnO (H.upd b o) E x l := h.stay (fun _ ho => (upd_ne _ _ hb).trans ho)
theorem OwnO.holds {H : Hp} {E : TypeId} {x : RwO} {l : List Int} (h : OwnO H E x l) : Holds H 1 x.v l.length (u8s l) := by
  obtain ⟨h1, h2, c, h3, h4, h5⟩ := h
  refine ⟨by simp, .inr ⟨x.r, x.o, x.cap, c, E, _, by rw [← h1], h3, by omega, ?_⟩⟩
  apply List.ext_getElem?
  intro j
  rw [Array.toList_extract, List.extract_eq_take_drop]
  by_cases hj : j < l.length
  · rw [List.getElem?_take_of_lt (by omega), List.getElem?_drop, Array.getElem?_toList, h5 j (by omega)]
  · rw [List.getElem?_eq_none (by simp; omega), List.getElem?_eq_none (by simp; omega)]
theorem OwnO.at {H : Hp} {E : TypeId} {x : RwO} {l : List Int} (h : OwnO H E x l) {j : Nat} (hj : j < l.length) : ∃ c, H x.r = some (.cells c E) ∧ c[x.o + j]? = some (.int .u8 (l.getD j 0)) ∧ x.o + j < c.size := by
  obtain ⟨h1, h2, c, h3, h4, h5⟩ := h
  refine ⟨c, h3, ?_, by omega⟩
  rw [h5 j (by omega), List.getElem?_map, List.getElem?_eq_getElem hj, List.getD_eq_getElem?_getD, List.getElem?_eq_getElem hj]; rfl
theorem OwnO.known {H : Hp} {E : TypeId} {x : RwO} {l : List Int} (h : OwnO H E x l) : H x.r ≠ none := by
  obtain ⟨_, _, c, h3, _⟩ := h
  rw [h3]; simp
/-- the slice of the last one alone -/
def RwO.last (x : RwO) : RwO := ⟨x.r, x.o + (x.n - 1), 1, x.cap - (x.n - 1)⟩
theorem OwnO.last {H : Hp} {E : TypeId} {x : RwO} {l : List Int} (h : OwnO H E x l) (hl : l ≠ []) : OwnO H E x.last [l.getD (l.length - 1) 0] := by
  have hlen : 0 < l.length := List.length_pos_iff.2 hl
  obtain ⟨h1, h2, c, h3, h4, h5⟩ := h
  refine ⟨rfl, by show 1 ≤ x.cap - (x.n - 1); omega, c, h3, by show x.o + (x.n - 1) + (x.cap - (x.n - 1)) ≤ c.size; omega, fun j hj => ?_⟩
  have hj0 : j = 0 := by
    have : j < 1 := hj
    omega
  subst hj0
  show c[x.o + (x.n - 1) + 0]? = some (.int .u8 (l.getD (l.length - 1) 0))
  rw [Nat.add_zero, h5 (x.n - 1) (by omega), List.getElem?_map, h1, List.getD_eq_getElem?_getD, List.getElem?_eq_getElem (show l.length - 1 < l.length by omega)]
  rfl
theorem Lt_lastS {P : Program} {H : Hp} {t e : TypeId} (hu : P.underlying t = some (.slice e)) (hw : szOf P e = some 1) {x : RwO} (h1 : 1 ≤ x.n) (h2 : x.n ≤ x.cap) {K : Value → Hp → Prop} (hK : K x.last.v H) :
    Lt P (Instr.sliceAt t x.v (some (.int .i64 ((x.n : Int) - 1))) none none) H K := by
  refine Lt_sliceS hu hw (lo := some (.int .i64 ((x.n : Int) - 1))) (l := x.n - 1) (h := x.n) (m := x.cap) rfl rfl ?_ (by omega) h2 (Nat.le_refl _) (fun h => by cases h) ?_
  · have : ((x.n : Int) - 1).toNat = x.n - 1 := by omega
    simp only [bound]
    rw [if_pos (by omega), this]
  · rw [if_neg (by omega)]
    have e1 : x.n - (x.n - 1) = 1 := by omega
    rw [e1]
    simp only [Option.map_some, add_mk, Nat.mul_one]
    exact hK
theorem i_info {P : Program} {H : Hp} {E : TypeId} {by_ : Nat} (hby : byOf P E = some by_) : ∃ i, P.info? E = some i ∧ i.bytes = by_ := by
  unfold byOf at hby
  cases hi : P.info? E with
  | none => rw [hi] at hby; cases hby
  | some i => rw [hi] at hby; exact ⟨i, rfl, by simpa using hby⟩
theorem Lt_appendO {P : Program} {H : Hp} {t E : TypeId} {by_ : Nat} {z : Value} (hu : P.underlying t = some (.slice E)) (hw : szOf P E = some 1) (hby : byOf P E = some by_) (hby0 : 0 < by_)
    (hz : zrOf P E = some (some z)) (hzw : z.cells.size = 1) (ty : TypeId) {x : RwO} {l : List Int} (hv : OwnO H E x l) {y : Value} {m : Nat} {ds : List Int} (hy : Holds H 1 y m (u8s ds))
    (hroom : (4 * (x.n + m) + 2000) * by_ ≤ 281474976710656) {K : Value → Hp → Prop}
    (h : ∀ x' H', Grow H (some x.r) H' → OwnO H' E x' (l ++ ds) → (x'.r = x.r ∨ H x'.r = none) → K x'.v H') : Lt P (Builtin.append_ #[t, t] ty #[x.v, y]) H K := by
  have hlen : ∀ K : Nat → Hp → Prop, Lt P (Builtin.lenOf y) H K = K m H := fun K => len_holds hy K
  have hx : ∀ K : Array Value → Hp → Prop, Lt P (Builtin.firstCells 1 m y) H K = K (u8s ds).toArray H := fun K => first_slice hy K
  have hm : m = ds.length := by have := hy.1; simp at this; omega
  have hown := hv
  obtain ⟨h1, h2, c, h3, h4, h5⟩ := hv
  by_cases hneed : x.n + m ≤ x.cap
  · refine Lt_appendRoom hu hu (fun k h => by cases h) hw ty h3 (o := x.o) (n := x.n) (cap := x.cap) (m := m) (ds := u8s ds) (by omega) hlen hx (by simp; omega) (fun v hv => by
      rw [List.mem_map] at hv
      obtain ⟨i, _, rfl⟩ := hv
      exact plain_int _ _) (by decide) hneed ?_
    have hpl := putCells_toList (u8s ds) c (x.o + x.n * 1) (by simp; omega)
    have hsz : (putCells c (x.o + x.n * 1) (u8s ds)).size = c.size := by
      rw [← Array.length_toList, hpl]; simp; omega
    refine h ⟨x.r, x.o, x.n + m, x.cap⟩ _ (.inr ⟨x.r, _, .inl rfl, rfl⟩) ⟨by rw [List.length_append]; show x.n + m = _; omega, hneed, _, upd_same _ _ _, by rw [hsz]; exact h4, fun j hj => ?_⟩ (.inl rfl)
    have hj' : j < x.n + m := hj
    rw [← Array.getElem?_toList, hpl]
    show _ = (u8s (l ++ ds))[j]?
    rw [show u8s (l ++ ds) = u8s l ++ u8s ds from List.map_append]
    have ht : (c.toList.take (x.o + x.n * 1)).length = x.o + x.n := by rw [List.length_take, Array.length_toList]; omega
    have hu8 : (u8s l).length = x.n := by simp [h1]
    have hd8 : (u8s ds).length = m := by simp [hm]
    rw [List.append_assoc]
    by_cases hj1 : j < x.n
    · rw [List.getElem?_append_left (by rw [ht]; show x.o + j < _; omega), List.getElem?_take_of_lt (by show x.o + j < _; omega), Array.getElem?_toList, List.getElem?_append_left (by omega)]
      exact h5 j hj1
    · rw [List.getElem?_append_right (by rw [ht]; show _ ≤ x.o + j; omega), List.getElem?_append_left (by rw [ht, hd8]; show x.o + j - _ < _; omega), List.getElem?_append_right (by omega), ht, hu8]
      congr 1
      show x.o + j - (x.o + x.n) = j - x.n
      omega
  · obtain ⟨inf, hinf, hib⟩ := i_info (H := H) hby
    simp only [Builtin.append_, List.getElem?_toArray, List.getElem?_cons_zero, List.getElem?_cons_succ, l_bind, l_und, hu, orF_some, l_size, hw, l_pure, Bool.false_eq_true, if_false, hlen]
    simp only [if_neg hneed]
    have hbytes : ¬ (((x.n + m : Nat) : Int) > IntKind.i64.max) := by
      have e1 : IntKind.i64.max = 9223372036854775807 := by decide
      rw [e1]
      have e2 : 4 * (x.n + m) + 2000 ≤ (4 * (x.n + m) + 2000) * by_ := Nat.le_mul_of_pos_right _ hby0
      omega
    have hcapb : ¬ (Builtin.nextslicecap (x.n + m) x.cap * by_ > 2 ^ 48) := by
      have e1 := nextcap_le (x.n + m) x.cap (by omega)
      have e2 := Nat.mul_le_mul_right by_ e1
      omega
    have hb0 : ¬ by_ = 0 := by omega
    have hfirst : ∀ (K : Array Value → Hp → Prop), Lt P (Builtin.firstCells 1 x.n x.v) H K = K (u8s l).toArray H := by
      intro K
      have := first_slice (P := P) hown.holds K
      rw [← h1] at this
      exact this
    simp only [l_bind, l_info, hinf, orF_some, hib, if_neg (fun hh => hbytes hh.1 : ¬ (((x.n + m : Nat) : Int) > IntKind.i64.max ∧ (False ∨ by_ = 0))), if_neg hcapb]
    refine ⟨fun hf => by simp [Question.forced] at hf, fun _ t => ?_⟩
    generalize hnc : (Question.appendCap (x.n + m) x.cap E).cut t = nc
    have hncge : x.n + m ≤ nc := by subst hnc; simp only [Question.cut]; omega
    have hask : ∀ (H : Hp) (K : Unit → Hp → Prop), Lt P (askRoom (nc * by_)) H K = K () H := by
      intro H K; unfold askRoom; split <;> rfl
    simp only [Sem.pure, l_pure', l_bind, l_info, hinf, orF_some, hib, hask, hfirst, Bool.not_false, if_true, hx, l_zero, hz, l_newRow, l_pure]
    intro r hr
    have hsz : ((u8s l).toArray ++ (u8s ds).toArray ++ Builtin.zeroCells z.cells (nc - (x.n + m))).size = nc := by
      simp only [Array.size_append, zeroCells_size, hzw, List.size_toArray, List.length_map]
      omega
    refine h ⟨r, 0, x.n + m, nc⟩ _ (.inr ⟨r, _, .inr hr, rfl⟩) ⟨by rw [List.length_append]; show x.n + m = _; omega, hncge, _, upd_same _ _ _, by rw [hsz]; show 0 + nc ≤ nc; omega, fun j hj => ?_⟩ (.inr hr)
    have hj' : j < x.n + m := hj
    show ((u8s l).toArray ++ (u8s ds).toArray ++ Builtin.zeroCells z.cells (nc - (x.n + m)))[0 + j]? = (u8s (l ++ ds))[j]?
    rw [show u8s (l ++ ds) = u8s l ++ u8s ds from List.map_append, Nat.zero_add, Array.getElem?_append_left (by simp; omega), ← Array.getElem?_toList]
    simp
theorem Lt_indexAgg {P : Program} {H : Hp} {t e : TypeId} {n : Nat} (hu : P.underlying t = some (.array n e)) (hw : szOf P e = some 1) {d : TypeDesc} (he : P.underlying e = some d) (hd : isAggD d = false) {cs : Array Value} {k : IntKind} {i : Int} (h0 : 0 ≤ i) (h1 : i < n) {v : Value} (hv : cs[i.toNat]? = some v) {K : Value → Hp → Prop} (hK : K v H) :
    Lt P (Instr.index t (.agg cs) (.int k i)) H K := by
  simp only [Instr.index, l_bind, l_asIntOf, l_und, hu, orF_some, if_pos (And.intro h0 h1), l_size, hw, part, l_isAgg, he, hd, Nat.mul_one, hv, l_pure, Bool.false_eq_true, if_false]
  exact hK
end Go.Proofs.Ytkmjncmdhinlgaa.HL
end
section
namespace Go.Proofs.Ytkmjncmdhinlgaa.HL
open Go Go.Proofs
set_option linter.unusedSimpArgs false
set_option linter.unusedVariables false
attribute [local irreducible] Lt Lq CW OW TW CallH


/-- one element of a family is another -/
def setF {α : Type} (R : Nat → α) (j : Nat) (x : α) : Nat → α := fun i => if i = j then x else R i
theorem setF_same {α : Type} (R : Nat → α) (j : Nat) (x : α) : setF R j x j = x := by simp [setF]
theorem setF_ne {α : Type} (R : Nat → α) {i j : Nat} (x : α) (h : i ≠ j) : setF R j x i = R i := by simp [setF, h]
def boxN (R : Nat → RwO) (N : Nat) : List Value := (List.range 10).map (fun j => if j < N then (R j).v else .slice none 0 0)
theorem boxN_len (R : Nat → RwO) (N : Nat) : (boxN R N).length = 10 := by simp [boxN]
theorem boxN_at (R : Nat → RwO) {N j : Nat} (h : j < N) (hj : j < 10) : (boxN R N)[j]? = some (R j).v := by
  simp only [boxN, List.getElem?_map, List.getElem?_range hj, Option.map_some, if_pos h]
theorem boxN_next (R : Nat → RwO) {N : Nat} (h : N < 10) (x : RwO) : (boxN R N).toArray.setIfInBounds N x.v = (boxN (setF R N x) (N + 1)).toArray := by
  apply Array.ext'
  apply List.ext_getElem?
  intro i
  simp only [Array.toList_setIfInBounds, List.getElem?_set]
  by_cases e : N = i
  · subst e
    rw [if_pos rfl, if_pos (by rw [boxN_len]; exact h), boxN_at _ (by omega) h, setF_same]
  · rw [if_neg e]
    simp only [boxN, List.getElem?_map]
    by_cases hi : i < 10
    · rw [List.getElem?_range hi]
      simp only [Option.map_some]
      by_cases h1 : i < N
      · rw [if_pos h1, if_pos (by omega), setF_ne _ _ (Ne.symm e)]
      · rw [if_neg h1, if_neg (by omega)]
    · rw [List.getElem?_eq_none (by simp; omega)]; rfl
theorem boxN_set (R : Nat → RwO) {j : Nat} (h : j < 10) (x : RwO) : (boxN R 10).toArray.setIfInBounds j x.v = (boxN (setF R j x) 10).toArray := by
  apply Array.ext'
  apply List.ext_getElem?
  intro i
  simp only [Array.toList_setIfInBounds, List.getElem?_set]
  by_cases e : j = i
  · subst e
    rw [if_pos rfl, if_pos (by rw [boxN_len]; exact h), boxN_at _ (by omega) h, setF_same]
  · rw [if_neg e]
    by_cases hi : i < 10
    · rw [boxN_at _ hi hi, boxN_at _ hi hi, setF_ne _ _ (Ne.symm e)]
    · rw [List.getElem?_eq_none (by rw [boxN_len]; omega), List.getElem?_eq_none (by rw [boxN_len]; omega)]
def rows5 (R : Nat → RwO) (k : Nat) : List Value := (List.range 5).map (fun i => (R (k * 5 + i)).v)
theorem boxN_ext (R : Nat → RwO) {k : Nat} (h : k < 2) : (boxN R 10).toArray.extract (k * 5) (k * 5 + 5) = (rows5 R k).toArray := by
  apply Array.ext'
  apply List.ext_getElem?
  intro i
  rw [Array.toList_extract, List.extract_eq_take_drop]
  show _ = (rows5 R k)[i]?
  by_cases hi : i < 5
  · rw [List.getElem?_take_of_lt (by omega), List.getElem?_drop, boxN_at _ (by omega) (by omega)]
    simp only [rows5, List.getElem?_map, List.getElem?_range hi, Option.map_some]
  · rw [List.getElem?_eq_none (by simp [boxN]; omega), List.getElem?_eq_none (by simp [rows5]; omega)]
theorem rows5_at (R : Nat → RwO) (k : Nat) {i : Nat} (h : i < 5) : (rows5 R k).toArray[i]? = some (R (k * 5 + i)).v := by
  simp only [rows5, List.getElem?_toArray, List.getElem?_map, List.getElem?_range h, Option.map_some]
/-- so many rows of bytes, each in a block of its own -/
structure RB (H Q : Hp) (R : Nat → RwO) (L : Nat → List Int) (b N : Nat) : Prop where
  old : Le H Q
  own : ∀ j, j < N → OwnO Q 5 (R j) (L j)
  ne : ∀ j, j < N → L j ≠ []
  fr : ∀ j, j < N → H (R j).r = none ∧ (R j).r ≠ b
  dis : ∀ i j, i < N → j < N → i ≠ j → (R i).r ≠ (R j).r
  hb : H b = none
  box : Q b = some (.cells (boxN R N).toArray 33)
theorem RB.kept {H Q Q' : Hp} {R : Nat → RwO} {L : Nat → List Int} {b N : Nat} (h : RB H Q R L b N) (hl : Le Q Q') : RB H Q' R L b N := ⟨Le.trans h.old hl, fun j hj => (h.own j hj).le hl, h.ne, h.fr, h.dis, h.hb, hl _ _ h.box⟩
/-- another row is made, the box told of it -/
theorem RB.next {H Q : Hp} {R : Nat → RwO} {L : Nat → List Int} {b N : Nat} (h : RB H Q R L b N) (hN : N < 10) {r : Nat} (hr : Q r = none) : RB H ((Q.upd r (.cells #[.int .u8 0] 5)).upd b (.cells (boxN (setF R N ⟨r, 0, 1, 1⟩) (N + 1)).toArray 33)) (setF R N ⟨r, 0, 1, 1⟩) (setF L N [0]) b (N + 1) := by
  have hrb : r ≠ b := fun e => by rw [e, h.box] at hr; cases hr
  have hrj : ∀ j, j < N → (R j).r ≠ r := fun j hj e => (h.own j hj).known (by rw [e]; exact hr)
  refine ⟨le_upd_of (le_upd_of h.old (none_of_le h.old hr)) h.hb, fun j hj => ?_, fun j hj => ?_, fun j hj => ?_, fun i j hi hj hij => ?_, h.hb, upd_same _ _ _⟩
  · by_cases e : j = N
    · subst e
      rw [setF_same, setF_same]
      refine ⟨rfl, Nat.le_refl _, _, (upd_ne _ _ hrb).trans (upd_same _ _ _), Nat.le_refl _, fun i hi => ?_⟩
      have hi0 : i = 0 := by
        have : i < 1 := hi
        omega
      subst hi0; rfl
    · rw [setF_ne _ _ e, setF_ne _ _ e]
      exact ((h.own j (by omega)).upd (hrj j (by omega))).upd (h.fr j (by omega)).2
  · by_cases e : j = N
    · subst e; rw [setF_same]; simp
    · rw [setF_ne _ _ e]; exact h.ne j (by omega)
  · by_cases e : j = N
    · subst e; rw [setF_same]; exact ⟨none_of_le h.old hr, hrb⟩
    · rw [setF_ne _ _ e]; exact h.fr j (by omega)
  · by_cases e1 : i = N
    · subst e1
      rw [setF_same, setF_ne _ _ (Ne.symm hij)]
      exact Ne.symm (hrj j (by omega))
    · by_cases e2 : j = N
      · subst e2
        rw [setF_same, setF_ne _ _ hij]
        exact hrj i (by omega)
      · rw [setF_ne _ _ e1, setF_ne _ _ e2]; exact h.dis i j (by omega) (by omega) hij
/-- the last one alone is kept of a row -/
theorem RB.cut {H Q : Hp} {R : Nat → RwO} {L : Nat → List Int} {b : Nat} (h : RB H Q R L b 10) {j : Nat} (hj : j < 10) : RB H (Q.upd b (.cells (boxN (setF R j (R j).last) 10).toArray 33)) (setF R j (R j).last) (setF L j [(L j).getD ((L j).length - 1) 0]) b 10 := by
  have er : ∀ i, (setF R j (R j).last i).r = (R i).r := fun i => by
    by_cases e : i = j
    · subst e; rw [setF_same]; rfl
    · rw [setF_ne _ _ e]
  refine ⟨le_upd_of h.old h.hb, fun i hi => ?_, fun i hi => ?_, fun i hi => ?_, fun i k hi hk hik => ?_, h.hb, upd_same _ _ _⟩
  · by_cases e : i = j
    · subst e
      rw [setF_same, setF_same]
      exact ((h.own i hi).last (h.ne i hi)).upd (h.fr i hi).2
    · rw [setF_ne _ _ e, setF_ne _ _ e]; exact (h.own i hi).upd (h.fr i hi).2
  · by_cases e : i = j
    · subst e; rw [setF_same]; simp
    · rw [setF_ne _ _ e]; exact h.ne i hi
  · rw [er]; exact h.fr i hi
  · rw [er, er]; exact h.dis i k hi hk hik
/-- a row has grown; the box is told -/
theorem RB.app {H Q K K' F : Hp} {p : Nat} {s : St} {R : Nat → RwO} {L : Nat → List Int} {b : Nat} (h : RB H Q R L b 10) (hS : Stn Q K F p s) {j : Nat} (hj : j < 10) {ds : List Int} {x : RwO} (hg : Grow K (some (R j).r) K') (ho : OwnO K' 5 x (L j ++ ds)) (hx : x.r = (R j).r ∨ K x.r = none) :
    ∃ Q' : Hp, RB H (Q'.upd b (.cells (boxN (setF R j x) 10).toArray 33)) (setF R j x) (setF L j (L j ++ ds)) b 10 ∧ Stn (Q'.upd b (.cells (boxN (setF R j x) 10).toArray 33)) (K'.upd b (.cells (boxN (setF R j x) 10).toArray 33)) F p s ∧ K' b = some (.cells (boxN R 10).toArray 33) ∧ ∀ z o, K z = some o → z ≠ (R j).r → K' z = some o := by
  have kb := hS.old _ _ h.box
  obtain ⟨c, hc⟩ : ∃ c, K' x.r = some (.cells c 5) := by obtain ⟨_, _, c, h3, _⟩ := ho; exact ⟨c, h3⟩
  -- the new rest
  obtain ⟨Q', hQS, hQK, hQk, hKK⟩ : ∃ Q', Stn Q' K' F p s ∧ (∀ z, Q z ≠ none ∨ z = x.r → Q' z = K' z) ∧ (∀ z o, Q z = some o → z ≠ (R j).r → Q' z = some o) ∧ (∀ z o, K z = some o → z ≠ (R j).r → K' z = some o) := by
    rcases hg with rfl | ⟨r, o, h1, rfl⟩
    · have hxr : x.r = (R j).r := hx.elim id (fun e => by rw [e] at hc; cases hc)
      refine ⟨Q, hS, fun z hz => ?_, fun z o hz _ => hz, fun z o hz _ => hz⟩
      rcases hz with hz | hz
      · cases hq : Q z with
        | none => exact absurd hq hz
        | some o => exact (hS.old _ _ hq).symm
      · rw [hz, hxr]
        cases hq : Q (R j).r with
        | none => exact absurd hq (h.own j hj).known
        | some o => exact (hS.old _ _ hq).symm
    · have hF : F r = none := by
        rcases h1 with h1 | h1
        · cases h1; exact hS.ap _ (h.own j hj).known
        · exact hS.fresh h1
      refine ⟨Q.upd r o, hS.put hF o, fun z hz => ?_, fun z o' hz hne => ?_, fun z o' hz hne => ?_⟩
      · by_cases e : z = r
        · subst e; rw [upd_same, upd_same]
        · rw [upd_ne _ _ e, upd_ne _ _ e]
          have hzq : Q z ≠ none := by
            rcases hz with hz | hz
            · exact hz
            · rw [hz] at e ⊢
              rcases hx with e2 | e2
              · rw [e2]; exact (h.own j hj).known
              · rw [upd_ne _ _ e, e2] at hc; cases hc
          cases hq : Q z with
          | none => exact absurd hq hzq
          | some o2 => exact (hS.old _ _ hq).symm
      · refine (upd_ne _ _ (fun e => ?_)).trans hz
        subst e
        rcases h1 with h1 | h1
        · cases h1; exact hne rfl
        · rw [hS.old _ _ hz] at h1; cases h1
      · refine (upd_ne _ _ (fun e => ?_)).trans hz
        subst e
        rcases h1 with h1 | h1
        · cases h1; exact hne rfl
        · rw [hz] at h1; cases h1
  have hbr : b ≠ (R j).r := Ne.symm (h.fr j hj).2
  have hxb : x.r ≠ b := by
    rcases hx with e | e
    · rw [e]; exact (h.fr j hj).2
    · exact fun e2 => by rw [e2, kb] at e; cases e
  have hxi : ∀ i, i < 10 → i ≠ j → x.r ≠ (R i).r := fun i hi hij => by
    rcases hx with e | e
    · rw [e]; exact h.dis j i hj hi (Ne.symm hij)
    · intro e2
      have hk := (h.own i hi).known
      rw [← e2] at hk
      exact hk (none_of_le hS.old e)
  have hxH : H x.r = none := by
    rcases hx with e | e
    · rw [e]; exact (h.fr j hj).1
    · exact none_of_le h.old (none_of_le hS.old e)
  refine ⟨Q', ⟨?_, fun i hi => ?_, fun i hi => ?_, fun i hi => ?_, fun i k hi hk hik => ?_, h.hb, upd_same _ _ _⟩, ?_, ?_, hKK⟩
  · exact le_upd_of (fun z o hz => hQk z o (h.old z o hz) (fun e => by rw [e, (h.fr j hj).1] at hz; cases hz)) h.hb
  · by_cases e : i = j
    · subst e
      rw [setF_same, setF_same]
      exact (ho.stay (fun o ho' => (hQK _ (.inr rfl)).trans ho')).upd hxb
    · rw [setF_ne _ _ e, setF_ne _ _ e]
      exact ((h.own i hi).stay (fun o ho' => hQk _ _ ho' (h.dis i j hi hj e))).upd (h.fr i hi).2
  · by_cases e : i = j
    · subst e; rw [setF_same]; simp [h.ne i hi]
    · rw [setF_ne _ _ e]; exact h.ne i hi
  · by_cases e : i = j
    · subst e; rw [setF_same]; exact ⟨hxH, hxb⟩
    · rw [setF_ne _ _ e]; exact h.fr i hi
  · by_cases e1 : i = j
    · subst e1
      rw [setF_same, setF_ne _ _ (Ne.symm hik)]
      exact hxi k hk (Ne.symm hik)
    · by_cases e2 : k = j
      · subst e2
        rw [setF_same, setF_ne _ _ hik]
        exact Ne.symm (hxi i hi hik)
      · rw [setF_ne _ _ e1, setF_ne _ _ e2]; exact h.dis i k hi hk hik
  · exact hQS.put (hQS.ap b (by rw [hQk b _ h.box hbr]; simp)) _
  · exact hKK b _ kb hbr

end Go.Proofs.Ytkmjncmdhinlgaa.HL
end
section
namespace Go.Proofs.Ytkmjncmdhinlgaa.HL
open Go Go.Proofs
set_option linter.unusedSimpArgs false
set_option linter.unusedVariables false
attribute [local irreducible] Lt Lq CW OW TW CallH


def lastB (l : List Int) : Int := l.getD (l.length - 1) 0
theorem lastB_app (l : List Int) (b : Int) : lastB (l ++ [b]) = b := by
  simp [lastB, List.getD_eq_getElem?_getD]
theorem lastB_one (b : Int) : lastB [b] = b := rfl
theorem lastW_app (w : Wt) (i : Int) : ∀ l : List Wt, lastW (l ++ [w]) i = if w.at_ = i then some w.x else lastW l i
  | [] => by
    show (match lastW [] i with | some x => some x | none => if w.at_ = i then some w.x else none) = _
    rfl
  | v :: r => by
    show (match lastW (r ++ [w]) i with | some x => some x | none => if v.at_ = i then some v.x else none) = _
    rw [lastW_app w i r]
    by_cases h : w.at_ = i
    · simp only [if_pos h]
    · simp only [if_neg h]; rfl
theorem stN_all (ws : List Wt) (s : Int → Sec) : ∀ n, n ≤ ws.length → ∀ i, stN (fun _ => some 0) ws s n i = (lastW (ws.take n) i).getD (s i)
  | 0, _, i => rfl
  | n + 1, hn, i => by
    have e : ws.take (n + 1) = ws.take n ++ [ws.getD n default] := by
      rw [List.take_add_one, List.getElem?_eq_getElem (by omega), List.getD_eq_getElem?_getD, List.getElem?_eq_getElem (by omega)]; rfl
    rw [e, lastW_app]
    show (if i = (ws.getD n default).at_ then torn (ws.getD n default).x _ 0 else stN (fun _ => some 0) ws s n i) = _
    by_cases h : i = (ws.getD n default).at_
    · rw [if_pos h, if_pos h.symm]; simp [torn]
    · rw [if_neg h, if_neg (Ne.symm h)]; exact stN_all ws s n (by omega) i
/-- a device of five sectors and the bytes that each may have -/
structure DI (d : Dv) (L : Nat → List Int) (k : Nat) : Prop where
  sz : d.size = 5
  su : ∀ i : Nat, i < 5 → ∃ c, c ∈ L (k * 5 + i) ∧ d.sure i = fullS c
  wa : ∀ i : Nat, i < 5 → ∀ w ∈ d.wait, w.at_ = i → ∃ c, c ∈ L (k * 5 + i) ∧ w.x = fullS c
  rd : ∀ i : Nat, i < 5 → d.read i = fullS (lastB (L (k * 5 + i)))
structure BI (s : St) (L : Nat → List Int) : Prop where
  len : s.dv.length = 2
  ar : s.armed = false
  go : s.gone = false
  ne : ∀ j, j < 10 → L j ≠ []
  dv : ∀ k, k < 2 → DI (s.dv.getD k default) L k
theorem DI.congr {d : Dv} {L M : Nat → List Int} {k : Nat} (h : DI d L k) (e : ∀ i, i < 5 → M (k * 5 + i) = L (k * 5 + i)) : DI d M k :=
  ⟨h.sz, fun i hi => by rw [e i hi]; exact h.su i hi, fun i hi => by rw [e i hi]; exact h.wa i hi, fun i hi => by rw [e i hi]; exact h.rd i hi⟩
theorem BI.new : BI (newSt [5, 5]) (fun _ => [0]) := by
  refine ⟨rfl, rfl, rfl, fun _ _ => by simp, fun k hk => ?_⟩
  have e : (newSt [5, 5]).dv.getD k default = newDv 5 := by
    match k, hk with
    | 0, _ => rfl
    | 1, _ => rfl
  rw [e]
  exact ⟨rfl, fun i _ => ⟨0, by simp, rfl⟩, fun i _ w hw => by simp [newDv] at hw, fun i _ => rfl⟩
theorem BI.step {s : St} {L : Nat → List Int} (h : BI s L) : s.step.2 = true ∧ s.step.1.dv = s.dv ∧ s.step.1.armed = false ∧ s.step.1.gone = false := by
  unfold St.step
  rw [if_neg (by rw [h.ar, h.go]; simp)]
  exact ⟨rfl, rfl, h.ar, h.go⟩
theorem BI.write {s : St} {L : Nat → List Int} (h : BI s L) (dev n b : Int) : ((s.wr dev n (fullS b)).2 ≠ none ∧ (s.wr dev n (fullS b)).1 = s) ∨ ((s.wr dev n (fullS b)).2 = none ∧ (0 ≤ dev ∧ dev < 2) ∧ (0 ≤ n ∧ n < 5) ∧ BI (s.wr dev n (fullS b)).1 (setF L (dev.toNat * 5 + n.toNat) (L (dev.toNat * 5 + n.toNat) ++ [b]))) := by
  obtain ⟨h1, h2, h3, h4⟩ := h.step
  rcases wr_cases s dev n (fullS b) with ⟨e1, e2, _⟩ | ⟨_, _, e3, _⟩ | ⟨e1, e2, _, e4⟩
  · exact .inl ⟨by rw [e2]; simp, e1⟩
  · rw [h1] at e3; cases e3
  · right
    unfold St.has at e4
    rw [Bool.and_eq_true, decide_eq_true_eq, decide_eq_true_eq, h.len] at e4
    have hd := h.dv dev.toNat (by omega)
    rw [hd.sz] at e4
    refine ⟨e2, by omega, by omega, ?_⟩
    rw [e1]
    refine ⟨by simp [h.len], h3, h4, fun j hj => ?_, fun k hk => ?_⟩
    · by_cases e : j = dev.toNat * 5 + n.toNat
      · rw [e, setF_same]; simp
      · rw [setF_ne _ _ e]; exact h.ne j hj
    · show DI ((s.dv.set dev.toNat _).getD k default) _ k
      rw [getD_set]
      by_cases e : k = dev.toNat
      · rw [if_pos ⟨e, by rw [h.len]; omega⟩]
        subst e
        refine ⟨hd.sz, fun i hi => ?_, fun i hi w hw hwa => ?_, fun i hi => ?_⟩
        · obtain ⟨c, c1, c2⟩ := hd.su i hi
          refine ⟨c, ?_, c2⟩
          by_cases e : i = n.toNat
          · rw [e, setF_same]; rw [e] at c1; exact List.mem_append_left _ c1
          · rw [setF_ne _ _ (by omega)]; exact c1
        · have hw' : w ∈ (s.dv.getD dev.toNat default).wait ++ [⟨n, fullS b⟩] := hw
          rcases List.mem_append.1 hw' with hm | hm
          · obtain ⟨c, c1, c2⟩ := hd.wa i hi w hm hwa
            refine ⟨c, ?_, c2⟩
            by_cases e : i = n.toNat
            · rw [e, setF_same]; rw [e] at c1; exact List.mem_append_left _ c1
            · rw [setF_ne _ _ (by omega)]; exact c1
          · simp at hm
            subst hm
            have hn : n = i := hwa
            have : i = n.toNat := by omega
            rw [this, setF_same]
            exact ⟨b, by simp, rfl⟩
        · have hr := hd.rd i hi
          show (lastW ((s.dv.getD dev.toNat default).wait ++ [⟨n, fullS b⟩]) i).getD _ = _
          rw [lastW_app]
          by_cases e : n = i
          · have e2 : i = n.toNat := by omega
            rw [if_pos e, e2, setF_same, lastB_app]; rfl
          · rw [if_neg e, setF_ne _ _ (by omega)]
            exact hr
      · rw [if_neg (fun hh => e hh.1)]
        refine (h.dv k hk).congr (fun i hi => setF_ne _ _ (by omega))
/-- the lists behind a flush of a device -/
def cutL (L : Nat → List Int) (k m : Nat) : Nat → List Int := fun j => if k * 5 ≤ j ∧ j < k * 5 + m then [lastB (L j)] else L j
theorem cutL_zero (L : Nat → List Int) (k : Nat) : cutL L k 0 = L := by
  funext j; unfold cutL; rw [if_neg (by omega)]
theorem cutL_next (L : Nat → List Int) (k m : Nat) : setF (cutL L k m) (k * 5 + m) [(cutL L k m (k * 5 + m)).getD ((cutL L k m (k * 5 + m)).length - 1) 0] = cutL L k (m + 1) := by
  funext j
  by_cases e : j = k * 5 + m
  · subst e
    rw [setF_same]
    unfold cutL
    rw [if_neg (by omega), if_pos (by omega)]; rfl
  · rw [setF_ne _ _ e]
    unfold cutL
    by_cases h : k * 5 ≤ j ∧ j < k * 5 + m
    · rw [if_pos h, if_pos (by omega)]
    · rw [if_neg h, if_neg (by omega)]
def cutR (R : Nat → RwO) (k m : Nat) : Nat → RwO := fun j => if k * 5 ≤ j ∧ j < k * 5 + m then (R j).last else R j
theorem cutR_zero (R : Nat → RwO) (k : Nat) : cutR R k 0 = R := by
  funext j; unfold cutR; rw [if_neg (by omega)]
theorem cutR_at (R : Nat → RwO) (k m : Nat) : cutR R k m (k * 5 + m) = R (k * 5 + m) := by unfold cutR; rw [if_neg (by omega)]
theorem cutR_next (R : Nat → RwO) (k m : Nat) : setF (cutR R k m) (k * 5 + m) (cutR R k m (k * 5 + m)).last = cutR R k (m + 1) := by
  funext j
  by_cases e : j = k * 5 + m
  · subst e
    rw [setF_same]
    unfold cutR
    rw [if_neg (by omega), if_pos (by omega)]
  · rw [setF_ne _ _ e]
    unfold cutR
    by_cases h : k * 5 ≤ j ∧ j < k * 5 + m
    · rw [if_pos h, if_pos (by omega)]
    · rw [if_neg h, if_neg (by omega)]
theorem BI.flush {s : St} {L : Nat → List Int} (h : BI s L) (dev : Int) : ((s.fl dev).2 ≠ none ∧ (s.fl dev).1 = s) ∨ ((s.fl dev).2 = none ∧ (0 ≤ dev ∧ dev < 2) ∧ BI (s.fl dev).1 (cutL L dev.toNat 5)) := by
  obtain ⟨h1, h2, h3, h4⟩ := h.step
  rcases fl_cases s dev with ⟨e1, e2, _⟩ | ⟨_, _, e3, _⟩ | ⟨e1, e2, _, e4⟩
  · exact .inl ⟨by rw [e2]; simp, e1⟩
  · rw [h1] at e3; cases e3
  · right
    rw [h.len] at e4
    refine ⟨e2, by omega, ?_⟩
    rw [e1]
    have hd := h.dv dev.toNat (by omega)
    refine ⟨by simp [h.len], h3, h4, fun j hj => ?_, fun k hk => ?_⟩
    · unfold cutL
      split
      · simp
      · exact h.ne j hj
    · show DI ((s.dv.set dev.toNat _).getD k default) _ k
      rw [getD_set]
      by_cases e : k = dev.toNat
      · rw [if_pos ⟨e, by rw [h.len]; omega⟩]
        subst e
        have es : ∀ i : Nat, i < 5 → ((s.dv.getD dev.toNat default).settle (fun _ => some 0)).sure i = fullS (lastB (L (dev.toNat * 5 + i))) := fun i hi => by
          show stN (fun _ => some 0) _ _ _ _ = _
          rw [stN_all _ _ _ (Nat.le_refl _), List.take_of_length_le (Nat.le_refl _)]
          exact hd.rd i hi
        have ec : ∀ i : Nat, i < 5 → cutL L dev.toNat 5 (dev.toNat * 5 + i) = [lastB (L (dev.toNat * 5 + i))] := fun i hi => by
          unfold cutL; rw [if_pos (by omega)]
        refine ⟨hd.sz, fun i hi => ⟨_, by rw [ec i hi]; simp, es i hi⟩, fun i hi w hw => by simp [Dv.settle] at hw, fun i hi => ?_⟩
        rw [ec i hi, lastB_one]
        exact es i hi
      · rw [if_neg (fun hh => e hh.1)]
        refine (h.dv k hk).congr (fun i hi => ?_)
        unfold cutL
        rw [if_neg (by omega)]
/-- is something torn? -/
def tornB (k : Kp) : Bool := decide (0 < k.tear) && decide (k.tear < 64)
theorem torn_mem {x old : Sec} {t : Int} {l : List Int} (h1 : ∀ b ∈ x.b, b ∈ l) (h2 : ∀ b ∈ old.b, b ∈ l) : ∀ b ∈ (torn x old t).b, b ∈ l := by
  unfold torn
  split
  · intro b hb
    rcases List.mem_append.1 hb with hb | hb
    · exact h1 b (List.mem_of_mem_take hb)
    · exact h2 b (List.mem_of_mem_drop hb)
  · exact h1
theorem full_mem {c : Int} {l : List Int} (h : c ∈ l) : ∀ b ∈ (fullS c).b, b ∈ l := fun b hb => by
  have : b ∈ List.replicate 64 c := hb
  rw [List.mem_replicate] at this
  rw [this.2]; exact h
theorem torn_whole {x old : Sec} {t : Int} (h : ¬ (0 < t ∧ t < 64)) : torn x old t = x := by unfold torn; rw [dif_neg h]
theorem DI.crash {d : Dv} {L : Nat → List Int} {k : Nat} (h : DI d L k) (kept : Nat → Option Int) {i : Nat} (hi : i < 5) : ∀ n, n ≤ d.wait.length → (∀ b ∈ (stN kept d.wait d.sure n i).b, b ∈ L (k * 5 + i)) ∧ ((∀ n t, kept n = some t → ¬ (0 < t ∧ t < 64)) → ∃ c, c ∈ L (k * 5 + i) ∧ stN kept d.wait d.sure n i = fullS c)
  | 0, _ => by
    obtain ⟨c, c1, c2⟩ := h.su i hi
    have e : stN kept d.wait d.sure 0 i = d.sure i := rfl
    rw [e, c2]
    exact ⟨full_mem c1, fun _ => ⟨c, c1, rfl⟩⟩
  | n + 1, hn => by
    obtain ⟨ih1, ih2⟩ := DI.crash h kept hi n (by omega)
    have hm : d.wait.getD n default ∈ d.wait := by
      rw [List.getD_eq_getElem?_getD, List.getElem?_eq_getElem (by omega)]; exact List.getElem_mem _
    cases hk : kept n with
    | none =>
      have e : stN kept d.wait d.sure (n + 1) i = stN kept d.wait d.sure n i := by
        show (match kept n with | none => stN kept d.wait d.sure n | some t => _) _ = _
        rw [hk]
      rw [e]; exact ⟨ih1, ih2⟩
    | some t =>
      have e : stN kept d.wait d.sure (n + 1) i = if (i : Int) = (d.wait.getD n default).at_ then torn (d.wait.getD n default).x (stN kept d.wait d.sure n (d.wait.getD n default).at_) t else stN kept d.wait d.sure n i := by
        show (match kept n with | none => stN kept d.wait d.sure n | some t => _) _ = _
        rw [hk]
      rw [e]
      by_cases hw : (i : Int) = (d.wait.getD n default).at_
      · rw [if_pos hw, ← hw]
        obtain ⟨c, c1, c2⟩ := h.wa i hi _ hm hw.symm
        refine ⟨torn_mem (by rw [c2]; exact full_mem c1) ih1, fun ht => ⟨c, c1, ?_⟩⟩
        rw [torn_whole (ht n t hk), c2]
      · rw [if_neg hw]; exact ⟨ih1, ih2⟩
theorem keepOf_mem {l : List Kp} {dev n t : Int} (h : keepOf l dev n = some t) : ∃ q ∈ l, q.tear = t := by
  unfold keepOf at h
  cases hf : l.find? (fun k => decide (k.dev = dev) && decide (k.n = n)) with
  | none => rw [hf] at h; cases h
  | some q => rw [hf] at h; exact ⟨q, List.mem_of_find?_eq_some hf, by simpa using h⟩
/-- a set behind the crash, and what each sector is -/
structure CB (s : St) (L : Nat → List Int) (tn : Bool) : Prop where
  len : s.dv.length = 2
  go : s.gone = false
  wa : ∀ k, k < 2 → (s.dv.getD k default).wait = []
  sz : ∀ k, k < 2 → (s.dv.getD k default).size = 5
  by_ : ∀ k, k < 2 → ∀ i : Nat, i < 5 → ∀ b ∈ ((s.dv.getD k default).sure i).b, b ∈ L (k * 5 + i)
  wh : tn = false → ∀ k, k < 2 → ∀ i : Nat, i < 5 → ∃ c, (s.dv.getD k default).sure i = fullS c
theorem BI.crash {s : St} {L : Nat → List Int} (h : BI s L) (l : List Kp) : CB (s.cr l) L (l.any tornB) := by
  have e : ∀ k, k < 2 → (s.cr l).dv.getD k default = (s.dv.getD k default).settle (fun n => keepOf l k n) := fun k hk => by
    simp [St.cr, List.getD_eq_getElem?_getD, List.getElem?_mapIdx, List.getElem?_eq_getElem (show k < s.dv.length by rw [h.len]; exact hk)]
  refine ⟨by simp [St.cr, h.len], rfl, fun k hk => by rw [e k hk]; rfl, fun k hk => by rw [e k hk]; exact (h.dv k hk).sz, fun k hk i hi => ?_, fun ht k hk i hi => ?_⟩
  · rw [e k hk]
    exact ((h.dv k hk).crash _ hi _ (Nat.le_refl _)).1
  · rw [e k hk]
    obtain ⟨c, _, hc⟩ := ((h.dv k hk).crash (fun n => keepOf l k n) hi _ (Nat.le_refl _)).2 (fun n t hn htt => by
      obtain ⟨q, q1, q2⟩ := keepOf_mem hn
      have : l.any tornB = true := List.any_eq_true.2 ⟨q, q1, by unfold tornB; rw [q2]; simp [htt.1, htt.2]⟩
      rw [ht] at this; cases this)
    exact ⟨c, hc⟩
theorem CB.rd {s : St} {L : Nat → List Int} {tn : Bool} (h : CB s L tn) {k i : Nat} (hk : k < 2) (hi : i < 5) : s.rd k i = ((s.dv.getD k default).sure i, none) ∧ s.su k i = (s.dv.getD k default).sure i := by
  have h1 : s.has k i = true := by
    unfold St.has
    rw [Bool.and_eq_true, decide_eq_true_eq, decide_eq_true_eq, Int.toNat_natCast, h.sz k hk, h.len]
    omega
  refine ⟨?_, ?_⟩
  · unfold St.rd
    rw [if_neg (by rw [h.go]; simp), if_pos h1, Int.toNat_natCast]
    unfold Dv.read
    rw [h.wa k hk]; rfl
  · unfold St.su
    rw [if_pos (by rw [h.len]; omega), Int.toNat_natCast]
theorem CB.waE {s : St} {L : Nat → List Int} {tn : Bool} (h : CB s L tn) {k : Nat} (hk : k < 2) : s.wa k = 0 := by
  unfold St.wa
  rw [if_pos (by rw [h.len]; omega), Int.toNat_natCast, h.wa k hk]; rfl

end Go.Proofs.Ytkmjncmdhinlgaa.HL
end
section
namespace Go.Proofs.Ytkmjncmdhinlgaa.HL
open Go Go.Proofs
set_option linter.unusedSimpArgs false
set_option linter.unusedVariables false
attribute [local irreducible] Lt Lq CW OW TW CallH


theorem BI.congr {s : St} {L M : Nat → List Int} (h : BI s L) (e : ∀ j, j < 10 → M j = L j) : BI s M := ⟨h.len, h.ar, h.go, fun j hj => by rw [e j hj]; exact h.ne j hj, fun k hk => (h.dv k hk).congr (fun i hi => e _ (by omega))⟩
theorem any_next {l : List Kp} {k : Nat} (hk : k < l.length) : (l.take (k + 1)).any tornB = ((l.take k).any tornB || tornB (l.getD k default)) := by
  rw [List.take_add_one, List.getElem?_eq_getElem hk, List.getD_eq_getElem?_getD, List.getElem?_eq_getElem hk]
  simp only [Option.toList_some, List.any_append, List.any_cons, List.any_nil, Bool.or_false, Option.getD_some]
theorem any_byte {l : List Int} {k : Nat} (hk : k < l.length) (x : Int) : (l.take (k + 1)).any (fun c => decide (x = c)) = ((l.take k).any (fun c => decide (x = c)) || decide (x = l.getD k 0)) := by
  rw [List.take_add_one, List.getElem?_eq_getElem hk, List.getD_eq_getElem?_getD, List.getElem?_eq_getElem hk]
  simp only [Option.toList_some, List.any_append, List.any_cons, List.any_nil, Bool.or_false, Option.getD_some]
theorem sec_byte (x : Sec) {b : Nat} (hb : b < 64) : x.c.toArray[b]? = some (.int .u8 (x.b.getD b 0)) := by
  have h := x.h
  rw [List.getElem?_toArray]
  simp only [Sec.c, u8s, List.getElem?_map, List.getD_eq_getElem?_getD]
  rw [List.getElem?_eq_getElem (by omega)]
  rfl
theorem sec_mem (x : Sec) {b : Nat} (hb : b < 64) : x.b.getD b 0 ∈ x.b := by
  have h := x.h
  rw [List.getD_eq_getElem?_getD, List.getElem?_eq_getElem (by omega)]
  exact List.getElem_mem _
theorem full_zero (x : Sec) (h : ∃ c, x = fullS c) : fullS (x.b.getD 0 0) = x := by
  obtain ⟨c, rfl⟩ := h
  rfl
theorem RB.start (H : Hp) {b : Nat} (hb : H b = none) : RB H (H.upd b (.cells (boxN (fun _ => default) 0).toArray 33)) (fun _ => default) (fun _ => []) b 0 := ⟨le_upd _ _ _ hb, fun j hj => absurd hj (by omega), fun j hj => absurd hj (by omega), fun j hj => absurd hj (by omega), fun i j hi => absurd hi (by omega), hb, upd_same _ _ _⟩
theorem len_set {L : Nat → List Int} {j n : Nat} {l : List Int} (h : ∀ i, (L i).length ≤ n) (hl : l.length ≤ n + 1) : ∀ i, (setF L j l i).length ≤ n + 1 := fun i => by
  by_cases e : i = j
  · subst e; rw [setF_same]; exact hl
  · rw [setF_ne _ _ e]; exact Nat.le_trans (h i) (Nat.le_succ _)
theorem len_cut {L : Nat → List Int} {k m n : Nat} (h : ∀ i, (L i).length ≤ n) (hn : 1 ≤ n) : ∀ i, (cutL L k m i).length ≤ n := fun i => by
  unfold cutL
  split
  · exact hn
  · exact h i

set_option maxRecDepth 100000 in
set_option maxHeartbeats 16000000 in
theorem lawBytes (H : Hp) (a : Option Addr) (cap : Nat) (l : List Op1) (hv : Holds H 5 (.slice a l.length cap) l.length (ops l)) (ka : Option Addr) (kc : Nat) (kl : List Kp) (hkv : Holds H 3 (.slice ka kl.length kc) kl.length (kps kl)) : CallH Try.prog 3 #[.slice a l.length cap, .slice ka kl.length kc] H (fun v H' => v = .bool true ∧ Le H H') := by
  refine CallH_enter (l := [_, _]) (rl := [.tmp 4]) (n := 242) Try.func3 rfl rfl rfl rfl rfl ?_
  simp only [envOf, Nat.reduceAdd]
  refine CW_seq (fun K1 hK1 => ?_)
  refine CW_region ?_
  refine OW_as rfl ?_
  refine OW_nil ?_
  try simp only [Ex.thnH, Ex.inBlockH, ↓reduceIte, Nat.reduceEqDiff]
  refine hK1 _ _ ?_; try clear hK1 K1
  refine CW_seq (fun K2 hK2 => ?_)
  refine CW_seq (fun K3 hK3 => ?_)
  refine CW_region ?_
  refine OW_opS (fun K hK r => ?_)
  simp only [x_callF _ bd8, List.map_toArray, List.map_cons, List.map_nil, eX, ↓reduceIte, Nat.reduceEqDiff, Int.reduceToNat]
  refine (alive_ok _).mono ?_
  rintro v27 H' ⟨rfl, hq⟩
  have hq := hq.symm
  subst hq
  try simp only [eX, ↓reduceIte, Nat.reduceEqDiff, Int.reduceToNat]
  refine hK _ _ ?_; clear hK K
  refine OW_opS (fun K hK r => ?_)
  simp only [x_un, u_not, eX, ↓reduceIte, Nat.reduceEqDiff, Int.reduceToNat]
  refine hK _ _ ?_; clear hK K
  refine OW_nil ?_
  try simp only [Ex.thnH, Ex.inBlockH, ↓reduceIte, Nat.reduceEqDiff]
  refine hK3 _ _ ?_; try clear hK3 K3
  refine CW_cond (fun r => rfl) (fun c28 => ?_) (fun c28 => ?_)
  · first
    | (exfalso; exact cnA c28; done)
    | skip
      skip
      refine CW_seq (fun K4 hK4 => ?_)
      refine CW_region ?_
      refine OW_as rfl ?_
      refine OW_nil ?_
      try simp only [Ex.thnH, Ex.inBlockH, ↓reduceIte, Nat.reduceEqDiff]
      refine hK4 _ _ ?_; try clear hK4 K4
      refine CW_ret ?_
      try simp only [Ex.thnH, Ex.inBlockH, ↓reduceIte, Nat.reduceEqDiff]
      skip
  · first
    | (exfalso; exact cnA c28; done)
    | skip
      skip
      refine CW_skip ?_
      try simp only [Ex.thnH, Ex.inBlockH, ↓reduceIte, Nat.reduceEqDiff]
      refine hK2 _ _ ?_; try clear hK2 K2
      refine CW_seq (fun K5 hK5 => ?_)
      refine CW_seq (fun K6 hK6 => ?_)
      refine CW_region ?_
      refine OW_mv rfl ?_
      refine OW_opS (fun K hK r => ?_)
      simp only [x_callF _ bd9, List.map_toArray, List.map_cons, List.map_nil, eX, ↓reduceIte, Nat.reduceEqDiff, Int.reduceToNat]
      refine (long_ok _ a cap l hv).mono ?_
      rintro v30 H' ⟨t, rfl, hsh, hq⟩
      have hq := hq.symm
      subst hq
      try simp only [eX, ↓reduceIte, Nat.reduceEqDiff, Int.reduceToNat]
      refine hK _ _ ?_; clear hK K
      refine OW_mv rfl ?_
      (first | refine OW_split (d := 31) rfl (fun g31 => ?_) (fun g31 => ?_) | skip)
      all_goals try (exfalso; exact cnA g31)
      all_goals (try simp only [decide_eq_true_eq, decide_eq_false_iff_not, Bool.not_eq_true, Bool.not_eq_false, Bool.and_eq_true, Bool.or_eq_true, Bool.or_eq_false_iff, Bool.not_eq_true, Bool.not_eq_eq_eq_not, Bool.not_true, Bool.not_false] at g31)
      all_goals
        try simp only [eX, ↓reduceIte, Nat.reduceEqDiff, Int.reduceToNat]
        first
        | refine OW_guardT rfl (lt_some (by decide)) rfl (fun K hK r => ?_)
          simp only [x_move, eX, ↓reduceIte, Nat.reduceEqDiff, Int.reduceToNat]
          refine hK _ _ ?_; clear hK K
        | refine OW_guardF rfl (lt_some (by decide)) rfl ?_
          simp only [eX, ↓reduceIte, Nat.reduceEqDiff, Int.reduceToNat]
        first
        | refine OW_guardT rfl (lt_some (by decide)) rfl (fun K hK r => ?_)
          simp only [x_builtin, l_len, List.map_toArray, List.map_cons, List.map_nil, i_len_slice _ _ Try.underlying23, eX, ↓reduceIte, Nat.reduceEqDiff, Int.reduceToNat]
          refine hK _ _ ?_; clear hK K
        | refine OW_guardF rfl (lt_some (by decide)) rfl ?_
          simp only [eX, ↓reduceIte, Nat.reduceEqDiff, Int.reduceToNat]
        first
        | refine OW_guardT rfl (lt_some (by decide)) rfl (fun K hK r => ?_)
          simp (disch := (first | omega | decide)) only [x_bin, g_int, b_gtr, dec_lt_t, dec_lt_f, dec_le_t, dec_le_f, dec_eq_t, dec_eq_f, Bool.not_true, Bool.not_false, eX, ↓reduceIte, Nat.reduceEqDiff, Int.reduceToNat]
          refine hK _ _ ?_; clear hK K
        | refine OW_guardF rfl (lt_some (by decide)) rfl ?_
          simp only [eX, ↓reduceIte, Nat.reduceEqDiff, Int.reduceToNat]
        refine OW_opS (fun K hK r => ?_)
        simp only [x_pick, l_asBool, HL.ite_bool, if_true, if_false, Bool.false_eq_true, eX, ↓reduceIte, Nat.reduceEqDiff, Int.reduceToNat]
        refine hK _ _ ?_; clear hK K
        refine OW_nil ?_
        try simp only [Ex.thnH, Ex.inBlockH, ↓reduceIte, Nat.reduceEqDiff]
        refine hK6 _ _ ?_; try clear hK6 K6
        refine CW_cond (fun r => rfl) (fun c35 => ?_) (fun c35 => ?_)
        · first
          | (exfalso; exact cnA c35; done)
          | skip
            (try simp only [decide_eq_true_eq, decide_eq_false_iff_not, Bool.not_eq_true, Bool.not_eq_false, Bool.and_eq_true, Bool.or_eq_true, Bool.or_eq_false_iff, Bool.not_eq_true, Bool.not_eq_eq_eq_not, Bool.not_true, Bool.not_false] at c35)
            refine CW_seq (fun K7 hK7 => ?_)
            refine CW_region ?_
            refine OW_as rfl ?_
            refine OW_nil ?_
            try simp only [Ex.thnH, Ex.inBlockH, ↓reduceIte, Nat.reduceEqDiff]
            refine hK7 _ _ ?_; try clear hK7 K7
            refine CW_ret ?_
            try simp only [Ex.thnH, Ex.inBlockH, ↓reduceIte, Nat.reduceEqDiff]
            exact ⟨[_], ⟨rfl, trivial⟩, H, lhA, rfl, Le.refl _⟩
        · first
          | (exfalso; exact cnA c35; done)
          | skip
            (try simp only [decide_eq_true_eq, decide_eq_false_iff_not, Bool.not_eq_true, Bool.not_eq_false, Bool.and_eq_true, Bool.or_eq_true, Bool.or_eq_false_iff, Bool.not_eq_true, Bool.not_eq_eq_eq_not, Bool.not_true, Bool.not_false] at c35)
            have hshort := hsh (by first | assumption | simp_all)
            have hl81 := hshort.1
            have hkl : kl.length ≤ 60 := by omega
            refine CW_skip ?_
            try simp only [Ex.thnH, Ex.inBlockH, ↓reduceIte, Nat.reduceEqDiff]
            refine hK5 _ _ ?_; try clear hK5 K5
            refine CW_seq (fun K8 hK8 => ?_)
            refine CW_region ?_
            refine OW_opS (fun K hK r => ?_)
            simp only [x_buildSlice, List.map_toArray, List.map_cons, List.map_nil, eX, ↓reduceIte, Nat.reduceEqDiff, Int.reduceToNat]
            refine Lt_buildSlice (vs := [_, _]) Try.underlying56 sz3 zr3 rfl bsA (by first | decide | (simp; done)) ?_
            simp only [List.flatMap_cons, List.flatMap_nil, Value.cells, List.append_nil, List.cons_append, List.nil_append, List.length_cons, List.length_nil, Nat.zero_add, Nat.reduceAdd]
            intro b37 hb37
            have f37_H : H b37 = none := none_of_le lhA hb37
            try simp only [eX, ↓reduceIte, Nat.reduceEqDiff, Int.reduceToNat]
            refine hK _ _ ?_; clear hK K
            refine OW_opS (fun K hK r => ?_)
            simp only [x_callF _ bd10, List.map_toArray, List.map_cons, List.map_nil, eX, ↓reduceIte, Nat.reduceEqDiff, Int.reduceToNat]
            refine (newL _ _ _ [5, 5] ⟨rfl, .inr ⟨b37, 0, 2, _, _, _, rfl, hbA, by simp, by simp⟩⟩ rfl (by decide)).mono ?_
            rintro v38 H38 ⟨p, F38, rfl, hA38'⟩
            have hA38 : Stn H H38 F38 p (newSt [5, 5]) := hA38'.less lhA
            have hO38 := hA38.old
            clear hA38'
            try simp only [eX, ↓reduceIte, Nat.reduceEqDiff, Int.reduceToNat]
            refine hK _ _ ?_; clear hK K
            refine OW_mv rfl ?_
            refine OW_opS (fun K hK r => ?_)
            simp only [x_extract, i_extract, List.getElem?_toArray, List.getElem?_cons_zero, List.getElem?_cons_succ, orF_some, eX, ↓reduceIte, Nat.reduceEqDiff, Int.reduceToNat]
            refine hK _ _ ?_; clear hK K
            refine OW_opS (fun K hK r => ?_)
            simp only [x_extract, i_extract, List.getElem?_toArray, List.getElem?_cons_zero, List.getElem?_cons_succ, orF_some, eX, ↓reduceIte, Nat.reduceEqDiff, Int.reduceToNat]
            refine hK _ _ ?_; clear hK K
            refine OW_as rfl ?_
            refine OW_as rfl ?_
            refine OW_nil ?_
            try simp only [Ex.thnH, Ex.inBlockH, ↓reduceIte, Nat.reduceEqDiff]
            refine hK8 _ _ ?_; try clear hK8 K8
            refine CW_seq (fun K9 hK9 => ?_)
            refine CW_seq (fun K10 hK10 => ?_)
            refine CW_region ?_
            refine OW_mv rfl ?_
            refine OW_opS (fun K hK r => ?_)
            simp only [x_bin, g_int, g_bool, g_string, g_pointer, g_slice, g_map, g_func, g_nilFunc, g_err, g_iface, g_nil_iface, g_nil_r, g_nil_l, eX, ↓reduceIte, Nat.reduceEqDiff, Int.reduceToNat]
            first | rw [b_err_neq _ _ Try.underlying28] | (rw [e_neq _ _ _ _ (by simp), q_equal]; first | rw [q_iface_nil _ _ _ Try.underlying28] | rw [q_nil_iface _ _ _ Try.underlying28] | rw [q_nil_nil _ _ _ Try.underlying28])
            try simp only [eX, ↓reduceIte, Nat.reduceEqDiff, Int.reduceToNat]
            refine hK _ _ ?_; clear hK K
            refine OW_nil ?_
            try simp only [Ex.thnH, Ex.inBlockH, ↓reduceIte, Nat.reduceEqDiff]
            refine hK10 _ _ ?_; try clear hK10 K10
            refine CW_cond (fun r => rfl) (fun c42 => ?_) (fun c42 => ?_)
            · first
              | (exfalso; exact cnA c42; done)
              | skip
                skip
                refine CW_seq (fun K11 hK11 => ?_)
                refine CW_region ?_
                refine OW_as rfl ?_
                refine OW_nil ?_
                try simp only [Ex.thnH, Ex.inBlockH, ↓reduceIte, Nat.reduceEqDiff]
                refine hK11 _ _ ?_; try clear hK11 K11
                refine CW_ret ?_
                try simp only [Ex.thnH, Ex.inBlockH, ↓reduceIte, Nat.reduceEqDiff]
                skip
            · first
              | (exfalso; exact cnA c42; done)
              | skip
                skip
                refine CW_skip ?_
                try simp only [Ex.thnH, Ex.inBlockH, ↓reduceIte, Nat.reduceEqDiff]
                refine hK9 _ _ ?_; try clear hK9 K9
                refine CW_seq (fun K12 hK12 => ?_)
                refine CW_region ?_
                refine OW_opS (fun K hK r => ?_)
                simp only [x_build, List.map_toArray, List.map_cons, List.map_nil, eX, ↓reduceIte, Nat.reduceEqDiff, Int.reduceToNat]
                rw [l_buildArr Try.underlying33 sz32 zr33]
                simp only [Value.cells]
                simp only [fill_nil, orF_some, List.setIfInBounds_toArray, List.set_cons_zero, List.set_cons_succ]
                try simp only [eX, ↓reduceIte, Nat.reduceEqDiff, Int.reduceToNat]
                refine hK _ _ ?_; clear hK K
                refine OW_opS (fun K hK r => ?_)
                simp only [x_alloc, zr33, orF_some, Value.cells, eX, ↓reduceIte, Nat.reduceEqDiff, Int.reduceToNat]
                intro b7 hb7
                try have n7_b37 : b37 ≠ b7 := ne_of_none hbA hb7
                have f7_H : H b7 = none := none_of_le lhA hb7
                try simp only [eX, ↓reduceIte, Nat.reduceEqDiff, Int.reduceToNat]
                refine hK _ _ ?_; clear hK K
                refine OW_op rfl (lt_none) (fun K hK r => ?_)
                simp only [x_store, eX, ↓reduceIte, Nat.reduceEqDiff, Int.reduceToNat]
                first | refine Lt_storeAll sz33 bdA hbA bdA plA (by decide) ?_ | refine Lt_storeAtA sz33 bdA hbA bdA plA (by decide) ?_
                try simp only [eX, ↓reduceIte, Nat.reduceEqDiff, Int.reduceToNat]
                refine hK _ _ ?_; clear hK K
                refine OW_nil ?_
                try simp only [Ex.thnH, Ex.inBlockH, ↓reduceIte, Nat.reduceEqDiff]
                refine hK12 _ _ ?_; try clear hK12 K12
                refine CW_seq (fun K13 hK13 => ?_)
                refine CW_seq (fun K14 hK14 => ?_)
                refine CW_region ?_
                refine OW_mv rfl ?_
                refine OW_nil ?_
                try simp only [Ex.thnH, Ex.inBlockH, ↓reduceIte, Nat.reduceEqDiff]
                refine hK14 _ _ ?_; try clear hK14 K14
                refine CW_block ?_
                refine CW_loop (fun m_ e H_ => ∃ (k : Nat) (Q : Hp) (Rf : Nat → RwO) (L : Nat → List Int), k ≤ 2 ∧ m_ = 2 - k ∧ RB H Q Rf L b7 (k * 5) ∧ Stn Q H_ F38 p (newSt [5, 5]) ∧ (∀ j, j < k * 5 → L j = [0]) ∧ (∀ j, (L j).length ≤ 1) ∧ Env.has [(0, .slice a l.length cap), (1, .slice ka kl.length kc), (5, .pointer (some ⟨p, 0, none⟩)), (7, .pointer (some ⟨b7, 0, none⟩)), (44, .int .i64 k)] e) (2) ?_ ?_
                · skip
                  exact ⟨0, _, _, _, by omega, by omega, RB.start H f7_H, hA38.put (hA38.fresh hb7) _, (fun j hj => absurd hj (by omega)), (fun j => Nat.zero_le _), rfl, rfl, rfl, rfl, rfl, trivial⟩
                intro m_ e_ H_ hI_
                obtain ⟨k, Q, Rf, L, hk, rfl, hRB, hS, hL0, hL1, he⟩ := hI_
                refine CW_env he.sub ?_; clear he e_
                refine CW_seq (fun K15 hK15 => ?_)
                refine CW_region ?_
                refine OW_opS (fun K hK r => ?_)
                simp (disch := (first | omega | decide)) only [x_bin, g_int, b_lss, dec_lt_t, dec_lt_f, dec_le_t, dec_le_f, dec_eq_t, dec_eq_f, Bool.not_true, Bool.not_false, eX, ↓reduceIte, Nat.reduceEqDiff, Int.reduceToNat]
                refine hK _ _ ?_; clear hK K
                refine OW_nil ?_
                try simp only [Ex.thnH, Ex.inBlockH, ↓reduceIte, Nat.reduceEqDiff]
                refine hK15 _ _ ?_; try clear hK15 K15
                refine CW_seq (fun K16 hK16 => ?_)
                refine CW_cond (fun r => rfl) (fun c45 => ?_) (fun c45 => ?_)
                · first
                  | (exfalso; exact cnA c45; done)
                  | skip
                    (try simp only [decide_eq_true_eq, decide_eq_false_iff_not, Bool.not_eq_true, Bool.not_eq_false, Bool.and_eq_true, Bool.or_eq_true, Bool.or_eq_false_iff, Bool.not_eq_true, Bool.not_eq_eq_eq_not, Bool.not_true, Bool.not_false] at c45)
                    refine CW_skip ?_
                    try simp only [Ex.thnH, Ex.inBlockH, ↓reduceIte, Nat.reduceEqDiff]
                    refine hK16 _ _ ?_; try clear hK16 K16
                    refine CW_seq (fun K17 hK17 => ?_)
                    refine CW_block ?_
                    refine CW_seq (fun K18 hK18 => ?_)
                    refine CW_region ?_
                    refine OW_mv rfl ?_
                    refine OW_as rfl ?_
                    refine OW_nil ?_
                    try simp only [Ex.thnH, Ex.inBlockH, ↓reduceIte, Nat.reduceEqDiff]
                    refine hK18 _ _ ?_; try clear hK18 K18
                    refine CW_seq (fun K19 hK19 => ?_)
                    refine CW_region ?_
                    refine OW_mv rfl ?_
                    refine OW_nil ?_
                    try simp only [Ex.thnH, Ex.inBlockH, ↓reduceIte, Nat.reduceEqDiff]
                    refine hK19 _ _ ?_; try clear hK19 K19
                    refine CW_block ?_
                    refine CW_loop (fun m_ e H_ => ∃ (i : Nat) (Q : Hp) (Rf : Nat → RwO) (L : Nat → List Int), i ≤ 5 ∧ m_ = 5 - i ∧ RB H Q Rf L b7 (k * 5 + i) ∧ Stn Q H_ F38 p (newSt [5, 5]) ∧ (∀ j, j < k * 5 + i → L j = [0]) ∧ (∀ j, (L j).length ≤ 1) ∧ Env.has [(0, .slice a l.length cap), (1, .slice ka kl.length kc), (5, .pointer (some ⟨p, 0, none⟩)), (7, .pointer (some ⟨b7, 0, none⟩)), (44, .int .i64 k), (8, .int .i64 k), (47, .int .i64 i)] e) (5) ?_ ?_
                    · skip
                      exact ⟨0, _, _, _, by omega, by omega, hRB, hS, hL0, hL1, rfl, rfl, rfl, rfl, rfl, rfl, rfl, trivial⟩
                    intro m_ e_ H_ hI_
                    obtain ⟨i, Q', Rf', L', hi, rfl, hRB', hS', hL0', hL1', he⟩ := hI_
                    refine CW_env he.sub ?_; clear he e_
                    have kb7 := hS'.old _ _ hRB'.box
                    have hHH : Le H H_ := Le.trans hRB'.old hS'.old
                    refine CW_seq (fun K20 hK20 => ?_)
                    refine CW_region ?_
                    refine OW_opS (fun K hK r => ?_)
                    simp (disch := (first | omega | decide)) only [x_bin, g_int, b_lss, dec_lt_t, dec_lt_f, dec_le_t, dec_le_f, dec_eq_t, dec_eq_f, Bool.not_true, Bool.not_false, eX, ↓reduceIte, Nat.reduceEqDiff, Int.reduceToNat]
                    refine hK _ _ ?_; clear hK K
                    refine OW_nil ?_
                    try simp only [Ex.thnH, Ex.inBlockH, ↓reduceIte, Nat.reduceEqDiff]
                    refine hK20 _ _ ?_; try clear hK20 K20
                    refine CW_seq (fun K21 hK21 => ?_)
                    refine CW_cond (fun r => rfl) (fun c48 => ?_) (fun c48 => ?_)
                    · first
                      | (exfalso; exact cnA c48; done)
                      | skip
                        (try simp only [decide_eq_true_eq, decide_eq_false_iff_not, Bool.not_eq_true, Bool.not_eq_false, Bool.and_eq_true, Bool.or_eq_true, Bool.or_eq_false_iff, Bool.not_eq_true, Bool.not_eq_eq_eq_not, Bool.not_true, Bool.not_false] at c48)
                        refine CW_skip ?_
                        try simp only [Ex.thnH, Ex.inBlockH, ↓reduceIte, Nat.reduceEqDiff]
                        refine hK21 _ _ ?_; try clear hK21 K21
                        refine CW_seq (fun K22 hK22 => ?_)
                        refine CW_block ?_
                        refine CW_seq (fun K23 hK23 => ?_)
                        refine CW_region ?_
                        refine OW_mv rfl ?_
                        refine OW_as rfl ?_
                        refine OW_nil ?_
                        try simp only [Ex.thnH, Ex.inBlockH, ↓reduceIte, Nat.reduceEqDiff]
                        refine hK23 _ _ ?_; try clear hK23 K23
                        refine CW_region ?_
                        refine OW_mv rfl ?_
                        refine OW_mv rfl ?_
                        refine OW_opS (fun K hK r => ?_)
                        simp only [x_buildSlice, List.map_toArray, List.map_cons, List.map_nil, eX, ↓reduceIte, Nat.reduceEqDiff, Int.reduceToNat]
                        refine Lt_buildSlice (vs := [_]) Try.underlying31 sz5 zr5 rfl bsA (by first | decide | (simp; done)) ?_
                        simp only [List.flatMap_cons, List.flatMap_nil, Value.cells, List.append_nil, List.cons_append, List.nil_append, List.length_cons, List.length_nil, Nat.zero_add, Nat.reduceAdd]
                        intro b52 hb52
                        try have n52_b37 : b37 ≠ b52 := ne_of_none hbA hb52
                        try have n52_b7 : b7 ≠ b52 := ne_of_none hbA hb52
                        have f52_H : H b52 = none := none_of_le lhA hb52
                        try simp only [eX, ↓reduceIte, Nat.reduceEqDiff, Int.reduceToNat]
                        refine hK _ _ ?_; clear hK K
                        refine OW_opS (fun K hK r => ?_)
                        simp only [x_indexAddr, eX, ↓reduceIte, Nat.reduceEqDiff, Int.reduceToNat]
                        refine Lt_indexA Try.underlying33 sz32 ixA ixA ?_
                        try simp only [add_mk, Nat.zero_add, Nat.mul_one, Int.toNat_natCast]
                        refine hK _ _ ?_; clear hK K
                        refine OW_opS (fun K hK r => ?_)
                        simp only [x_indexAddr, eX, ↓reduceIte, Nat.reduceEqDiff, Int.reduceToNat]
                        refine Lt_indexA Try.underlying32 sz31 ixA ixA ?_
                        try simp only [add_mk, Nat.zero_add, Nat.mul_one, Int.toNat_natCast]
                        refine hK _ _ ?_; clear hK K
                        refine OW_op rfl (lt_none) (fun K hK r => ?_)
                        simp only [x_store, eX, ↓reduceIte, Nat.reduceEqDiff, Int.reduceToNat]
                        refine Lt_storeAt1 sz31 hbA (by rw [List.size_toArray, boxN_len]; omega) (plain_slice _ _ _) fzA ?_
                        rw [boxN_next Rf' (by omega) ⟨b52, 0, 1, 1⟩]
                        refine hK _ _ ?_; clear hK K
                        refine OW_nil ?_
                        try simp only [Ex.thnH, Ex.inBlockH, ↓reduceIte, Nat.reduceEqDiff]
                        refine hK22 _ _ ?_; try clear hK22 K22
                        refine CW_region ?_
                        refine OW_opS (fun K hK r => ?_)
                        simp (disch := (first | omega | decide)) only [x_bin, g_int, b_add, wrap_i64, wrap_u64, wrap_u32, wrap_u8, eX, ↓reduceIte, Nat.reduceEqDiff, Int.reduceToNat]
                        refine hK _ _ ?_; clear hK K
                        refine OW_mv rfl ?_
                        refine OW_nil ?_
                        try simp only [Ex.thnH, Ex.inBlockH, ↓reduceIte, Nat.reduceEqDiff]
                        refine ⟨5 - (i + 1), by omega, i + 1, _, _, _, by omega, rfl, hRB'.next (by omega) (none_of_le hS'.old hb52), ?_, (fun j hj => ?_), (fun j => ?_), rfl, rfl, rfl, rfl, rfl, rfl, rfl, trivial⟩
                        · exact (hS'.put (hS'.fresh hb52) _).put (hS'.ap b7 (by rw [hRB'.box]; simp)) _
                        · by_cases e : j = k * 5 + i
                          · subst e; rw [setF_same]
                          · rw [setF_ne _ _ e]; exact hL0' j (by omega)
                        · by_cases e : j = k * 5 + i
                          · subst e; rw [setF_same]; exact Nat.le_refl _
                          · rw [setF_ne _ _ e]; exact hL1' j
                    · first
                      | (exfalso; exact cnA c48; done)
                      | skip
                        (try simp only [decide_eq_true_eq, decide_eq_false_iff_not, Bool.not_eq_true, Bool.not_eq_false, Bool.and_eq_true, Bool.or_eq_true, Bool.or_eq_false_iff, Bool.not_eq_true, Bool.not_eq_eq_eq_not, Bool.not_true, Bool.not_false] at c48)
                        have hi5 : i = 5 := by omega
                        subst hi5
                        refine CW_exit ?_
                        try simp only [Ex.thnH, Ex.inBlockH, ↓reduceIte, Nat.reduceEqDiff]
                        refine hK17 _ _ ?_; try clear hK17 K17
                        refine CW_region ?_
                        refine OW_opS (fun K hK r => ?_)
                        simp (disch := (first | omega | decide)) only [x_bin, g_int, b_add, wrap_i64, wrap_u64, wrap_u32, wrap_u8, eX, ↓reduceIte, Nat.reduceEqDiff, Int.reduceToNat]
                        refine hK _ _ ?_; clear hK K
                        refine OW_mv rfl ?_
                        refine OW_nil ?_
                        try simp only [Ex.thnH, Ex.inBlockH, ↓reduceIte, Nat.reduceEqDiff]
                        exact ⟨2 - (k + 1), by omega, k + 1, Q', Rf', L', by omega, rfl, by rw [Nat.succ_mul]; exact hRB', hS', by rw [Nat.succ_mul]; exact hL0', hL1', rfl, rfl, rfl, rfl, rfl, trivial⟩
                · first
                  | (exfalso; exact cnA c45; done)
                  | skip
                    (try simp only [decide_eq_true_eq, decide_eq_false_iff_not, Bool.not_eq_true, Bool.not_eq_false, Bool.and_eq_true, Bool.or_eq_true, Bool.or_eq_false_iff, Bool.not_eq_true, Bool.not_eq_eq_eq_not, Bool.not_true, Bool.not_false] at c45)
                    have hk2 : k = 2 := by omega
                    subst hk2
                    refine CW_exit ?_
                    try simp only [Ex.thnH, Ex.inBlockH, ↓reduceIte, Nat.reduceEqDiff]
                    refine hK13 _ _ ?_; try clear hK13 K13
                    refine CW_seq (fun K24 hK24 => ?_)
                    refine CW_seq (fun K25 hK25 => ?_)
                    refine CW_region ?_
                    refine OW_mv rfl ?_
                    refine OW_opS (fun K hK r => ?_)
                    simp only [x_builtin, l_len, List.map_toArray, List.map_cons, List.map_nil, i_len_slice _ _ Try.underlying22, eX, ↓reduceIte, Nat.reduceEqDiff, Int.reduceToNat]
                    refine hK _ _ ?_; clear hK K
                    refine OW_mv rfl ?_
                    refine OW_nil ?_
                    try simp only [Ex.thnH, Ex.inBlockH, ↓reduceIte, Nat.reduceEqDiff]
                    refine hK25 _ _ ?_; try clear hK25 K25
                    refine CW_block ?_
                    refine CW_loop (fun m_ e H_ => ∃ (k : Nat) (Q F : Hp) (s : St) (Rf : Nat → RwO) (L : Nat → List Int), k ≤ l.length ∧ m_ = l.length - k ∧ RB H Q Rf L b7 10 ∧ Stn Q H_ F p s ∧ BI s L ∧ Sm k s ∧ (∀ j, (L j).length ≤ k + 1) ∧ Env.has [(1, .slice ka kl.length kc), (5, .pointer (some ⟨p, 0, none⟩)), (7, .pointer (some ⟨b7, 0, none⟩)), (57, .slice a l.length cap), (58, .int .i64 l.length), (59, .int .i64 k)] e) (l.length) ?_ ?_
                    · skip
                      exact ⟨0, _, _, _, _, _, by omega, by omega, hRB, hS, BI.new.congr (fun j hj => hL0 j (by omega)), Sm.new (l := [5, 5]) (by decide), hL1, rfl, rfl, rfl, rfl, rfl, rfl, trivial⟩
                    intro m_ e_ H_ hI_
                    obtain ⟨k, Q, F, s, Rf, L, hk, rfl, hRB, hS, hBI, hSm, hLn, he⟩ := hI_
                    refine CW_env he.sub ?_; clear he e_
                    have kb7 := hS.old _ _ hRB.box
                    have hHH : Le H H_ := Le.trans hRB.old hS.old
                    refine CW_seq (fun K26 hK26 => ?_)
                    refine CW_region ?_
                    refine OW_opS (fun K hK r => ?_)
                    simp (disch := (first | omega | decide)) only [x_bin, g_int, b_lss, dec_lt_t, dec_lt_f, dec_le_t, dec_le_f, dec_eq_t, dec_eq_f, Bool.not_true, Bool.not_false, eX, ↓reduceIte, Nat.reduceEqDiff, Int.reduceToNat]
                    refine hK _ _ ?_; clear hK K
                    refine OW_nil ?_
                    try simp only [Ex.thnH, Ex.inBlockH, ↓reduceIte, Nat.reduceEqDiff]
                    refine hK26 _ _ ?_; try clear hK26 K26
                    refine CW_seq (fun K27 hK27 => ?_)
                    refine CW_cond (fun r => rfl) (fun c60 => ?_) (fun c60 => ?_)
                    · first
                      | (exfalso; exact cnA c60; done)
                      | skip
                        (try simp only [decide_eq_true_eq, decide_eq_false_iff_not, Bool.not_eq_true, Bool.not_eq_false, Bool.and_eq_true, Bool.or_eq_true, Bool.or_eq_false_iff, Bool.not_eq_true, Bool.not_eq_eq_eq_not, Bool.not_true, Bool.not_false] at c60)
                        obtain ⟨bw, ow, cw, Tw, Fw, ew, hbw, hsw, atw⟩ := (hv.le (Le.trans hRB.old hS.old)).at (by omega)
                        refine CW_skip ?_
                        try simp only [Ex.thnH, Ex.inBlockH, ↓reduceIte, Nat.reduceEqDiff]
                        refine hK27 _ _ ?_; try clear hK27 K27
                        refine CW_cut (fun e H_ => ∃ (Q2 F2 : Hp) (s2 : St) (R2 : Nat → RwO) (L2 : Nat → List Int), RB H Q2 R2 L2 b7 10 ∧ Stn Q2 H_ F2 p s2 ∧ BI s2 L2 ∧ Sm (k + 1) s2 ∧ (∀ j, (L2 j).length ≤ k + 2) ∧ Env.has [(1, .slice ka kl.length kc), (5, .pointer (some ⟨p, 0, none⟩)), (7, .pointer (some ⟨b7, 0, none⟩)), (57, .slice a l.length cap), (58, .int .i64 l.length), (59, .int .i64 k)] e) ?_ ?_
                        · skip
                          refine CW_block ?_
                          refine CW_seq (fun K28 hK28 => ?_)
                          refine CW_region ?_
                          refine OW_opS (fun K hK r => ?_)
                          simp only [x_indexAddr, eX, ↓reduceIte, Nat.reduceEqDiff, Int.reduceToNat]
                          refine Lt_indexSof Try.underlying22 sz35 ew ixA ixA ?_
                          try simp only [Int.toNat_natCast]
                          refine hK _ _ ?_; clear hK K
                          refine OW_opS (fun K hK r => ?_)
                          simp only [x_load, eX, ↓reduceIte, Nat.reduceEqDiff, Int.reduceToNat]
                          refine Lt_loadAtA Try.underlying35 rfl sz35 hbw (by omega) ?_
                          rw [ext_at Op1.len atw rfl k (by omega) hsw]
                          refine hK _ _ ?_; clear hK K
                          refine OW_opS (fun K hK r => ?_)
                          simp only [x_alloc, zr35, orF_some, Value.cells, eX, ↓reduceIte, Nat.reduceEqDiff, Int.reduceToNat]
                          intro b11 hb11
                          try have n11_b37 : b37 ≠ b11 := ne_of_none hbA hb11
                          try have n11_b7 : b7 ≠ b11 := ne_of_none hbA hb11
                          have f11_H : H b11 = none := none_of_le lhA hb11
                          have hS11 := hS.put (hS.fresh hb11) (.cells (l.getD k default).c.toArray 35)
                          have q11 : Q b11 = none := none_of_le hS.old hb11
                          have hRB11 := hRB.kept (le_upd Q b11 (.cells (l.getD k default).c.toArray 35) q11)
                          have n117 : b11 ≠ b7 := fun e => by rw [e, hRB.box] at q11; cases q11
                          try simp only [eX, ↓reduceIte, Nat.reduceEqDiff, Int.reduceToNat]
                          refine hK _ _ ?_; clear hK K
                          refine OW_op rfl (lt_none) (fun K hK r => ?_)
                          simp only [x_store, eX, ↓reduceIte, Nat.reduceEqDiff, Int.reduceToNat]
                          refine Lt_storeAll sz35 (by simp) hbA (by simp) (Op1.plain _) (by decide) ?_
                          refine hK _ _ ?_; clear hK K
                          refine OW_nil ?_
                          try simp only [Ex.thnH, Ex.inBlockH, ↓reduceIte, Nat.reduceEqDiff]
                          refine hK28 _ _ ?_; try clear hK28 K28
                          refine CW_seq (fun K29 hK29 => ?_)
                          refine CW_region ?_
                          refine OW_opS (fun K hK r => ?_)
                          simp only [x_fieldAddr, fa35_0, add_mk, Nat.reduceAdd, Nat.zero_add, eX, ↓reduceIte, Nat.reduceEqDiff, Int.reduceToNat]
                          refine hK _ _ ?_; clear hK K
                          refine OW_opS (fun K hK r => ?_)
                          simp only [x_load, eX, ↓reduceIte, Nat.reduceEqDiff, Int.reduceToNat]
                          refine Lt_loadAt1 Try.underlying3 rfl hbA ldA ?_
                          try simp only [eX, ↓reduceIte, Nat.reduceEqDiff, Int.reduceToNat]
                          refine hK _ _ ?_; clear hK K
                          refine OW_nil ?_
                          try simp only [Ex.thnH, Ex.inBlockH, ↓reduceIte, Nat.reduceEqDiff]
                          refine hK29 _ _ ?_; try clear hK29 K29
                          refine CW_block ?_
                          refine CW_seq (fun K30 hK30 => ?_)
                          refine CW_region ?_
                          refine OW_opS (fun K hK r => ?_)
                          simp (disch := (first | omega | decide)) only [x_bin, g_int, b_eql, dec_lt_t, dec_lt_f, dec_le_t, dec_le_f, dec_eq_t, dec_eq_f, Bool.not_true, Bool.not_false, eX, ↓reduceIte, Nat.reduceEqDiff, Int.reduceToNat]
                          refine hK _ _ ?_; clear hK K
                          refine OW_as rfl ?_
                          refine OW_nil ?_
                          try simp only [Ex.thnH, Ex.inBlockH, ↓reduceIte, Nat.reduceEqDiff]
                          refine hK30 _ _ ?_; try clear hK30 K30
                          refine CW_cond (fun r => rfl) (fun c65 => ?_) (fun c65 => ?_)
                          · first
                            | (exfalso; exact cnA c65; done)
                            | skip
                              (try simp only [decide_eq_true_eq, decide_eq_false_iff_not, Bool.not_eq_true, Bool.not_eq_false, Bool.and_eq_true, Bool.or_eq_true, Bool.or_eq_false_iff, Bool.not_eq_true, Bool.not_eq_eq_eq_not, Bool.not_true, Bool.not_false] at c65)
                              refine CW_seq (fun K31 hK31 => ?_)
                              obtain ⟨R23, hR23⟩ : ∃ R : Hp, R = emptyHp.upd b11 (.cells (l.getD k default).c.toArray 35) := ⟨_, rfl⟩
                              refine CW_drawR [0, 0, 1, 0, 1, 0, 1, 2, 2, 0] [0, 1, 2, 3, 4, 5, 6, 7, 8, 9] R23 (by kernel_rfl) (by kernel_rfl) (by subst hR23; exact le_put (le_empty _) hbA) (fun lR23 => ?_)
                              apply TW_pure rfl (lt_some (by decide)) rfl
                              · intro r
                                simp only [x_move, eX, ↓reduceIte, Nat.reduceEqDiff]
                                exact ⟨rfl, Le.refl _⟩
                              simp only [eX, ↓reduceIte, Nat.reduceEqDiff, Int.reduceToNat]
                              apply TW_pure rfl (lt_some (by decide)) rfl
                              · intro r
                                simp only [x_fieldAddr, fa35_1, add_mk, Nat.reduceAdd, Nat.zero_add, eX, ↓reduceIte, Nat.reduceEqDiff]
                                exact ⟨rfl, Le.refl _⟩
                              simp only [eX, ↓reduceIte, Nat.reduceEqDiff, Int.reduceToNat]
                              apply TW_look rfl (lt_some (by decide)) rfl
                              · intro r
                                simp only [x_load, eX, ↓reduceIte, Nat.reduceEqDiff]
                                refine Lt_loadAt1 Try.underlying3 rfl hbA ldA ?_
                                exact ⟨rfl, Le.refl _⟩
                              simp only [eX, ↓reduceIte, Nat.reduceEqDiff, Int.reduceToNat]
                              apply TW_pure rfl (lt_some (by decide)) rfl
                              · intro r
                                simp only [x_fieldAddr, fa35_2, add_mk, Nat.reduceAdd, Nat.zero_add, eX, ↓reduceIte, Nat.reduceEqDiff]
                                exact ⟨rfl, Le.refl _⟩
                              simp only [eX, ↓reduceIte, Nat.reduceEqDiff, Int.reduceToNat]
                              apply TW_look rfl (lt_some (by decide)) rfl
                              · intro r
                                simp only [x_load, eX, ↓reduceIte, Nat.reduceEqDiff]
                                refine Lt_loadAt1 Try.underlying3 rfl hbA ldA ?_
                                exact ⟨rfl, Le.refl _⟩
                              simp only [eX, ↓reduceIte, Nat.reduceEqDiff, Int.reduceToNat]
                              apply TW_pure rfl (lt_some (by decide)) rfl
                              · intro r
                                simp only [x_fieldAddr, fa35_3, add_mk, Nat.reduceAdd, Nat.zero_add, eX, ↓reduceIte, Nat.reduceEqDiff]
                                exact ⟨rfl, Le.refl _⟩
                              simp only [eX, ↓reduceIte, Nat.reduceEqDiff, Int.reduceToNat]
                              apply TW_look rfl (lt_some (by decide)) rfl
                              · intro r
                                simp only [x_load, eX, ↓reduceIte, Nat.reduceEqDiff]
                                refine Lt_loadAt1 Try.underlying5 rfl hbA ldA ?_
                                exact ⟨rfl, Le.refl _⟩
                              simp only [eX, ↓reduceIte, Nat.reduceEqDiff, Int.reduceToNat]
                              refine TW_chain rfl (lt_some (by decide)) rfl (fun K hK r => ?_)
                              simp only [x_callF _ bd12, List.map_toArray, List.map_cons, List.map_nil, eX, ↓reduceIte, Nat.reduceEqDiff, Int.reduceToNat]
                              refine (full_ok _ _).mono ?_
                              rintro v H' ⟨rfl, rfl⟩
                              try simp only [eX, ↓reduceIte, Nat.reduceEqDiff, Int.reduceToNat]
                              refine hK _ _ leA ?_; clear hK K
                              refine TW_chain rfl (lt_some (by decide)) rfl (fun K hK r => ?_)
                              simp only [x_callF _ bd11, List.map_toArray, List.map_cons, List.map_nil, eX, ↓reduceIte, Nat.reduceEqDiff, Int.reduceToNat]
                              refine (writeL hS11 hSm (by omega) (l.getD k default).dev (l.getD k default).n (fullS (l.getD k default).b)).mono ?_
                              rintro v75 H75 ⟨rfl, F75, hS75⟩
                              have hO75 := hS75.old
                              have k75 := hO75 b11 _ (upd_same _ _ _)
                              have kb75 := hO75 _ _ hRB11.box
                              have lH75 : Le H H75 := Le.trans hRB11.old hO75
                              have lR75 : Le R23 H75 := by rw [hR23]; exact le_put (le_empty _) k75
                              try simp only [eX, ↓reduceIte, Nat.reduceEqDiff, Int.reduceToNat]
                              refine hK _ _ leA ?_; clear hK K
                              apply TW_pure rfl (lt_some (by decide)) rfl
                              · intro r
                                simp only [x_bin, g_int, g_bool, g_string, g_pointer, g_slice, g_map, g_func, g_nilFunc, g_err, g_iface, g_nil_iface, g_nil_r, g_nil_l, eX, ↓reduceIte, Nat.reduceEqDiff]
                                first | rw [b_err_eql _ _ Try.underlying28] | (rw [e_eql _ _ _ _ (by simp), q_equal]; first | rw [q_iface_nil _ _ _ Try.underlying28] | rw [q_nil_iface _ _ _ Try.underlying28] | rw [q_nil_nil _ _ _ Try.underlying28])
                                exact ⟨rfl, Le.refl _⟩
                              simp only [eX, ↓reduceIte, Nat.reduceEqDiff, Int.reduceToNat]
                              refine TW_nil ?_
                              try simp only [Ex.thnH, Ex.inBlockH, ↓reduceIte, Nat.reduceEqDiff]
                              refine hK31 _ _ ?_; try clear hK31 K31
                              refine CW_cond (fun r => rfl) (fun c76 => ?_) (fun c76 => ?_)
                              · first
                                | (exfalso; exact cnA c76; done)
                                | skip
                                  have hw := (hBI.write (l.getD k default).dev (l.getD k default).n (l.getD k default).b).resolve_left (fun hh => hh.1 (by simpa using c76))
                                  obtain ⟨_, hd, hn, hBI'⟩ := hw
                                  have hj : ((l.getD k default).dev.toNat * 5 + (l.getD k default).n.toNat) < 10 := by omega
                                  refine CW_seq (fun K32 hK32 => ?_)
                                  refine CW_seq (fun K33 hK33 => ?_)
                                  refine CW_region ?_
                                  refine OW_opS (fun K hK r => ?_)
                                  simp only [x_fieldAddr, fa35_1, add_mk, Nat.reduceAdd, Nat.zero_add, eX, ↓reduceIte, Nat.reduceEqDiff, Int.reduceToNat]
                                  refine hK _ _ ?_; clear hK K
                                  refine OW_opS (fun K hK r => ?_)
                                  simp only [x_load, eX, ↓reduceIte, Nat.reduceEqDiff, Int.reduceToNat]
                                  refine Lt_loadAt1 Try.underlying3 rfl hbA ldA ?_
                                  try simp only [eX, ↓reduceIte, Nat.reduceEqDiff, Int.reduceToNat]
                                  refine hK _ _ ?_; clear hK K
                                  refine OW_opS (fun K hK r => ?_)
                                  simp (disch := (first | omega | decide)) only [x_bin, g_int, b_lss, dec_lt_t, dec_lt_f, dec_le_t, dec_le_f, dec_eq_t, dec_eq_f, Bool.not_true, Bool.not_false, eX, ↓reduceIte, Nat.reduceEqDiff, Int.reduceToNat]
                                  refine hK _ _ ?_; clear hK K
                                  refine OW_mv rfl ?_
                                  (first | refine OW_split (d := 80) rfl (fun g80 => ?_) (fun g80 => ?_) | skip)
                                  all_goals try (exfalso; exact cnA g80)
                                  all_goals (try simp only [decide_eq_true_eq, decide_eq_false_iff_not, Bool.not_eq_true, Bool.not_eq_false, Bool.and_eq_true, Bool.or_eq_true, Bool.or_eq_false_iff, Bool.not_eq_true, Bool.not_eq_eq_eq_not, Bool.not_true, Bool.not_false] at g80)
                                  all_goals
                                    try simp only [eX, ↓reduceIte, Nat.reduceEqDiff, Int.reduceToNat]
                                    first
                                    | refine OW_guardT rfl (lt_some (by decide)) rfl (fun K hK r => ?_)
                                      simp only [x_fieldAddr, fa35_1, add_mk, Nat.reduceAdd, Nat.zero_add, eX, ↓reduceIte, Nat.reduceEqDiff, Int.reduceToNat]
                                      refine hK _ _ ?_; clear hK K
                                    | refine OW_guardF rfl (lt_some (by decide)) rfl ?_
                                      simp only [eX, ↓reduceIte, Nat.reduceEqDiff, Int.reduceToNat]
                                    first
                                    | refine OW_guardT rfl (lt_some (by decide)) rfl (fun K hK r => ?_)
                                      simp only [x_load, eX, ↓reduceIte, Nat.reduceEqDiff, Int.reduceToNat]
                                      refine Lt_loadAt1 Try.underlying3 rfl hbA ldA ?_
                                      try simp only [eX, ↓reduceIte, Nat.reduceEqDiff, Int.reduceToNat]
                                      refine hK _ _ ?_; clear hK K
                                    | refine OW_guardF rfl (lt_some (by decide)) rfl ?_
                                      simp only [eX, ↓reduceIte, Nat.reduceEqDiff, Int.reduceToNat]
                                    first
                                    | refine OW_guardT rfl (lt_some (by decide)) rfl (fun K hK r => ?_)
                                      simp (disch := (first | omega | decide)) only [x_bin, g_int, b_gtr, dec_lt_t, dec_lt_f, dec_le_t, dec_le_f, dec_eq_t, dec_eq_f, Bool.not_true, Bool.not_false, eX, ↓reduceIte, Nat.reduceEqDiff, Int.reduceToNat]
                                      refine hK _ _ ?_; clear hK K
                                    | refine OW_guardF rfl (lt_some (by decide)) rfl ?_
                                      simp only [eX, ↓reduceIte, Nat.reduceEqDiff, Int.reduceToNat]
                                    refine OW_opS (fun K hK r => ?_)
                                    simp only [x_pick, l_asBool, HL.ite_bool, if_true, if_false, Bool.false_eq_true, eX, ↓reduceIte, Nat.reduceEqDiff, Int.reduceToNat]
                                    refine hK _ _ ?_; clear hK K
                                    refine OW_mv rfl ?_
                                    (first | refine OW_split (d := 85) rfl (fun g85 => ?_) (fun g85 => ?_) | skip)
                                    all_goals try (exfalso; exact cnA g85)
                                    all_goals (try simp only [decide_eq_true_eq, decide_eq_false_iff_not, Bool.not_eq_true, Bool.not_eq_false, Bool.and_eq_true, Bool.or_eq_true, Bool.or_eq_false_iff, Bool.not_eq_true, Bool.not_eq_eq_eq_not, Bool.not_true, Bool.not_false] at g85)
                                    all_goals
                                      try simp only [eX, ↓reduceIte, Nat.reduceEqDiff, Int.reduceToNat]
                                      first
                                      | refine OW_guardT rfl (lt_some (by decide)) rfl (fun K hK r => ?_)
                                        simp only [x_fieldAddr, fa35_2, add_mk, Nat.reduceAdd, Nat.zero_add, eX, ↓reduceIte, Nat.reduceEqDiff, Int.reduceToNat]
                                        refine hK _ _ ?_; clear hK K
                                      | refine OW_guardF rfl (lt_some (by decide)) rfl ?_
                                        simp only [eX, ↓reduceIte, Nat.reduceEqDiff, Int.reduceToNat]
                                      first
                                      | refine OW_guardT rfl (lt_some (by decide)) rfl (fun K hK r => ?_)
                                        simp only [x_load, eX, ↓reduceIte, Nat.reduceEqDiff, Int.reduceToNat]
                                        refine Lt_loadAt1 Try.underlying3 rfl hbA ldA ?_
                                        try simp only [eX, ↓reduceIte, Nat.reduceEqDiff, Int.reduceToNat]
                                        refine hK _ _ ?_; clear hK K
                                      | refine OW_guardF rfl (lt_some (by decide)) rfl ?_
                                        simp only [eX, ↓reduceIte, Nat.reduceEqDiff, Int.reduceToNat]
                                      first
                                      | refine OW_guardT rfl (lt_some (by decide)) rfl (fun K hK r => ?_)
                                        simp (disch := (first | omega | decide)) only [x_bin, g_int, b_lss, dec_lt_t, dec_lt_f, dec_le_t, dec_le_f, dec_eq_t, dec_eq_f, Bool.not_true, Bool.not_false, eX, ↓reduceIte, Nat.reduceEqDiff, Int.reduceToNat]
                                        refine hK _ _ ?_; clear hK K
                                      | refine OW_guardF rfl (lt_some (by decide)) rfl ?_
                                        simp only [eX, ↓reduceIte, Nat.reduceEqDiff, Int.reduceToNat]
                                      refine OW_opS (fun K hK r => ?_)
                                      simp only [x_pick, l_asBool, HL.ite_bool, if_true, if_false, Bool.false_eq_true, eX, ↓reduceIte, Nat.reduceEqDiff, Int.reduceToNat]
                                      refine hK _ _ ?_; clear hK K
                                      refine OW_mv rfl ?_
                                      (first | refine OW_split (d := 90) rfl (fun g90 => ?_) (fun g90 => ?_) | skip)
                                      all_goals try (exfalso; exact cnA g90)
                                      all_goals (try simp only [decide_eq_true_eq, decide_eq_false_iff_not, Bool.not_eq_true, Bool.not_eq_false, Bool.and_eq_true, Bool.or_eq_true, Bool.or_eq_false_iff, Bool.not_eq_true, Bool.not_eq_eq_eq_not, Bool.not_true, Bool.not_false] at g90)
                                      all_goals
                                        try simp only [eX, ↓reduceIte, Nat.reduceEqDiff, Int.reduceToNat]
                                        first
                                        | refine OW_guardT rfl (lt_some (by decide)) rfl (fun K hK r => ?_)
                                          simp only [x_fieldAddr, fa35_2, add_mk, Nat.reduceAdd, Nat.zero_add, eX, ↓reduceIte, Nat.reduceEqDiff, Int.reduceToNat]
                                          refine hK _ _ ?_; clear hK K
                                        | refine OW_guardF rfl (lt_some (by decide)) rfl ?_
                                          simp only [eX, ↓reduceIte, Nat.reduceEqDiff, Int.reduceToNat]
                                        first
                                        | refine OW_guardT rfl (lt_some (by decide)) rfl (fun K hK r => ?_)
                                          simp only [x_load, eX, ↓reduceIte, Nat.reduceEqDiff, Int.reduceToNat]
                                          refine Lt_loadAt1 Try.underlying3 rfl hbA ldA ?_
                                          try simp only [eX, ↓reduceIte, Nat.reduceEqDiff, Int.reduceToNat]
                                          refine hK _ _ ?_; clear hK K
                                        | refine OW_guardF rfl (lt_some (by decide)) rfl ?_
                                          simp only [eX, ↓reduceIte, Nat.reduceEqDiff, Int.reduceToNat]
                                        first
                                        | refine OW_guardT rfl (lt_some (by decide)) rfl (fun K hK r => ?_)
                                          simp (disch := (first | omega | decide)) only [x_bin, g_int, b_gtr, dec_lt_t, dec_lt_f, dec_le_t, dec_le_f, dec_eq_t, dec_eq_f, Bool.not_true, Bool.not_false, eX, ↓reduceIte, Nat.reduceEqDiff, Int.reduceToNat]
                                          refine hK _ _ ?_; clear hK K
                                        | refine OW_guardF rfl (lt_some (by decide)) rfl ?_
                                          simp only [eX, ↓reduceIte, Nat.reduceEqDiff, Int.reduceToNat]
                                        refine OW_opS (fun K hK r => ?_)
                                        simp only [x_pick, l_asBool, HL.ite_bool, if_true, if_false, Bool.false_eq_true, eX, ↓reduceIte, Nat.reduceEqDiff, Int.reduceToNat]
                                        refine hK _ _ ?_; clear hK K
                                        refine OW_nil ?_
                                        try simp only [Ex.thnH, Ex.inBlockH, ↓reduceIte, Nat.reduceEqDiff]
                                        refine hK33 _ _ ?_; try clear hK33 K33
                                        refine CW_cond (fun r => rfl) (fun c94 => ?_) (fun c94 => ?_)
                                        · first
                                          | (exfalso; exact cnA c94; done)
                                          | skip
                                            exfalso
                                            (try simp only [decide_eq_true_eq, decide_eq_false_iff_not, Bool.not_eq_true, Bool.not_eq_false, Bool.and_eq_true, Bool.or_eq_true, Bool.or_eq_false_iff, Bool.not_eq_true, Bool.not_eq_eq_eq_not, Bool.not_true, Bool.not_false] at c94)
                                            first | omega | (simp_all; done) | (simp_all; omega)
                                            refine CW_seq (fun K34 hK34 => ?_)
                                            refine CW_region ?_
                                            refine OW_as rfl ?_
                                            refine OW_nil ?_
                                            try simp only [Ex.thnH, Ex.inBlockH, ↓reduceIte, Nat.reduceEqDiff]
                                            refine hK34 _ _ ?_; try clear hK34 K34
                                            refine CW_ret ?_
                                            try simp only [Ex.thnH, Ex.inBlockH, ↓reduceIte, Nat.reduceEqDiff]
                                            skip
                                        · first
                                          | (exfalso; exact cnA c94; done)
                                          | skip
                                            skip
                                            refine CW_skip ?_
                                            try simp only [Ex.thnH, Ex.inBlockH, ↓reduceIte, Nat.reduceEqDiff]
                                            refine hK32 _ _ ?_; try clear hK32 K32
                                            obtain ⟨R26, hR26⟩ : ∃ R : Hp, R = (emptyHp.upd b11 (.cells (l.getD k default).c.toArray 35)).upd b7 (.cells (boxN Rf 10).toArray 33) := ⟨_, rfl⟩
                                            refine CW_drawR [0, 1, 0, 1, 0, 1, 0, 1, 0, 0, 1, 0, 1, 2, 2, 0, 0, 3] [0, 1, 2, 3, 4, 5, 6, 7, 8, 9, 10, 11, 12, 13, 14, 15, 16, 17] R26 (by kernel_rfl) (by kernel_rfl) (by subst hR26; exact le_put (le_put (le_empty _) k75) kb75) (fun lR26 => ?_)
                                            apply TW_pure rfl (lt_some (by decide)) rfl
                                            · intro r
                                              simp only [x_fieldAddr, fa35_1, add_mk, Nat.reduceAdd, Nat.zero_add, eX, ↓reduceIte, Nat.reduceEqDiff]
                                              exact ⟨rfl, Le.refl _⟩
                                            simp only [eX, ↓reduceIte, Nat.reduceEqDiff, Int.reduceToNat]
                                            apply TW_look rfl (lt_some (by decide)) rfl
                                            · intro r
                                              simp only [x_load, eX, ↓reduceIte, Nat.reduceEqDiff]
                                              refine Lt_loadAt1 Try.underlying3 rfl hbA ldA ?_
                                              exact ⟨rfl, Le.refl _⟩
                                            simp only [eX, ↓reduceIte, Nat.reduceEqDiff, Int.reduceToNat]
                                            apply TW_pure rfl (lt_some (by decide)) rfl
                                            · intro r
                                              simp only [x_fieldAddr, fa35_2, add_mk, Nat.reduceAdd, Nat.zero_add, eX, ↓reduceIte, Nat.reduceEqDiff]
                                              exact ⟨rfl, Le.refl _⟩
                                            simp only [eX, ↓reduceIte, Nat.reduceEqDiff, Int.reduceToNat]
                                            apply TW_look rfl (lt_some (by decide)) rfl
                                            · intro r
                                              simp only [x_load, eX, ↓reduceIte, Nat.reduceEqDiff]
                                              refine Lt_loadAt1 Try.underlying3 rfl hbA ldA ?_
                                              exact ⟨rfl, Le.refl _⟩
                                            simp only [eX, ↓reduceIte, Nat.reduceEqDiff, Int.reduceToNat]
                                            apply TW_pure rfl (lt_some (by decide)) rfl
                                            · intro r
                                              simp only [x_fieldAddr, fa35_1, add_mk, Nat.reduceAdd, Nat.zero_add, eX, ↓reduceIte, Nat.reduceEqDiff]
                                              exact ⟨rfl, Le.refl _⟩
                                            simp only [eX, ↓reduceIte, Nat.reduceEqDiff, Int.reduceToNat]
                                            apply TW_look rfl (lt_some (by decide)) rfl
                                            · intro r
                                              simp only [x_load, eX, ↓reduceIte, Nat.reduceEqDiff]
                                              refine Lt_loadAt1 Try.underlying3 rfl hbA ldA ?_
                                              exact ⟨rfl, Le.refl _⟩
                                            simp only [eX, ↓reduceIte, Nat.reduceEqDiff, Int.reduceToNat]
                                            apply TW_pure rfl (lt_some (by decide)) rfl
                                            · intro r
                                              simp only [x_fieldAddr, fa35_2, add_mk, Nat.reduceAdd, Nat.zero_add, eX, ↓reduceIte, Nat.reduceEqDiff]
                                              exact ⟨rfl, Le.refl _⟩
                                            simp only [eX, ↓reduceIte, Nat.reduceEqDiff, Int.reduceToNat]
                                            apply TW_look rfl (lt_some (by decide)) rfl
                                            · intro r
                                              simp only [x_load, eX, ↓reduceIte, Nat.reduceEqDiff]
                                              refine Lt_loadAt1 Try.underlying3 rfl hbA ldA ?_
                                              exact ⟨rfl, Le.refl _⟩
                                            simp only [eX, ↓reduceIte, Nat.reduceEqDiff, Int.reduceToNat]
                                            apply TW_pure rfl (lt_some (by decide)) rfl
                                            · intro r
                                              simp only [x_indexAddr, eX, ↓reduceIte, Nat.reduceEqDiff]
                                              refine Lt_indexA Try.underlying33 sz32 ixA ixA ?_
                                              try simp only [add_mk, Nat.zero_add, Nat.mul_one, Int.toNat_natCast]
                                              exact ⟨rfl, Le.refl _⟩
                                            simp only [eX, ↓reduceIte, Nat.reduceEqDiff, Int.reduceToNat]
                                            apply TW_pure rfl (lt_some (by decide)) rfl
                                            · intro r
                                              simp only [x_indexAddr, eX, ↓reduceIte, Nat.reduceEqDiff]
                                              refine Lt_indexA Try.underlying32 sz31 ixA ixA ?_
                                              try simp only [add_mk, Nat.zero_add, Nat.mul_one, Int.toNat_natCast]
                                              exact ⟨rfl, Le.refl _⟩
                                            simp only [eX, ↓reduceIte, Nat.reduceEqDiff, Int.reduceToNat]
                                            apply TW_look rfl (lt_some (by decide)) rfl
                                            · intro r
                                              simp only [x_load, eX, ↓reduceIte, Nat.reduceEqDiff]
                                              refine Lt_loadAt1 Try.underlying31 rfl (by rw [hR26]; exact upd_same _ _ _) (v := (Rf ((l.getD k default).dev.toNat * 5 + (l.getD k default).n.toNat)).v) (by rw [List.getElem?_toArray]; exact boxN_at Rf hj hj) ?_
                                              exact ⟨rfl, Le.refl _⟩
                                            simp only [eX, ↓reduceIte, Nat.reduceEqDiff, Int.reduceToNat]
                                            apply TW_pure rfl (lt_some (by decide)) rfl
                                            · intro r
                                              simp only [x_fieldAddr, fa35_3, add_mk, Nat.reduceAdd, Nat.zero_add, eX, ↓reduceIte, Nat.reduceEqDiff]
                                              exact ⟨rfl, Le.refl _⟩
                                            simp only [eX, ↓reduceIte, Nat.reduceEqDiff, Int.reduceToNat]
                                            apply TW_look rfl (lt_some (by decide)) rfl
                                            · intro r
                                              simp only [x_load, eX, ↓reduceIte, Nat.reduceEqDiff]
                                              refine Lt_loadAt1 Try.underlying5 rfl hbA ldA ?_
                                              exact ⟨rfl, Le.refl _⟩
                                            simp only [eX, ↓reduceIte, Nat.reduceEqDiff, Int.reduceToNat]
                                            refine TW_chain rfl (lt_some (by decide)) rfl (fun K hK r => ?_)
                                            simp only [x_buildSlice, List.map_toArray, List.map_cons, List.map_nil, eX, ↓reduceIte, Nat.reduceEqDiff, Int.reduceToNat]
                                            refine Lt_buildSlice (vs := [_]) Try.underlying31 sz5 zr5 rfl bsA (by first | decide | (simp; done)) ?_
                                            simp only [List.flatMap_cons, List.flatMap_nil, Value.cells, List.append_nil, List.cons_append, List.nil_append, List.length_cons, List.length_nil, Nat.zero_add, Nat.reduceAdd]
                                            intro b108 hb108
                                            try have n108_b37 : b37 ≠ b108 := ne_of_none hbA hb108
                                            try have n108_b7 : b7 ≠ b108 := ne_of_none hbA hb108
                                            try have n108_b11 : b11 ≠ b108 := ne_of_none hbA hb108
                                            have f108_H : H b108 = none := none_of_le lhA hb108
                                            have f108_R23 : R23 b108 = none := none_of_le lhA hb108
                                            have f108_R26 : R26 b108 = none := none_of_le lhA hb108
                                            try simp only [eX, ↓reduceIte, Nat.reduceEqDiff, Int.reduceToNat]
                                            refine hK _ _ leA ?_; clear hK K
                                            refine TW_chain rfl (lt_some (by decide)) rfl (fun K hK r => ?_)
                                            simp only [x_builtin, l_append, List.map_toArray, List.map_cons, List.map_nil, eX, ↓reduceIte, Nat.reduceEqDiff, Int.reduceToNat]
                                            have hS108 := hS75.put (hS75.fresh hb108) (.cells #[.int .u8 (l.getD k default).b] 5)
                                            have hRB108 := hRB11.kept (le_upd _ b108 (.cells #[.int .u8 (l.getD k default).b] 5) (none_of_le hO75 hb108))
                                            have l108 := hRB108.own _ hj
                                            refine Lt_appendO Try.underlying31 sz5 by5 (by decide) zr5 rfl _ (l108.le hS108.old) (ds := [(l.getD k default).b]) ⟨rfl, .inr ⟨b108, 0, 1, _, _, _, rfl, hbA, by simp, by simp⟩⟩ (by have := l108.1; have := hLn ((l.getD k default).dev.toNat * 5 + (l.getD k default).n.toNat); omega) ?_
                                            intro x9 H109 hg109 ho109 hx109
                                            obtain ⟨Q9, hRB9, hS9, kb9, hk9⟩ := hRB108.app hS108 hj hg109 ho109 hx109
                                            have k119 : H109 b11 = some (.cells (l.getD k default).c.toArray 35) := hk9 _ _ (le_upd _ _ _ hb108 _ _ k75) (fun e => (hRB.own _ hj).known (by rw [← e]; exact q11))
                                            have lR109 : Le R26 H109 := by rw [hR26]; exact le_put (le_put (le_empty _) k119) kb9
                                            refine hK _ _ leA ?_; clear hK K
                                            apply TW_pure rfl (lt_some (by decide)) rfl
                                            · intro r
                                              simp only [x_indexAddr, eX, ↓reduceIte, Nat.reduceEqDiff]
                                              refine Lt_indexA Try.underlying33 sz32 ixA ixA ?_
                                              try simp only [add_mk, Nat.zero_add, Nat.mul_one, Int.toNat_natCast]
                                              exact ⟨rfl, Le.refl _⟩
                                            simp only [eX, ↓reduceIte, Nat.reduceEqDiff, Int.reduceToNat]
                                            apply TW_pure rfl (lt_some (by decide)) rfl
                                            · intro r
                                              simp only [x_indexAddr, eX, ↓reduceIte, Nat.reduceEqDiff]
                                              refine Lt_indexA Try.underlying32 sz31 ixA ixA ?_
                                              try simp only [add_mk, Nat.zero_add, Nat.mul_one, Int.toNat_natCast]
                                              exact ⟨rfl, Le.refl _⟩
                                            simp only [eX, ↓reduceIte, Nat.reduceEqDiff, Int.reduceToNat]
                                            refine TW_last rfl (lt_none) rfl (fun K hK r => ?_)
                                            simp only [x_store, eX, ↓reduceIte, Nat.reduceEqDiff, Int.reduceToNat]
                                            refine Lt_storeAt1 sz31 kb9 (by rw [List.size_toArray, boxN_len]; omega) (plain_slice _ _ _) fzA ?_
                                            rw [boxN_set Rf hj x9]
                                            refine hK _ _ ?_; clear hK K
                                            refine TW_nil ?_
                                            try simp only [Ex.thnH, Ex.inBlockH, ↓reduceIte, Nat.reduceEqDiff]
                                            have hLn' : ∀ j, (L j).length ≤ k + 2 := fun j => Nat.le_trans (hLn j) (by omega)
                                            first
                                            | exact ⟨_, F75, _, _, _, hRB9, hS9, hBI', hSm.wr _ _ _, len_set hLn (by rw [List.length_append]; have := hLn ((l.getD k default).dev.toNat * 5 + (l.getD k default).n.toNat); show _ + 1 ≤ _; omega), rfl, rfl, rfl, rfl, rfl, rfl, trivial⟩
                                            | exact ⟨_, F75, _, _, _, hRB11, hS75, hBI', hSm.wr _ _ _, hLn', rfl, rfl, rfl, rfl, rfl, rfl, trivial⟩
                                            | exact ⟨_, F117, _, _, _, hRBm, hSm_, hBI', (hSm.fl _).up (by omega), (fun j => Nat.le_trans (len_cut hLn (by omega) j) (by omega)), rfl, rfl, rfl, rfl, rfl, rfl, trivial⟩
                                            | exact ⟨_, F117, _, _, _, hRB11, hS117, hBI', (hSm.fl _).up (by omega), hLn', rfl, rfl, rfl, rfl, rfl, rfl, trivial⟩
                                            | exact ⟨_, F, _, _, _, hRB11, hS11, hBI, hSm.up (by omega), hLn', rfl, rfl, rfl, rfl, rfl, rfl, trivial⟩
                              · first
                                | (exfalso; exact cnA c76; done)
                                | skip
                                  have hw := (hBI.write (l.getD k default).dev (l.getD k default).n (l.getD k default).b).resolve_right (fun hh => by rw [hh.1] at c76; cases c76)
                                  have hBI' := hBI
                                  rw [← hw.2] at hBI'
                                  refine CW_skip ?_
                                  try simp only [Ex.thnH, Ex.inBlockH, ↓reduceIte, Nat.reduceEqDiff]
                                  have hLn' : ∀ j, (L j).length ≤ k + 2 := fun j => Nat.le_trans (hLn j) (by omega)
                                  first
                                  | exact ⟨_, F75, _, _, _, hRB9, hS9, hBI', hSm.wr _ _ _, len_set hLn (by rw [List.length_append]; have := hLn ((l.getD k default).dev.toNat * 5 + (l.getD k default).n.toNat); show _ + 1 ≤ _; omega), rfl, rfl, rfl, rfl, rfl, rfl, trivial⟩
                                  | exact ⟨_, F75, _, _, _, hRB11, hS75, hBI', hSm.wr _ _ _, hLn', rfl, rfl, rfl, rfl, rfl, rfl, trivial⟩
                                  | exact ⟨_, F117, _, _, _, hRBm, hSm_, hBI', (hSm.fl _).up (by omega), (fun j => Nat.le_trans (len_cut hLn (by omega) j) (by omega)), rfl, rfl, rfl, rfl, rfl, rfl, trivial⟩
                                  | exact ⟨_, F117, _, _, _, hRB11, hS117, hBI', (hSm.fl _).up (by omega), hLn', rfl, rfl, rfl, rfl, rfl, rfl, trivial⟩
                                  | exact ⟨_, F, _, _, _, hRB11, hS11, hBI, hSm.up (by omega), hLn', rfl, rfl, rfl, rfl, rfl, rfl, trivial⟩
                          · first
                            | (exfalso; exact cnA c65; done)
                            | skip
                              (try simp only [decide_eq_true_eq, decide_eq_false_iff_not, Bool.not_eq_true, Bool.not_eq_false, Bool.and_eq_true, Bool.or_eq_true, Bool.or_eq_false_iff, Bool.not_eq_true, Bool.not_eq_eq_eq_not, Bool.not_true, Bool.not_false] at c65)
                              refine CW_seq (fun K35 hK35 => ?_)
                              refine CW_region ?_
                              refine OW_opS (fun K hK r => ?_)
                              simp (disch := (first | omega | decide)) only [x_bin, g_int, b_eql, dec_lt_t, dec_lt_f, dec_le_t, dec_le_f, dec_eq_t, dec_eq_f, Bool.not_true, Bool.not_false, eX, ↓reduceIte, Nat.reduceEqDiff, Int.reduceToNat]
                              refine hK _ _ ?_; clear hK K
                              refine OW_as rfl ?_
                              refine OW_nil ?_
                              try simp only [Ex.thnH, Ex.inBlockH, ↓reduceIte, Nat.reduceEqDiff]
                              refine hK35 _ _ ?_; try clear hK35 K35
                              refine CW_cond (fun r => rfl) (fun c112 => ?_) (fun c112 => ?_)
                              · first
                                | (exfalso; exact cnA c112; done)
                                | skip
                                  (try simp only [decide_eq_true_eq, decide_eq_false_iff_not, Bool.not_eq_true, Bool.not_eq_false, Bool.and_eq_true, Bool.or_eq_true, Bool.or_eq_false_iff, Bool.not_eq_true, Bool.not_eq_eq_eq_not, Bool.not_true, Bool.not_false] at c112)
                                  refine CW_seq (fun K36 hK36 => ?_)
                                  refine CW_region ?_
                                  refine OW_mv rfl ?_
                                  refine OW_opS (fun K hK r => ?_)
                                  simp only [x_fieldAddr, fa35_1, add_mk, Nat.reduceAdd, Nat.zero_add, eX, ↓reduceIte, Nat.reduceEqDiff, Int.reduceToNat]
                                  refine hK _ _ ?_; clear hK K
                                  refine OW_opS (fun K hK r => ?_)
                                  simp only [x_load, eX, ↓reduceIte, Nat.reduceEqDiff, Int.reduceToNat]
                                  refine Lt_loadAt1 Try.underlying3 rfl hbA ldA ?_
                                  try simp only [eX, ↓reduceIte, Nat.reduceEqDiff, Int.reduceToNat]
                                  refine hK _ _ ?_; clear hK K
                                  refine OW_opS (fun K hK r => ?_)
                                  simp only [x_callF _ bd13, List.map_toArray, List.map_cons, List.map_nil, eX, ↓reduceIte, Nat.reduceEqDiff, Int.reduceToNat]
                                  refine (flushL hS11 hSm (by omega) (l.getD k default).dev).mono ?_
                                  rintro v117 H117 ⟨rfl, F117, hS117⟩
                                  have hO117 := hS117.old
                                  have k117 := hO117 b11 _ (upd_same _ _ _)
                                  have kb117 := hO117 _ _ hRB11.box
                                  have lH117 : Le H H117 := Le.trans hRB11.old hO117
                                  try simp only [eX, ↓reduceIte, Nat.reduceEqDiff, Int.reduceToNat]
                                  refine hK _ _ ?_; clear hK K
                                  refine OW_opS (fun K hK r => ?_)
                                  simp only [x_bin, g_int, g_bool, g_string, g_pointer, g_slice, g_map, g_func, g_nilFunc, g_err, g_iface, g_nil_iface, g_nil_r, g_nil_l, eX, ↓reduceIte, Nat.reduceEqDiff, Int.reduceToNat]
                                  first | rw [b_err_eql _ _ Try.underlying28] | (rw [e_eql _ _ _ _ (by simp), q_equal]; first | rw [q_iface_nil _ _ _ Try.underlying28] | rw [q_nil_iface _ _ _ Try.underlying28] | rw [q_nil_nil _ _ _ Try.underlying28])
                                  try simp only [eX, ↓reduceIte, Nat.reduceEqDiff, Int.reduceToNat]
                                  refine hK _ _ ?_; clear hK K
                                  refine OW_nil ?_
                                  try simp only [Ex.thnH, Ex.inBlockH, ↓reduceIte, Nat.reduceEqDiff]
                                  refine hK36 _ _ ?_; try clear hK36 K36
                                  refine CW_cond (fun r => rfl) (fun c118 => ?_) (fun c118 => ?_)
                                  · first
                                    | (exfalso; exact cnA c118; done)
                                    | skip
                                      have hw := (hBI.flush (l.getD k default).dev).resolve_left (fun hh => hh.1 (by simpa using c118))
                                      obtain ⟨_, hd, hBI'⟩ := hw
                                      refine CW_seq (fun K37 hK37 => ?_)
                                      refine CW_seq (fun K38 hK38 => ?_)
                                      refine CW_region ?_
                                      refine OW_opS (fun K hK r => ?_)
                                      simp only [x_fieldAddr, fa35_1, add_mk, Nat.reduceAdd, Nat.zero_add, eX, ↓reduceIte, Nat.reduceEqDiff, Int.reduceToNat]
                                      refine hK _ _ ?_; clear hK K
                                      refine OW_opS (fun K hK r => ?_)
                                      simp only [x_load, eX, ↓reduceIte, Nat.reduceEqDiff, Int.reduceToNat]
                                      refine Lt_loadAt1 Try.underlying3 rfl hbA ldA ?_
                                      try simp only [eX, ↓reduceIte, Nat.reduceEqDiff, Int.reduceToNat]
                                      refine hK _ _ ?_; clear hK K
                                      refine OW_opS (fun K hK r => ?_)
                                      simp (disch := (first | omega | decide)) only [x_bin, g_int, b_lss, dec_lt_t, dec_lt_f, dec_le_t, dec_le_f, dec_eq_t, dec_eq_f, Bool.not_true, Bool.not_false, eX, ↓reduceIte, Nat.reduceEqDiff, Int.reduceToNat]
                                      refine hK _ _ ?_; clear hK K
                                      refine OW_mv rfl ?_
                                      (first | refine OW_split (d := 122) rfl (fun g122 => ?_) (fun g122 => ?_) | skip)
                                      all_goals try (exfalso; exact cnA g122)
                                      all_goals (try simp only [decide_eq_true_eq, decide_eq_false_iff_not, Bool.not_eq_true, Bool.not_eq_false, Bool.and_eq_true, Bool.or_eq_true, Bool.or_eq_false_iff, Bool.not_eq_true, Bool.not_eq_eq_eq_not, Bool.not_true, Bool.not_false] at g122)
                                      all_goals
                                        try simp only [eX, ↓reduceIte, Nat.reduceEqDiff, Int.reduceToNat]
                                        first
                                        | refine OW_guardT rfl (lt_some (by decide)) rfl (fun K hK r => ?_)
                                          simp only [x_fieldAddr, fa35_1, add_mk, Nat.reduceAdd, Nat.zero_add, eX, ↓reduceIte, Nat.reduceEqDiff, Int.reduceToNat]
                                          refine hK _ _ ?_; clear hK K
                                        | refine OW_guardF rfl (lt_some (by decide)) rfl ?_
                                          simp only [eX, ↓reduceIte, Nat.reduceEqDiff, Int.reduceToNat]
                                        first
                                        | refine OW_guardT rfl (lt_some (by decide)) rfl (fun K hK r => ?_)
                                          simp only [x_load, eX, ↓reduceIte, Nat.reduceEqDiff, Int.reduceToNat]
                                          refine Lt_loadAt1 Try.underlying3 rfl hbA ldA ?_
                                          try simp only [eX, ↓reduceIte, Nat.reduceEqDiff, Int.reduceToNat]
                                          refine hK _ _ ?_; clear hK K
                                        | refine OW_guardF rfl (lt_some (by decide)) rfl ?_
                                          simp only [eX, ↓reduceIte, Nat.reduceEqDiff, Int.reduceToNat]
                                        first
                                        | refine OW_guardT rfl (lt_some (by decide)) rfl (fun K hK r => ?_)
                                          simp (disch := (first | omega | decide)) only [x_bin, g_int, b_gtr, dec_lt_t, dec_lt_f, dec_le_t, dec_le_f, dec_eq_t, dec_eq_f, Bool.not_true, Bool.not_false, eX, ↓reduceIte, Nat.reduceEqDiff, Int.reduceToNat]
                                          refine hK _ _ ?_; clear hK K
                                        | refine OW_guardF rfl (lt_some (by decide)) rfl ?_
                                          simp only [eX, ↓reduceIte, Nat.reduceEqDiff, Int.reduceToNat]
                                        refine OW_opS (fun K hK r => ?_)
                                        simp only [x_pick, l_asBool, HL.ite_bool, if_true, if_false, Bool.false_eq_true, eX, ↓reduceIte, Nat.reduceEqDiff, Int.reduceToNat]
                                        refine hK _ _ ?_; clear hK K
                                        refine OW_nil ?_
                                        try simp only [Ex.thnH, Ex.inBlockH, ↓reduceIte, Nat.reduceEqDiff]
                                        refine hK38 _ _ ?_; try clear hK38 K38
                                        refine CW_cond (fun r => rfl) (fun c126 => ?_) (fun c126 => ?_)
                                        · first
                                          | (exfalso; exact cnA c126; done)
                                          | skip
                                            exfalso
                                            (try simp only [decide_eq_true_eq, decide_eq_false_iff_not, Bool.not_eq_true, Bool.not_eq_false, Bool.and_eq_true, Bool.or_eq_true, Bool.or_eq_false_iff, Bool.not_eq_true, Bool.not_eq_eq_eq_not, Bool.not_true, Bool.not_false] at c126)
                                            first | omega | (simp_all; done) | (simp_all; omega)
                                            refine CW_seq (fun K39 hK39 => ?_)
                                            refine CW_region ?_
                                            refine OW_as rfl ?_
                                            refine OW_nil ?_
                                            try simp only [Ex.thnH, Ex.inBlockH, ↓reduceIte, Nat.reduceEqDiff]
                                            refine hK39 _ _ ?_; try clear hK39 K39
                                            refine CW_ret ?_
                                            try simp only [Ex.thnH, Ex.inBlockH, ↓reduceIte, Nat.reduceEqDiff]
                                            skip
                                        · first
                                          | (exfalso; exact cnA c126; done)
                                          | skip
                                            skip
                                            refine CW_skip ?_
                                            try simp only [Ex.thnH, Ex.inBlockH, ↓reduceIte, Nat.reduceEqDiff]
                                            refine hK37 _ _ ?_; try clear hK37 K37
                                            refine CW_seq (fun K40 hK40 => ?_)
                                            refine CW_region ?_
                                            refine OW_opS (fun K hK r => ?_)
                                            simp only [x_fieldAddr, fa35_1, add_mk, Nat.reduceAdd, Nat.zero_add, eX, ↓reduceIte, Nat.reduceEqDiff, Int.reduceToNat]
                                            refine hK _ _ ?_; clear hK K
                                            refine OW_opS (fun K hK r => ?_)
                                            simp only [x_load, eX, ↓reduceIte, Nat.reduceEqDiff, Int.reduceToNat]
                                            refine Lt_loadAt1 Try.underlying3 rfl hbA ldA ?_
                                            try simp only [eX, ↓reduceIte, Nat.reduceEqDiff, Int.reduceToNat]
                                            refine hK _ _ ?_; clear hK K
                                            refine OW_opS (fun K hK r => ?_)
                                            simp only [x_indexAddr, eX, ↓reduceIte, Nat.reduceEqDiff, Int.reduceToNat]
                                            refine Lt_indexA Try.underlying33 sz32 ixA ixA ?_
                                            try simp only [add_mk, Nat.zero_add, Nat.mul_one, Int.toNat_natCast]
                                            refine hK _ _ ?_; clear hK K
                                            refine OW_opS (fun K hK r => ?_)
                                            simp only [x_load, eX, ↓reduceIte, Nat.reduceEqDiff, Int.reduceToNat]
                                            refine Lt_loadAtA Try.underlying32 rfl sz32 kb117 (by rw [List.size_toArray, boxN_len]; omega) ?_
                                            rw [boxN_ext Rf (by omega)]
                                            refine hK _ _ ?_; clear hK K
                                            refine OW_mv rfl ?_
                                            refine OW_nil ?_
                                            try simp only [Ex.thnH, Ex.inBlockH, ↓reduceIte, Nat.reduceEqDiff]
                                            refine hK40 _ _ ?_; try clear hK40 K40
                                            refine CW_block ?_
                                            refine CW_loop (fun m_ e H_ => ∃ (m : Nat) (Qm : Hp), m ≤ 5 ∧ m_ = 5 - m ∧ RB H Qm (cutR Rf (l.getD k default).dev.toNat m) (cutL L (l.getD k default).dev.toNat m) b7 10 ∧ Stn Qm H_ F117 p (s.fl (l.getD k default).dev).1 ∧ H_ b11 = some (.cells (l.getD k default).c.toArray 35) ∧ Env.has [(1, .slice ka kl.length kc), (5, .pointer (some ⟨p, 0, none⟩)), (7, .pointer (some ⟨b7, 0, none⟩)), (11, .pointer (some ⟨b11, 0, none⟩)), (57, .slice a l.length cap), (58, .int .i64 l.length), (59, .int .i64 k), (130, .agg (rows5 Rf (l.getD k default).dev.toNat).toArray), (131, .int .i64 m)] e) (5) ?_ ?_
                                            · skip
                                              exact ⟨0, _, by omega, by omega, by rw [cutR_zero, cutL_zero]; exact hRB11, hS117, k117, rfl, rfl, rfl, rfl, rfl, rfl, rfl, rfl, rfl, trivial⟩
                                            intro m_ e_ H_ hI_
                                            obtain ⟨m, Qm, hm, rfl, hRBm, hSm_, k11m, he⟩ := hI_
                                            refine CW_env he.sub ?_; clear he e_
                                            have kbm := hSm_.old _ _ hRBm.box
                                            refine CW_seq (fun K41 hK41 => ?_)
                                            refine CW_region ?_
                                            refine OW_opS (fun K hK r => ?_)
                                            simp (disch := (first | omega | decide)) only [x_bin, g_int, b_lss, dec_lt_t, dec_lt_f, dec_le_t, dec_le_f, dec_eq_t, dec_eq_f, Bool.not_true, Bool.not_false, eX, ↓reduceIte, Nat.reduceEqDiff, Int.reduceToNat]
                                            refine hK _ _ ?_; clear hK K
                                            refine OW_nil ?_
                                            try simp only [Ex.thnH, Ex.inBlockH, ↓reduceIte, Nat.reduceEqDiff]
                                            refine hK41 _ _ ?_; try clear hK41 K41
                                            refine CW_seq (fun K42 hK42 => ?_)
                                            refine CW_cond (fun r => rfl) (fun c132 => ?_) (fun c132 => ?_)
                                            · first
                                              | (exfalso; exact cnA c132; done)
                                              | skip
                                                (try simp only [decide_eq_true_eq, decide_eq_false_iff_not, Bool.not_eq_true, Bool.not_eq_false, Bool.and_eq_true, Bool.or_eq_true, Bool.or_eq_false_iff, Bool.not_eq_true, Bool.not_eq_eq_eq_not, Bool.not_true, Bool.not_false] at c132)
                                                have hj : (l.getD k default).dev.toNat * 5 + m < 10 := by omega
                                                have ownm := hRBm.own _ hj
                                                rw [cutR_at] at ownm
                                                have nem := hRBm.ne _ hj
                                                have nn1 := ownm.1
                                                have nn2 := ownm.2.1
                                                have nn3 := List.length_pos_iff.2 nem
                                                have nn4 := len_cut (k := (l.getD k default).dev.toNat) (m := m) hLn (by omega) ((l.getD k default).dev.toNat * 5 + m)
                                                refine CW_skip ?_
                                                try simp only [Ex.thnH, Ex.inBlockH, ↓reduceIte, Nat.reduceEqDiff]
                                                refine hK42 _ _ ?_; try clear hK42 K42
                                                refine CW_seq (fun K43 hK43 => ?_)
                                                refine CW_block ?_
                                                refine CW_seq (fun K44 hK44 => ?_)
                                                refine CW_region ?_
                                                refine OW_mv rfl ?_
                                                refine OW_opS (fun K hK r => ?_)
                                                simp only [x_index, eX, ↓reduceIte, Nat.reduceEqDiff, Int.reduceToNat]
                                                refine Lt_indexAgg Try.underlying32 sz31 Try.underlying31 rfl (by omega) (by omega) (by rw [Int.toNat_natCast]; exact rows5_at Rf _ (by omega)) ?_
                                                refine hK _ _ ?_; clear hK K
                                                refine OW_as rfl ?_
                                                refine OW_as rfl ?_
                                                refine OW_nil ?_
                                                try simp only [Ex.thnH, Ex.inBlockH, ↓reduceIte, Nat.reduceEqDiff]
                                                refine hK44 _ _ ?_; try clear hK44 K44
                                                obtain ⟨R34, hR34⟩ : ∃ R : Hp, R = emptyHp.upd b11 (.cells (l.getD k default).c.toArray 35) := ⟨_, rfl⟩
                                                refine CW_drawR [0, 1, 0, 0, 0, 0, 0, 0, 0, 0, 3] [0, 1, 2, 3, 4, 5, 6, 7, 8, 9, 10] R34 (by kernel_rfl) (by kernel_rfl) (by subst hR34; exact le_put (le_empty _) k11m) (fun lR34 => ?_)
                                                apply TW_pure rfl (lt_some (by decide)) rfl
                                                · intro r
                                                  simp only [x_fieldAddr, fa35_1, add_mk, Nat.reduceAdd, Nat.zero_add, eX, ↓reduceIte, Nat.reduceEqDiff]
                                                  exact ⟨rfl, Le.refl _⟩
                                                simp only [eX, ↓reduceIte, Nat.reduceEqDiff, Int.reduceToNat]
                                                apply TW_look rfl (lt_some (by decide)) rfl
                                                · intro r
                                                  simp only [x_load, eX, ↓reduceIte, Nat.reduceEqDiff]
                                                  refine Lt_loadAt1 Try.underlying3 rfl hbA ldA ?_
                                                  exact ⟨rfl, Le.refl _⟩
                                                simp only [eX, ↓reduceIte, Nat.reduceEqDiff, Int.reduceToNat]
                                                apply TW_pure rfl (lt_some (by decide)) rfl
                                                · intro r
                                                  simp only [x_move, eX, ↓reduceIte, Nat.reduceEqDiff]
                                                  exact ⟨rfl, Le.refl _⟩
                                                simp only [eX, ↓reduceIte, Nat.reduceEqDiff, Int.reduceToNat]
                                                apply TW_pure rfl (lt_some (by decide)) rfl
                                                · intro r
                                                  simp only [x_move, eX, ↓reduceIte, Nat.reduceEqDiff]
                                                  exact ⟨rfl, Le.refl _⟩
                                                simp only [eX, ↓reduceIte, Nat.reduceEqDiff, Int.reduceToNat]
                                                apply TW_pure rfl (lt_some (by decide)) rfl
                                                · intro r
                                                  simp only [x_move, eX, ↓reduceIte, Nat.reduceEqDiff]
                                                  exact ⟨rfl, Le.refl _⟩
                                                simp only [eX, ↓reduceIte, Nat.reduceEqDiff, Int.reduceToNat]
                                                apply TW_pure rfl (lt_some (by decide)) rfl
                                                · intro r
                                                  simp only [x_builtin, l_len, List.map_toArray, List.map_cons, List.map_nil, i_len_slice _ _ Try.underlying31, eX, ↓reduceIte, Nat.reduceEqDiff]
                                                  exact ⟨rfl, Le.refl _⟩
                                                simp only [eX, ↓reduceIte, Nat.reduceEqDiff, Int.reduceToNat]
                                                apply TW_pure rfl (lt_some (by decide)) rfl
                                                · intro r
                                                  simp (disch := (first | omega | decide)) only [x_bin, g_int, b_sub, wrap_i64, wrap_u64, wrap_u32, wrap_u8, eX, ↓reduceIte, Nat.reduceEqDiff]
                                                  exact ⟨rfl, Le.refl _⟩
                                                simp only [eX, ↓reduceIte, Nat.reduceEqDiff, Int.reduceToNat]
                                                apply TW_pure rfl (lt_some (by decide)) rfl
                                                · intro r
                                                  simp only [x_slice, Option.map_some, Option.map_none, eX, ↓reduceIte, Nat.reduceEqDiff]
                                                  refine Lt_lastS Try.underlying31 sz5 (x := Rf ((l.getD k default).dev.toNat * 5 + m)) (by omega) nn2 ?_
                                                  exact ⟨rfl, Le.refl _⟩
                                                simp only [eX, ↓reduceIte, Nat.reduceEqDiff, Int.reduceToNat]
                                                apply TW_pure rfl (lt_some (by decide)) rfl
                                                · intro r
                                                  simp only [x_indexAddr, eX, ↓reduceIte, Nat.reduceEqDiff]
                                                  refine Lt_indexA Try.underlying33 sz32 ixA ixA ?_
                                                  try simp only [add_mk, Nat.zero_add, Nat.mul_one, Int.toNat_natCast]
                                                  exact ⟨rfl, Le.refl _⟩
                                                simp only [eX, ↓reduceIte, Nat.reduceEqDiff, Int.reduceToNat]
                                                apply TW_pure rfl (lt_some (by decide)) rfl
                                                · intro r
                                                  simp only [x_indexAddr, eX, ↓reduceIte, Nat.reduceEqDiff]
                                                  refine Lt_indexA Try.underlying32 sz31 ixA ixA ?_
                                                  try simp only [add_mk, Nat.zero_add, Nat.mul_one, Int.toNat_natCast]
                                                  exact ⟨rfl, Le.refl _⟩
                                                simp only [eX, ↓reduceIte, Nat.reduceEqDiff, Int.reduceToNat]
                                                refine TW_last rfl (lt_none) rfl (fun K hK r => ?_)
                                                simp only [x_store, eX, ↓reduceIte, Nat.reduceEqDiff, Int.reduceToNat]
                                                refine Lt_storeAt1 sz31 kbm (by rw [List.size_toArray, boxN_len]; omega) (plain_slice _ _ _) fzA ?_
                                                rw [← cutR_at Rf (l.getD k default).dev.toNat m]
                                                rw [boxN_set _ hj]
                                                refine hK _ _ ?_; clear hK K
                                                refine TW_nil ?_
                                                try simp only [Ex.thnH, Ex.inBlockH, ↓reduceIte, Nat.reduceEqDiff]
                                                refine hK43 _ _ ?_; try clear hK43 K43
                                                refine CW_region ?_
                                                refine OW_opS (fun K hK r => ?_)
                                                simp (disch := (first | omega | decide)) only [x_bin, g_int, b_add, wrap_i64, wrap_u64, wrap_u32, wrap_u8, eX, ↓reduceIte, Nat.reduceEqDiff, Int.reduceToNat]
                                                refine hK _ _ ?_; clear hK K
                                                refine OW_mv rfl ?_
                                                refine OW_nil ?_
                                                try simp only [Ex.thnH, Ex.inBlockH, ↓reduceIte, Nat.reduceEqDiff]
                                                exact ⟨5 - (m + 1), by omega, m + 1, _, by omega, rfl, by rw [← cutR_next, ← cutL_next]; exact hRBm.cut hj, hSm_.put (hSm_.ap b7 (by rw [hRBm.box]; simp)) _, (upd_ne _ _ n117).trans k11m, rfl, rfl, rfl, rfl, rfl, rfl, rfl, rfl, rfl, trivial⟩
                                            · first
                                              | (exfalso; exact cnA c132; done)
                                              | skip
                                                (try simp only [decide_eq_true_eq, decide_eq_false_iff_not, Bool.not_eq_true, Bool.not_eq_false, Bool.and_eq_true, Bool.or_eq_true, Bool.or_eq_false_iff, Bool.not_eq_true, Bool.not_eq_eq_eq_not, Bool.not_true, Bool.not_false] at c132)
                                                have hm5 : m = 5 := by omega
                                                subst hm5
                                                refine CW_exit ?_
                                                try simp only [Ex.thnH, Ex.inBlockH, ↓reduceIte, Nat.reduceEqDiff]
                                                have hLn' : ∀ j, (L j).length ≤ k + 2 := fun j => Nat.le_trans (hLn j) (by omega)
                                                first
                                                | exact ⟨_, F75, _, _, _, hRB9, hS9, hBI', hSm.wr _ _ _, len_set hLn (by rw [List.length_append]; have := hLn ((l.getD k default).dev.toNat * 5 + (l.getD k default).n.toNat); show _ + 1 ≤ _; omega), rfl, rfl, rfl, rfl, rfl, rfl, trivial⟩
                                                | exact ⟨_, F75, _, _, _, hRB11, hS75, hBI', hSm.wr _ _ _, hLn', rfl, rfl, rfl, rfl, rfl, rfl, trivial⟩
                                                | exact ⟨_, F117, _, _, _, hRBm, hSm_, hBI', (hSm.fl _).up (by omega), (fun j => Nat.le_trans (len_cut hLn (by omega) j) (by omega)), rfl, rfl, rfl, rfl, rfl, rfl, trivial⟩
                                                | exact ⟨_, F117, _, _, _, hRB11, hS117, hBI', (hSm.fl _).up (by omega), hLn', rfl, rfl, rfl, rfl, rfl, rfl, trivial⟩
                                                | exact ⟨_, F, _, _, _, hRB11, hS11, hBI, hSm.up (by omega), hLn', rfl, rfl, rfl, rfl, rfl, rfl, trivial⟩
                                  · first
                                    | (exfalso; exact cnA c118; done)
                                    | skip
                                      have hw := (hBI.flush (l.getD k default).dev).resolve_right (fun hh => by rw [hh.1] at c118; cases c118)
                                      have hBI' := hBI
                                      rw [← hw.2] at hBI'
                                      refine CW_skip ?_
                                      try simp only [Ex.thnH, Ex.inBlockH, ↓reduceIte, Nat.reduceEqDiff]
                                      have hLn' : ∀ j, (L j).length ≤ k + 2 := fun j => Nat.le_trans (hLn j) (by omega)
                                      first
                                      | exact ⟨_, F75, _, _, _, hRB9, hS9, hBI', hSm.wr _ _ _, len_set hLn (by rw [List.length_append]; have := hLn ((l.getD k default).dev.toNat * 5 + (l.getD k default).n.toNat); show _ + 1 ≤ _; omega), rfl, rfl, rfl, rfl, rfl, rfl, trivial⟩
                                      | exact ⟨_, F75, _, _, _, hRB11, hS75, hBI', hSm.wr _ _ _, hLn', rfl, rfl, rfl, rfl, rfl, rfl, trivial⟩
                                      | exact ⟨_, F117, _, _, _, hRBm, hSm_, hBI', (hSm.fl _).up (by omega), (fun j => Nat.le_trans (len_cut hLn (by omega) j) (by omega)), rfl, rfl, rfl, rfl, rfl, rfl, trivial⟩
                                      | exact ⟨_, F117, _, _, _, hRB11, hS117, hBI', (hSm.fl _).up (by omega), hLn', rfl, rfl, rfl, rfl, rfl, rfl, trivial⟩
                                      | exact ⟨_, F, _, _, _, hRB11, hS11, hBI, hSm.up (by omega), hLn', rfl, rfl, rfl, rfl, rfl, rfl, trivial⟩
                              · first
                                | (exfalso; exact cnA c112; done)
                                | skip
                                  (try simp only [decide_eq_true_eq, decide_eq_false_iff_not, Bool.not_eq_true, Bool.not_eq_false, Bool.and_eq_true, Bool.or_eq_true, Bool.or_eq_false_iff, Bool.not_eq_true, Bool.not_eq_eq_eq_not, Bool.not_true, Bool.not_false] at c112)
                                  refine CW_skip ?_
                                  try simp only [Ex.thnH, Ex.inBlockH, ↓reduceIte, Nat.reduceEqDiff]
                                  have hLn' : ∀ j, (L j).length ≤ k + 2 := fun j => Nat.le_trans (hLn j) (by omega)
                                  first
                                  | exact ⟨_, F75, _, _, _, hRB9, hS9, hBI', hSm.wr _ _ _, len_set hLn (by rw [List.length_append]; have := hLn ((l.getD k default).dev.toNat * 5 + (l.getD k default).n.toNat); show _ + 1 ≤ _; omega), rfl, rfl, rfl, rfl, rfl, rfl, trivial⟩
                                  | exact ⟨_, F75, _, _, _, hRB11, hS75, hBI', hSm.wr _ _ _, hLn', rfl, rfl, rfl, rfl, rfl, rfl, trivial⟩
                                  | exact ⟨_, F117, _, _, _, hRBm, hSm_, hBI', (hSm.fl _).up (by omega), (fun j => Nat.le_trans (len_cut hLn (by omega) j) (by omega)), rfl, rfl, rfl, rfl, rfl, rfl, trivial⟩
                                  | exact ⟨_, F117, _, _, _, hRB11, hS117, hBI', (hSm.fl _).up (by omega), hLn', rfl, rfl, rfl, rfl, rfl, rfl, trivial⟩
                                  | exact ⟨_, F, _, _, _, hRB11, hS11, hBI, hSm.up (by omega), hLn', rfl, rfl, rfl, rfl, rfl, rfl, trivial⟩
                        rintro e_ H2_ ⟨Q2, F2, s2, R2, L2, hRB2, hS2, hBI2, hSm2, hLn2, he⟩
                        refine CW_env he.sub ?_; clear he e_
                        refine CW_region ?_
                        refine OW_opS (fun K hK r => ?_)
                        simp (disch := (first | omega | decide)) only [x_bin, g_int, b_add, wrap_i64, wrap_u64, wrap_u32, wrap_u8, eX, ↓reduceIte, Nat.reduceEqDiff, Int.reduceToNat]
                        refine hK _ _ ?_; clear hK K
                        refine OW_mv rfl ?_
                        refine OW_nil ?_
                        try simp only [Ex.thnH, Ex.inBlockH, ↓reduceIte, Nat.reduceEqDiff]
                        exact ⟨l.length - (k + 1), by omega, k + 1, Q2, F2, s2, R2, L2, by omega, rfl, hRB2, hS2, hBI2, hSm2, hLn2, rfl, rfl, rfl, rfl, rfl, rfl, trivial⟩
                    · first
                      | (exfalso; exact cnA c60; done)
                      | skip
                        (try simp only [decide_eq_true_eq, decide_eq_false_iff_not, Bool.not_eq_true, Bool.not_eq_false, Bool.and_eq_true, Bool.or_eq_true, Bool.or_eq_false_iff, Bool.not_eq_true, Bool.not_eq_eq_eq_not, Bool.not_true, Bool.not_false] at c60)
                        have hLn82 : ∀ j, (L j).length ≤ 82 := fun j => Nat.le_trans (hLn j) (by omega)
                        obtain ⟨HZ, hHZ⟩ : ∃ G : Hp, G = H_ := ⟨_, rfl⟩
                        subst hHZ
                        refine CW_exit ?_
                        try simp only [Ex.thnH, Ex.inBlockH, ↓reduceIte, Nat.reduceEqDiff]
                        refine hK24 _ _ ?_; try clear hK24 K24
                        refine CW_seq (fun K45 hK45 => ?_)
                        refine CW_region ?_
                        refine OW_as rfl ?_
                        refine OW_nil ?_
                        try simp only [Ex.thnH, Ex.inBlockH, ↓reduceIte, Nat.reduceEqDiff]
                        refine hK45 _ _ ?_; try clear hK45 K45
                        refine CW_seq (fun K46 hK46 => ?_)
                        refine CW_seq (fun K47 hK47 => ?_)
                        refine CW_region ?_
                        refine OW_mv rfl ?_
                        refine OW_opS (fun K hK r => ?_)
                        simp only [x_builtin, l_len, List.map_toArray, List.map_cons, List.map_nil, i_len_slice _ _ Try.underlying23, eX, ↓reduceIte, Nat.reduceEqDiff, Int.reduceToNat]
                        refine hK _ _ ?_; clear hK K
                        refine OW_mv rfl ?_
                        refine OW_nil ?_
                        try simp only [Ex.thnH, Ex.inBlockH, ↓reduceIte, Nat.reduceEqDiff]
                        refine hK47 _ _ ?_; try clear hK47 K47
                        refine CW_block ?_
                        refine CW_loop (fun m_ e H_ => ∃ q : Nat, q ≤ kl.length ∧ m_ = kl.length - q ∧ Le HZ H_ ∧ Env.has [(1, .slice ka kl.length kc), (5, .pointer (some ⟨p, 0, none⟩)), (7, .pointer (some ⟨b7, 0, none⟩)), (14, .bool ((kl.take q).any tornB)), (147, .slice ka kl.length kc), (148, .int .i64 kl.length), (149, .int .i64 q)] e) (kl.length) ?_ ?_
                        · skip
                          exact ⟨0, by omega, by omega, Le.refl _, rfl, rfl, rfl, rfl, rfl, rfl, rfl, trivial⟩
                        intro m_ e_ H_ hI_
                        obtain ⟨q, hq, rfl, hZ, he⟩ := hI_
                        refine CW_env he.sub ?_; clear he e_
                        have hHH2 : Le H H_ := Le.trans hHH hZ
                        refine CW_seq (fun K48 hK48 => ?_)
                        refine CW_region ?_
                        refine OW_opS (fun K hK r => ?_)
                        simp (disch := (first | omega | decide)) only [x_bin, g_int, b_lss, dec_lt_t, dec_lt_f, dec_le_t, dec_le_f, dec_eq_t, dec_eq_f, Bool.not_true, Bool.not_false, eX, ↓reduceIte, Nat.reduceEqDiff, Int.reduceToNat]
                        refine hK _ _ ?_; clear hK K
                        refine OW_nil ?_
                        try simp only [Ex.thnH, Ex.inBlockH, ↓reduceIte, Nat.reduceEqDiff]
                        refine hK48 _ _ ?_; try clear hK48 K48
                        refine CW_seq (fun K49 hK49 => ?_)
                        refine CW_cond (fun r => rfl) (fun c150 => ?_) (fun c150 => ?_)
                        · first
                          | (exfalso; exact cnA c150; done)
                          | skip
                            (try simp only [decide_eq_true_eq, decide_eq_false_iff_not, Bool.not_eq_true, Bool.not_eq_false, Bool.and_eq_true, Bool.or_eq_true, Bool.or_eq_false_iff, Bool.not_eq_true, Bool.not_eq_eq_eq_not, Bool.not_true, Bool.not_false] at c150)
                            obtain ⟨bk, ok, ck, Tk, Fk, ek, hbk, hsk, atk⟩ := hkv.at (by omega)
                            have mk3 := Nat.mul_le_mul_right 3 (show q + 1 ≤ kl.length by omega)
                            refine CW_skip ?_
                            try simp only [Ex.thnH, Ex.inBlockH, ↓reduceIte, Nat.reduceEqDiff]
                            refine hK49 _ _ ?_; try clear hK49 K49
                            refine CW_seq (fun K50 hK50 => ?_)
                            refine CW_block ?_
                            refine CW_seq (fun K51 hK51 => ?_)
                            refine CW_region ?_
                            refine OW_opS (fun K hK r => ?_)
                            simp only [x_indexAddr, eX, ↓reduceIte, Nat.reduceEqDiff, Int.reduceToNat]
                            refine Lt_indexSof Try.underlying23 sz42 ek ixA ixA ?_
                            try simp only [Int.toNat_natCast]
                            refine hK _ _ ?_; clear hK K
                            refine OW_opS (fun K hK r => ?_)
                            simp only [x_load, eX, ↓reduceIte, Nat.reduceEqDiff, Int.reduceToNat]
                            refine Lt_loadAtA Try.underlying42 rfl sz42 (hHH2 _ _ hbk) (by omega) ?_
                            rw [ext_at Kp.len atk rfl q (by omega) hsk]
                            refine hK _ _ ?_; clear hK K
                            refine OW_opS (fun K hK r => ?_)
                            simp only [x_alloc, zr42, orF_some, Value.cells, eX, ↓reduceIte, Nat.reduceEqDiff, Int.reduceToNat]
                            intro b16 hb16
                            try have n16_b37 : b37 ≠ b16 := ne_of_none hbA hb16
                            try have n16_b7 : b7 ≠ b16 := ne_of_none hbA hb16
                            have f16_H : H b16 = none := none_of_le lhA hb16
                            try simp only [eX, ↓reduceIte, Nat.reduceEqDiff, Int.reduceToNat]
                            refine hK _ _ ?_; clear hK K
                            refine OW_op rfl (lt_none) (fun K hK r => ?_)
                            simp only [x_store, eX, ↓reduceIte, Nat.reduceEqDiff, Int.reduceToNat]
                            first | refine Lt_storeAll sz42 bdA hbA bdA plA (by decide) ?_ | refine Lt_storeAtA sz42 bdA hbA bdA plA (by decide) ?_
                            try simp only [eX, ↓reduceIte, Nat.reduceEqDiff, Int.reduceToNat]
                            refine hK _ _ ?_; clear hK K
                            refine OW_nil ?_
                            try simp only [Ex.thnH, Ex.inBlockH, ↓reduceIte, Nat.reduceEqDiff]
                            refine hK51 _ _ ?_; try clear hK51 K51
                            refine CW_region ?_
                            refine OW_mv rfl ?_
                            refine OW_mv rfl ?_
                            (first | refine OW_split (d := 154) rfl (fun g154 => ?_) (fun g154 => ?_) | skip)
                            all_goals try (exfalso; exact cnA g154)
                            all_goals (try simp only [decide_eq_true_eq, decide_eq_false_iff_not, Bool.not_eq_true, Bool.not_eq_false, Bool.and_eq_true, Bool.or_eq_true, Bool.or_eq_false_iff, Bool.not_eq_true, Bool.not_eq_eq_eq_not, Bool.not_true, Bool.not_false] at g154)
                            all_goals
                              try simp only [eX, ↓reduceIte, Nat.reduceEqDiff, Int.reduceToNat]
                              first
                              | refine OW_guardT rfl (lt_some (by decide)) rfl (fun K hK r => ?_)
                                simp only [x_fieldAddr, fa42_2, add_mk, Nat.reduceAdd, Nat.zero_add, eX, ↓reduceIte, Nat.reduceEqDiff, Int.reduceToNat]
                                refine hK _ _ ?_; clear hK K
                              | refine OW_guardF rfl (lt_some (by decide)) rfl ?_
                                simp only [eX, ↓reduceIte, Nat.reduceEqDiff, Int.reduceToNat]
                              first
                              | refine OW_guardT rfl (lt_some (by decide)) rfl (fun K hK r => ?_)
                                simp only [x_load, eX, ↓reduceIte, Nat.reduceEqDiff, Int.reduceToNat]
                                refine Lt_loadAt1 Try.underlying3 rfl hbA ldA ?_
                                try simp only [eX, ↓reduceIte, Nat.reduceEqDiff, Int.reduceToNat]
                                refine hK _ _ ?_; clear hK K
                              | refine OW_guardF rfl (lt_some (by decide)) rfl ?_
                                simp only [eX, ↓reduceIte, Nat.reduceEqDiff, Int.reduceToNat]
                              first
                              | refine OW_guardT rfl (lt_some (by decide)) rfl (fun K hK r => ?_)
                                simp (disch := (first | omega | decide)) only [x_bin, g_int, b_gtr, dec_lt_t, dec_lt_f, dec_le_t, dec_le_f, dec_eq_t, dec_eq_f, Bool.not_true, Bool.not_false, eX, ↓reduceIte, Nat.reduceEqDiff, Int.reduceToNat]
                                refine hK _ _ ?_; clear hK K
                              | refine OW_guardF rfl (lt_some (by decide)) rfl ?_
                                simp only [eX, ↓reduceIte, Nat.reduceEqDiff, Int.reduceToNat]
                              first
                              | refine OW_guardT rfl (lt_some (by decide)) rfl (fun K hK r => ?_)
                                simp only [x_move, eX, ↓reduceIte, Nat.reduceEqDiff, Int.reduceToNat]
                                refine hK _ _ ?_; clear hK K
                              | refine OW_guardF rfl (lt_some (by decide)) rfl ?_
                                simp only [eX, ↓reduceIte, Nat.reduceEqDiff, Int.reduceToNat]
                              (first | refine OW_split (d := 158) rfl (fun g158 => ?_) (fun g158 => ?_) | skip)
                              all_goals try (exfalso; exact cnA g158)
                              all_goals (try simp only [decide_eq_true_eq, decide_eq_false_iff_not, Bool.not_eq_true, Bool.not_eq_false, Bool.and_eq_true, Bool.or_eq_true, Bool.or_eq_false_iff, Bool.not_eq_true, Bool.not_eq_eq_eq_not, Bool.not_true, Bool.not_false] at g158)
                              all_goals
                                try simp only [eX, ↓reduceIte, Nat.reduceEqDiff, Int.reduceToNat]
                                first
                                | refine OW_guardT rfl (lt_some (by decide)) rfl (fun K hK r => ?_)
                                  simp only [x_fieldAddr, fa42_2, add_mk, Nat.reduceAdd, Nat.zero_add, eX, ↓reduceIte, Nat.reduceEqDiff, Int.reduceToNat]
                                  refine hK _ _ ?_; clear hK K
                                | refine OW_guardF rfl (lt_some (by decide)) rfl ?_
                                  simp only [eX, ↓reduceIte, Nat.reduceEqDiff, Int.reduceToNat]
                                first
                                | refine OW_guardT rfl (lt_some (by decide)) rfl (fun K hK r => ?_)
                                  simp only [x_load, eX, ↓reduceIte, Nat.reduceEqDiff, Int.reduceToNat]
                                  refine Lt_loadAt1 Try.underlying3 rfl hbA ldA ?_
                                  try simp only [eX, ↓reduceIte, Nat.reduceEqDiff, Int.reduceToNat]
                                  refine hK _ _ ?_; clear hK K
                                | refine OW_guardF rfl (lt_some (by decide)) rfl ?_
                                  simp only [eX, ↓reduceIte, Nat.reduceEqDiff, Int.reduceToNat]
                                first
                                | refine OW_guardT rfl (lt_some (by decide)) rfl (fun K hK r => ?_)
                                  simp (disch := (first | omega | decide)) only [x_bin, g_int, b_lss, dec_lt_t, dec_lt_f, dec_le_t, dec_le_f, dec_eq_t, dec_eq_f, Bool.not_true, Bool.not_false, eX, ↓reduceIte, Nat.reduceEqDiff, Int.reduceToNat]
                                  refine hK _ _ ?_; clear hK K
                                | refine OW_guardF rfl (lt_some (by decide)) rfl ?_
                                  simp only [eX, ↓reduceIte, Nat.reduceEqDiff, Int.reduceToNat]
                                first
                                | refine OW_guardT rfl (lt_some (by decide)) rfl (fun K hK r => ?_)
                                  simp only [x_pick, l_asBool, HL.ite_bool, if_true, if_false, Bool.false_eq_true, eX, ↓reduceIte, Nat.reduceEqDiff, Int.reduceToNat]
                                  refine hK _ _ ?_; clear hK K
                                | refine OW_guardF rfl (lt_some (by decide)) rfl ?_
                                  simp only [eX, ↓reduceIte, Nat.reduceEqDiff, Int.reduceToNat]
                                refine OW_opS (fun K hK r => ?_)
                                simp only [x_pick, l_asBool, HL.ite_bool, if_true, if_false, Bool.false_eq_true, eX, ↓reduceIte, Nat.reduceEqDiff, Int.reduceToNat]
                                refine hK _ _ ?_; clear hK K
                                refine OW_as rfl ?_
                                refine OW_nil ?_
                                try simp only [Ex.thnH, Ex.inBlockH, ↓reduceIte, Nat.reduceEqDiff]
                                refine hK50 _ _ ?_; try clear hK50 K50
                                refine CW_region ?_
                                refine OW_opS (fun K hK r => ?_)
                                simp (disch := (first | omega | decide)) only [x_bin, g_int, b_add, wrap_i64, wrap_u64, wrap_u32, wrap_u8, eX, ↓reduceIte, Nat.reduceEqDiff, Int.reduceToNat]
                                refine hK _ _ ?_; clear hK K
                                refine OW_mv rfl ?_
                                refine OW_nil ?_
                                try simp only [Ex.thnH, Ex.inBlockH, ↓reduceIte, Nat.reduceEqDiff]
                                refine ⟨kl.length - (q + 1), by omega, q + 1, by omega, rfl, Le.trans hZ (le_upd _ _ _ hb16), rfl, rfl, rfl, ?_, rfl, rfl, rfl, trivial⟩
                                show some (Value.bool _) = some (Value.bool _)
                                rw [any_next (by omega), show tornB (kl.getD q default) = (decide (0 < (kl.getD q default).tear) && decide ((kl.getD q default).tear < 64)) from rfl]
                                congr 2
                                congr 1
                                first
                                | (rw [g154]; rfl)
                                | (rw [g154, decide_eq_false g158]; rfl)
                                | (rw [g154, decide_eq_true g158]; rfl)
                        · first
                          | (exfalso; exact cnA c150; done)
                          | skip
                            (try simp only [decide_eq_true_eq, decide_eq_false_iff_not, Bool.not_eq_true, Bool.not_eq_false, Bool.and_eq_true, Bool.or_eq_true, Bool.or_eq_false_iff, Bool.not_eq_true, Bool.not_eq_eq_eq_not, Bool.not_true, Bool.not_false] at c150)
                            have hqn : q = kl.length := by omega
                            subst hqn
                            rw [List.take_of_length_le (Nat.le_refl _)]
                            refine CW_exit ?_
                            try simp only [Ex.thnH, Ex.inBlockH, ↓reduceIte, Nat.reduceEqDiff]
                            refine hK46 _ _ ?_; try clear hK46 K46
                            refine CW_seq (fun K52 hK52 => ?_)
                            refine CW_region ?_
                            refine OW_mv rfl ?_
                            refine OW_mv rfl ?_
                            refine OW_opS (fun K hK r => ?_)
                            simp only [x_callF _ bd15, List.map_toArray, List.map_cons, List.map_nil, eX, ↓reduceIte, Nat.reduceEqDiff, Int.reduceToNat]
                            refine (keeps_ok _ ka kc kl (hkv.le (Le.trans hRB.old (Le.trans hS.old hZ))) (by omega)).mono ?_
                            rintro v167 H167 ⟨l167, rs167, ho167, hr167⟩
                            obtain ⟨G167, lG167, hG167, hx167⟩ := ho167.part
                            obtain ⟨ka2, kc2, rfl⟩ := hG167.form
                            have hS167 := hS.more (Le.trans hZ l167)
                            try simp only [eX, ↓reduceIte, Nat.reduceEqDiff, Int.reduceToNat]
                            refine hK _ _ ?_; clear hK K
                            refine OW_opS (fun K hK r => ?_)
                            simp only [x_callF _ bd14, List.map_toArray, List.map_cons, List.map_nil, eX, ↓reduceIte, Nat.reduceEqDiff, Int.reduceToNat]
                            refine (crashL hS167 hSm (by omega) (G := G167) lG167 (fun x hx => none_of_le (Le.trans hS.le hZ) (hr167 x (hx167 x hx))) (fun x hx => none_of_le (Le.trans hS.old hZ) (hr167 x (hx167 x hx))) ka2 kc2 kl hG167 (by omega)).mono ?_
                            rintro v168 HC ⟨FC, hSC⟩
                            have hOC := hSC.old
                            have hCB := hBI.crash kl
                            have hSmC := hSm.cr kl
                            have lHC : Le H HC := Le.trans hRB.old hOC
                            try simp only [eX, ↓reduceIte, Nat.reduceEqDiff, Int.reduceToNat]
                            refine hK _ _ ?_; clear hK K
                            refine OW_nil ?_
                            try simp only [Ex.thnH, Ex.inBlockH, ↓reduceIte, Nat.reduceEqDiff]
                            refine hK52 _ _ ?_; try clear hK52 K52
                            refine CW_seq (fun K53 hK53 => ?_)
                            refine CW_seq (fun K54 hK54 => ?_)
                            refine CW_region ?_
                            refine OW_mv rfl ?_
                            refine OW_nil ?_
                            try simp only [Ex.thnH, Ex.inBlockH, ↓reduceIte, Nat.reduceEqDiff]
                            refine hK54 _ _ ?_; try clear hK54 K54
                            refine CW_block ?_
                            refine CW_loop (fun m_ e H_ => ∃ k : Nat, k ≤ 2 ∧ m_ = 2 - k ∧ Le HC H_ ∧ Env.has [(5, .pointer (some ⟨p, 0, none⟩)), (7, .pointer (some ⟨b7, 0, none⟩)), (14, .bool (kl.any tornB)), (169, .int .i64 k)] e) (2) ?_ ?_
                            · skip
                              exact ⟨0, by omega, by omega, Le.refl _, rfl, rfl, rfl, rfl, trivial⟩
                            intro m_ e_ H_ hI_
                            obtain ⟨k, hkk, rfl, hlC, he⟩ := hI_
                            refine CW_env he.sub ?_; clear he e_
                            have kbC := hlC _ _ (hOC _ _ hRB.box)
                            have hHH3 : Le H H_ := Le.trans lHC hlC
                            refine CW_seq (fun K55 hK55 => ?_)
                            refine CW_region ?_
                            refine OW_opS (fun K hK r => ?_)
                            simp (disch := (first | omega | decide)) only [x_bin, g_int, b_lss, dec_lt_t, dec_lt_f, dec_le_t, dec_le_f, dec_eq_t, dec_eq_f, Bool.not_true, Bool.not_false, eX, ↓reduceIte, Nat.reduceEqDiff, Int.reduceToNat]
                            refine hK _ _ ?_; clear hK K
                            refine OW_nil ?_
                            try simp only [Ex.thnH, Ex.inBlockH, ↓reduceIte, Nat.reduceEqDiff]
                            refine hK55 _ _ ?_; try clear hK55 K55
                            refine CW_seq (fun K56 hK56 => ?_)
                            refine CW_cond (fun r => rfl) (fun c170 => ?_) (fun c170 => ?_)
                            · first
                              | (exfalso; exact cnA c170; done)
                              | skip
                                (try simp only [decide_eq_true_eq, decide_eq_false_iff_not, Bool.not_eq_true, Bool.not_eq_false, Bool.and_eq_true, Bool.or_eq_true, Bool.or_eq_false_iff, Bool.not_eq_true, Bool.not_eq_eq_eq_not, Bool.not_true, Bool.not_false] at c170)
                                have hk2 : k < 2 := by omega
                                refine CW_skip ?_
                                try simp only [Ex.thnH, Ex.inBlockH, ↓reduceIte, Nat.reduceEqDiff]
                                refine hK56 _ _ ?_; try clear hK56 K56
                                refine CW_seq (fun K57 hK57 => ?_)
                                refine CW_block ?_
                                refine CW_seq (fun K58 hK58 => ?_)
                                refine CW_region ?_
                                refine OW_mv rfl ?_
                                refine OW_as rfl ?_
                                refine OW_nil ?_
                                try simp only [Ex.thnH, Ex.inBlockH, ↓reduceIte, Nat.reduceEqDiff]
                                refine hK58 _ _ ?_; try clear hK58 K58
                                refine CW_seq (fun K59 hK59 => ?_)
                                refine CW_region ?_
                                refine OW_mv rfl ?_
                                refine OW_opS (fun K hK r => ?_)
                                simp only [x_indexAddr, eX, ↓reduceIte, Nat.reduceEqDiff, Int.reduceToNat]
                                refine Lt_indexA Try.underlying33 sz32 ixA ixA ?_
                                try simp only [add_mk, Nat.zero_add, Nat.mul_one, Int.toNat_natCast]
                                refine hK _ _ ?_; clear hK K
                                refine OW_opS (fun K hK r => ?_)
                                simp only [x_load, eX, ↓reduceIte, Nat.reduceEqDiff, Int.reduceToNat]
                                refine Lt_loadAtA Try.underlying32 rfl sz32 kbC (by rw [List.size_toArray, boxN_len]; omega) ?_
                                rw [boxN_ext Rf (by omega)]
                                refine hK _ _ ?_; clear hK K
                                refine OW_mv rfl ?_
                                refine OW_nil ?_
                                try simp only [Ex.thnH, Ex.inBlockH, ↓reduceIte, Nat.reduceEqDiff]
                                refine hK59 _ _ ?_; try clear hK59 K59
                                refine CW_block ?_
                                refine CW_loop (fun m_ e H_ => ∃ i : Nat, i ≤ 5 ∧ m_ = 5 - i ∧ Le HC H_ ∧ Env.has [(5, .pointer (some ⟨p, 0, none⟩)), (7, .pointer (some ⟨b7, 0, none⟩)), (14, .bool (kl.any tornB)), (169, .int .i64 k), (17, .int .i64 k), (174, .agg (rows5 Rf k).toArray), (175, .int .i64 i)] e) (5) ?_ ?_
                                · skip
                                  exact ⟨0, by omega, by omega, hlC, rfl, rfl, rfl, rfl, rfl, rfl, rfl, trivial⟩
                                intro m_ e_ H_ hI_
                                obtain ⟨i, hi, rfl, hlC, he⟩ := hI_
                                refine CW_env he.sub ?_; clear he e_
                                have hHH3 : Le H H_ := Le.trans lHC hlC
                                refine CW_seq (fun K60 hK60 => ?_)
                                refine CW_region ?_
                                refine OW_opS (fun K hK r => ?_)
                                simp (disch := (first | omega | decide)) only [x_bin, g_int, b_lss, dec_lt_t, dec_lt_f, dec_le_t, dec_le_f, dec_eq_t, dec_eq_f, Bool.not_true, Bool.not_false, eX, ↓reduceIte, Nat.reduceEqDiff, Int.reduceToNat]
                                refine hK _ _ ?_; clear hK K
                                refine OW_nil ?_
                                try simp only [Ex.thnH, Ex.inBlockH, ↓reduceIte, Nat.reduceEqDiff]
                                refine hK60 _ _ ?_; try clear hK60 K60
                                refine CW_seq (fun K61 hK61 => ?_)
                                refine CW_cond (fun r => rfl) (fun c176 => ?_) (fun c176 => ?_)
                                · first
                                  | (exfalso; exact cnA c176; done)
                                  | skip
                                    (try simp only [decide_eq_true_eq, decide_eq_false_iff_not, Bool.not_eq_true, Bool.not_eq_false, Bool.and_eq_true, Bool.or_eq_true, Bool.or_eq_false_iff, Bool.not_eq_true, Bool.not_eq_eq_eq_not, Bool.not_true, Bool.not_false] at c176)
                                    have hi5 : i < 5 := by omega
                                    have hj10 : k * 5 + i < 10 := by omega
                                    have ownr := hRB.own _ hj10
                                    have nnb : (Rf (k * 5 + i)).n ≤ 82 := by rw [ownr.1]; exact hLn82 _
                                    refine CW_skip ?_
                                    try simp only [Ex.thnH, Ex.inBlockH, ↓reduceIte, Nat.reduceEqDiff]
                                    refine hK61 _ _ ?_; try clear hK61 K61
                                    refine CW_seq (fun K62 hK62 => ?_)
                                    refine CW_block ?_
                                    refine CW_seq (fun K63 hK63 => ?_)
                                    refine CW_region ?_
                                    refine OW_mv rfl ?_
                                    refine OW_opS (fun K hK r => ?_)
                                    simp only [x_index, eX, ↓reduceIte, Nat.reduceEqDiff, Int.reduceToNat]
                                    refine Lt_indexAgg Try.underlying32 sz31 Try.underlying31 rfl (by omega) (by omega) (by rw [Int.toNat_natCast]; exact rows5_at Rf _ (by omega)) ?_
                                    refine hK _ _ ?_; clear hK K
                                    refine OW_as rfl ?_
                                    refine OW_as rfl ?_
                                    refine OW_nil ?_
                                    try simp only [Ex.thnH, Ex.inBlockH, ↓reduceIte, Nat.reduceEqDiff]
                                    refine hK63 _ _ ?_; try clear hK63 K63
                                    refine CW_seq (fun K64 hK64 => ?_)
                                    refine CW_region ?_
                                    refine OW_mv rfl ?_
                                    refine OW_mv rfl ?_
                                    refine OW_mv rfl ?_
                                    refine OW_opS (fun K hK r => ?_)
                                    simp only [x_callF _ bd16, List.map_toArray, List.map_cons, List.map_nil, eX, ↓reduceIte, Nat.reduceEqDiff, Int.reduceToNat]
                                    refine (readL (hSC.more hlC) hSmC (by omega) k i).mono ?_
                                    rintro v H' ⟨rfl, rfl⟩
                                    rw [(hCB.rd hk2 hi5).1]
                                    try simp only [eX, ↓reduceIte, Nat.reduceEqDiff, Int.reduceToNat]
                                    refine hK _ _ ?_; clear hK K
                                    refine OW_mv rfl ?_
                                    refine OW_opS (fun K hK r => ?_)
                                    simp only [x_extract, i_extract, List.getElem?_toArray, List.getElem?_cons_zero, List.getElem?_cons_succ, orF_some, eX, ↓reduceIte, Nat.reduceEqDiff, Int.reduceToNat]
                                    refine hK _ _ ?_; clear hK K
                                    refine OW_opS (fun K hK r => ?_)
                                    simp only [x_extract, i_extract, List.getElem?_toArray, List.getElem?_cons_zero, List.getElem?_cons_succ, orF_some, eX, ↓reduceIte, Nat.reduceEqDiff, Int.reduceToNat]
                                    refine hK _ _ ?_; clear hK K
                                    refine OW_opS (fun K hK r => ?_)
                                    simp only [x_alloc, zr38, orF_some, Value.cells, eX, ↓reduceIte, Nat.reduceEqDiff, Int.reduceToNat]
                                    intro b20 hb20
                                    try have n20_b37 : b37 ≠ b20 := ne_of_none hbA hb20
                                    try have n20_b7 : b7 ≠ b20 := ne_of_none hbA hb20
                                    have f20_H : H b20 = none := none_of_le lhA hb20
                                    try simp only [eX, ↓reduceIte, Nat.reduceEqDiff, Int.reduceToNat]
                                    refine hK _ _ ?_; clear hK K
                                    refine OW_op rfl (lt_none) (fun K hK r => ?_)
                                    simp only [x_store, eX, ↓reduceIte, Nat.reduceEqDiff, Int.reduceToNat]
                                    refine Lt_storeAll sz38 (by simp [Sec.h]) hbA (by simp [Sec.h]) (PlainL.ints _ _) (by decide) ?_
                                    try simp only [upd_upd]
                                    refine hK _ _ ?_; clear hK K
                                    refine OW_as rfl ?_
                                    refine OW_nil ?_
                                    try simp only [Ex.thnH, Ex.inBlockH, ↓reduceIte, Nat.reduceEqDiff]
                                    refine hK64 _ _ ?_; try clear hK64 K64
                                    refine CW_seq (fun K65 hK65 => ?_)
                                    refine CW_seq (fun K66 hK66 => ?_)
                                    obtain ⟨R51, hR51⟩ : ∃ R : Hp, R = emptyHp.upd b20 (.cells (((s.cr kl).dv.getD k default).sure i).c.toArray 38) := ⟨_, rfl⟩
                                    refine CW_drawR [0, 0, 0, 1, 0, 0, 0, 6, 0, 0, 0, 0, 0, 0, 1, 0, 1, 2, 0, 0, 0] [0, 1, 2, 3, 4, 5, 6, 7, 8, 9, 10, 11, 12, 13, 14, 15, 16, 17, 18, 19, 20] R51 (by kernel_rfl) (by kernel_rfl) (by subst hR51; exact le_put (le_empty _) hbA) (fun lR51 => ?_)
                                    apply TW_pure rfl (lt_some (by decide)) rfl
                                    · intro r
                                      simp only [x_move, eX, ↓reduceIte, Nat.reduceEqDiff]
                                      exact ⟨rfl, Le.refl _⟩
                                    simp only [eX, ↓reduceIte, Nat.reduceEqDiff, Int.reduceToNat]
                                    apply TW_pure rfl (lt_some (by decide)) rfl
                                    · intro r
                                      simp only [x_bin, g_int, g_bool, g_string, g_pointer, g_slice, g_map, g_func, g_nilFunc, g_err, g_iface, g_nil_iface, g_nil_r, g_nil_l, eX, ↓reduceIte, Nat.reduceEqDiff]
                                      first | rw [b_err_neq _ _ Try.underlying28] | (rw [e_neq _ _ _ _ (by simp), q_equal]; first | rw [q_iface_nil _ _ _ Try.underlying28] | rw [q_nil_iface _ _ _ Try.underlying28] | rw [q_nil_nil _ _ _ Try.underlying28])
                                      exact ⟨rfl, Le.refl _⟩
                                    simp only [eX, ↓reduceIte, Nat.reduceEqDiff, Int.reduceToNat]
                                    apply TW_pure rfl (lt_some (by decide)) rfl
                                    · intro r
                                      simp only [x_move, eX, ↓reduceIte, Nat.reduceEqDiff]
                                      exact ⟨rfl, Le.refl _⟩
                                    simp only [eX, ↓reduceIte, Nat.reduceEqDiff, Int.reduceToNat]
                                    (first | refine TW_split (d := 188) rfl (fun g188 => ?_) (fun g188 => ?_) | skip)
                                    all_goals try (exfalso; exact cnA g188)
                                    all_goals (try simp only [decide_eq_true_eq, decide_eq_false_iff_not, Bool.not_eq_true, Bool.not_eq_false, Bool.and_eq_true, Bool.or_eq_true, Bool.or_eq_false_iff, Bool.not_eq_true, Bool.not_eq_eq_eq_not, Bool.not_true, Bool.not_false] at g188)
                                    all_goals
                                      try simp only [eX, ↓reduceIte, Nat.reduceEqDiff, Int.reduceToNat]
                                      first
                                      | apply TW_lookG rfl (lt_some (by decide)) rfl rfl
                                        · intro r
                                          simp only [x_load, eX, ↓reduceIte, Nat.reduceEqDiff]
                                          refine Lt_loadAll Try.underlying38 rfl sz38 (by first | (rw [hR51]; exact upd_same _ _ _) | (rw [hR193_]; exact hbA) | (exact hR193_ _ _ hbA)) (by simp [Sec.h]) ?_
                                          exact ⟨rfl, Le.refl _⟩
                                        simp only [eX, ↓reduceIte, Nat.reduceEqDiff, Int.reduceToNat]
                                      | refine TW_guardF rfl (lt_some (by decide)) rfl ?_
                                        simp only [eX, ↓reduceIte, Nat.reduceEqDiff, Int.reduceToNat]
                                      first
                                      | apply TW_pureG rfl (lt_some (by decide)) rfl rfl
                                        · intro r
                                          simp only [x_move, eX, ↓reduceIte, Nat.reduceEqDiff]
                                          exact ⟨rfl, Le.refl _⟩
                                        simp only [eX, ↓reduceIte, Nat.reduceEqDiff, Int.reduceToNat]
                                      | refine TW_guardF rfl (lt_some (by decide)) rfl ?_
                                        simp only [eX, ↓reduceIte, Nat.reduceEqDiff, Int.reduceToNat]
                                      first
                                      | apply TW_pureG rfl (lt_some (by decide)) rfl rfl
                                        · intro r
                                          simp only [x_move, eX, ↓reduceIte, Nat.reduceEqDiff]
                                          exact ⟨rfl, Le.refl _⟩
                                        simp only [eX, ↓reduceIte, Nat.reduceEqDiff, Int.reduceToNat]
                                      | refine TW_guardF rfl (lt_some (by decide)) rfl ?_
                                        simp only [eX, ↓reduceIte, Nat.reduceEqDiff, Int.reduceToNat]
                                      first
                                      | apply TW_pureG rfl (lt_some (by decide)) rfl rfl
                                        · intro r
                                          simp only [x_move, eX, ↓reduceIte, Nat.reduceEqDiff]
                                          exact ⟨rfl, Le.refl _⟩
                                        simp only [eX, ↓reduceIte, Nat.reduceEqDiff, Int.reduceToNat]
                                      | refine TW_guardF rfl (lt_some (by decide)) rfl ?_
                                        simp only [eX, ↓reduceIte, Nat.reduceEqDiff, Int.reduceToNat]
                                      first
                                      | refine TW_growG rfl (lt_some (by decide)) rfl rfl (fun K hK r => ?_)
                                        simp only [x_callF _ bd17, List.map_toArray, List.map_cons, List.map_nil, eX, ↓reduceIte, Nat.reduceEqDiff, Int.reduceToNat]
                                        refine (sureL (hSC.more (Le.trans hlC lhA)) hSmC k i).mono ?_
                                        rintro v H' ⟨rfl, rfl⟩
                                        rw [(hCB.rd hk2 hi5).2]
                                        try simp only [eX, ↓reduceIte, Nat.reduceEqDiff, Int.reduceToNat]
                                        refine hK _ _ leA (fun R193_ hR193_ => ?_); clear hK K
                                      | refine TW_guardF rfl (lt_some (by decide)) rfl ?_
                                        simp only [eX, ↓reduceIte, Nat.reduceEqDiff, Int.reduceToNat]
                                      first
                                      | apply TW_pureG rfl (lt_some (by decide)) rfl rfl
                                        · intro r
                                          simp only [x_bin, g_agg _ _ _ _ _ _ eqg38, eX, ↓reduceIte, Nat.reduceEqDiff]
                                          rw [e_neq _ _ _ _ (by simp)]
                                          rw [q_equal]
                                          rw [q_sec]
                                          exact ⟨rfl, Le.refl _⟩
                                        simp only [eX, ↓reduceIte, Nat.reduceEqDiff, Int.reduceToNat]
                                      | refine TW_guardF rfl (lt_some (by decide)) rfl ?_
                                        simp only [eX, ↓reduceIte, Nat.reduceEqDiff, Int.reduceToNat]
                                      apply TW_pure rfl (lt_some (by decide)) rfl
                                      · intro r
                                        simp only [x_pick, l_asBool, HL.ite_bool, if_true, if_false, Bool.false_eq_true, eX, ↓reduceIte, Nat.reduceEqDiff]
                                        exact ⟨rfl, Le.refl _⟩
                                      simp only [eX, ↓reduceIte, Nat.reduceEqDiff, Int.reduceToNat]
                                      apply TW_pure rfl (lt_some (by decide)) rfl
                                      · intro r
                                        simp only [x_move, eX, ↓reduceIte, Nat.reduceEqDiff]
                                        exact ⟨rfl, Le.refl _⟩
                                      simp only [eX, ↓reduceIte, Nat.reduceEqDiff, Int.reduceToNat]
                                      (first | refine TW_split (d := 196) rfl (fun g196 => ?_) (fun g196 => ?_) | skip)
                                      all_goals try (exfalso; exact cnA g196)
                                      all_goals (try simp only [decide_eq_true_eq, decide_eq_false_iff_not, Bool.not_eq_true, Bool.not_eq_false, Bool.and_eq_true, Bool.or_eq_true, Bool.or_eq_false_iff, Bool.not_eq_true, Bool.not_eq_eq_eq_not, Bool.not_true, Bool.not_false] at g196)
                                      all_goals
                                        try simp only [eX, ↓reduceIte, Nat.reduceEqDiff, Int.reduceToNat]
                                        first
                                        | apply TW_pureG rfl (lt_some (by decide)) rfl rfl
                                          · intro r
                                            simp only [x_move, eX, ↓reduceIte, Nat.reduceEqDiff]
                                            exact ⟨rfl, Le.refl _⟩
                                          simp only [eX, ↓reduceIte, Nat.reduceEqDiff, Int.reduceToNat]
                                        | refine TW_guardF rfl (lt_some (by decide)) rfl ?_
                                          simp only [eX, ↓reduceIte, Nat.reduceEqDiff, Int.reduceToNat]
                                        first
                                        | apply TW_pureG rfl (lt_some (by decide)) rfl rfl
                                          · intro r
                                            simp only [x_un, u_not, eX, ↓reduceIte, Nat.reduceEqDiff]
                                            exact ⟨rfl, Le.refl _⟩
                                          simp only [eX, ↓reduceIte, Nat.reduceEqDiff, Int.reduceToNat]
                                        | refine TW_guardF rfl (lt_some (by decide)) rfl ?_
                                          simp only [eX, ↓reduceIte, Nat.reduceEqDiff, Int.reduceToNat]
                                        first
                                        | apply TW_pureG rfl (lt_some (by decide)) rfl rfl
                                          · intro r
                                            simp only [x_move, eX, ↓reduceIte, Nat.reduceEqDiff]
                                            exact ⟨rfl, Le.refl _⟩
                                          simp only [eX, ↓reduceIte, Nat.reduceEqDiff, Int.reduceToNat]
                                        | refine TW_guardF rfl (lt_some (by decide)) rfl ?_
                                          simp only [eX, ↓reduceIte, Nat.reduceEqDiff, Int.reduceToNat]
                                        (first | refine TW_split (d := 199) rfl (fun g199 => ?_) (fun g199 => ?_) | skip)
                                        all_goals try (exfalso; exact cnA g199)
                                        all_goals (try simp only [decide_eq_true_eq, decide_eq_false_iff_not, Bool.not_eq_true, Bool.not_eq_false, Bool.and_eq_true, Bool.or_eq_true, Bool.or_eq_false_iff, Bool.not_eq_true, Bool.not_eq_eq_eq_not, Bool.not_true, Bool.not_false] at g199)
                                        all_goals
                                          try simp only [eX, ↓reduceIte, Nat.reduceEqDiff, Int.reduceToNat]
                                          first
                                          | apply TW_lookG rfl (lt_some (by decide)) rfl rfl
                                            · intro r
                                              simp only [x_load, eX, ↓reduceIte, Nat.reduceEqDiff]
                                              refine Lt_loadAll Try.underlying38 rfl sz38 (by first | (rw [hR51]; exact upd_same _ _ _) | (rw [hR193_]; exact hbA) | (exact hR193_ _ _ hbA)) (by simp [Sec.h]) ?_
                                              exact ⟨rfl, Le.refl _⟩
                                            simp only [eX, ↓reduceIte, Nat.reduceEqDiff, Int.reduceToNat]
                                          | refine TW_guardF rfl (lt_some (by decide)) rfl ?_
                                            simp only [eX, ↓reduceIte, Nat.reduceEqDiff, Int.reduceToNat]
                                          first
                                          | apply TW_pureG rfl (lt_some (by decide)) rfl rfl
                                            · intro r
                                              simp only [x_indexAddr, eX, ↓reduceIte, Nat.reduceEqDiff]
                                              refine Lt_indexA Try.underlying38 sz5 ixA ixA ?_
                                              try simp only [add_mk, Nat.mul_one, Nat.zero_add, Int.reduceToNat]
                                              exact ⟨rfl, Le.refl _⟩
                                            simp only [eX, ↓reduceIte, Nat.reduceEqDiff, Int.reduceToNat]
                                          | refine TW_guardF rfl (lt_some (by decide)) rfl ?_
                                            simp only [eX, ↓reduceIte, Nat.reduceEqDiff, Int.reduceToNat]
                                          first
                                          | apply TW_lookG rfl (lt_some (by decide)) rfl rfl
                                            · intro r
                                              simp only [x_load, eX, ↓reduceIte, Nat.reduceEqDiff]
                                              refine Lt_loadAt1 Try.underlying5 rfl (by first | (rw [hR51]; exact upd_same _ _ _) | (rw [hR193_]; exact hbA) | (exact hR193_ _ _ hbA)) (v := .int .u8 ((((s.cr kl).dv.getD k default).sure i).b.getD 0 0)) (sec_byte _ (by omega)) ?_
                                              exact ⟨rfl, Le.refl _⟩
                                            simp only [eX, ↓reduceIte, Nat.reduceEqDiff, Int.reduceToNat]
                                          | refine TW_guardF rfl (lt_some (by decide)) rfl ?_
                                            simp only [eX, ↓reduceIte, Nat.reduceEqDiff, Int.reduceToNat]
                                          first
                                          | refine TW_chainG rfl (lt_some (by decide)) rfl rfl (fun K hK r => ?_)
                                            simp only [x_callF _ bd12, List.map_toArray, List.map_cons, List.map_nil, eX, ↓reduceIte, Nat.reduceEqDiff, Int.reduceToNat]
                                            refine (full_ok _ _).mono ?_
                                            rintro v H' ⟨rfl, rfl⟩
                                            try simp only [eX, ↓reduceIte, Nat.reduceEqDiff, Int.reduceToNat]
                                            refine hK _ _ leA ?_; clear hK K
                                          | refine TW_guardF rfl (lt_some (by decide)) rfl ?_
                                            simp only [eX, ↓reduceIte, Nat.reduceEqDiff, Int.reduceToNat]
                                          first
                                          | apply TW_pureG rfl (lt_some (by decide)) rfl rfl
                                            · intro r
                                              simp only [x_bin, g_agg _ _ _ _ _ _ eqg38, eX, ↓reduceIte, Nat.reduceEqDiff]
                                              rw [e_neq _ _ _ _ (by simp)]
                                              rw [q_equal]
                                              rw [q_sec]
                                              exact ⟨rfl, Le.refl _⟩
                                            simp only [eX, ↓reduceIte, Nat.reduceEqDiff, Int.reduceToNat]
                                          | refine TW_guardF rfl (lt_some (by decide)) rfl ?_
                                            simp only [eX, ↓reduceIte, Nat.reduceEqDiff, Int.reduceToNat]
                                          first
                                          | apply TW_pureG rfl (lt_some (by decide)) rfl rfl
                                            · intro r
                                              simp only [x_pick, l_asBool, HL.ite_bool, if_true, if_false, Bool.false_eq_true, eX, ↓reduceIte, Nat.reduceEqDiff]
                                              exact ⟨rfl, Le.refl _⟩
                                            simp only [eX, ↓reduceIte, Nat.reduceEqDiff, Int.reduceToNat]
                                          | refine TW_guardF rfl (lt_some (by decide)) rfl ?_
                                            simp only [eX, ↓reduceIte, Nat.reduceEqDiff, Int.reduceToNat]
                                          apply TW_pure rfl (lt_some (by decide)) rfl
                                          · intro r
                                            simp only [x_pick, l_asBool, HL.ite_bool, if_true, if_false, Bool.false_eq_true, eX, ↓reduceIte, Nat.reduceEqDiff]
                                            exact ⟨rfl, Le.refl _⟩
                                          simp only [eX, ↓reduceIte, Nat.reduceEqDiff, Int.reduceToNat]
                                          refine TW_nil ?_
                                          try simp only [Ex.thnH, Ex.inBlockH, ↓reduceIte, Nat.reduceEqDiff]
                                          refine hK66 _ _ ?_; try clear hK66 K66
                                          refine CW_cond (fun r => rfl) (fun c206 => ?_) (fun c206 => ?_)
                                          · exfalso; first | (exact cnA c206; done) | (have hz := full_zero _ (hCB.wh (by simpa using g199) k hk2 i hi5); rw [hz] at c206; simp at c206; done) | (simp at c206; done)
                                          refine CW_skip ?_
                                          try simp only [Ex.thnH, Ex.inBlockH, ↓reduceIte, Nat.reduceEqDiff]
                                          refine hK65 _ _ ?_; try clear hK65 K65
                                          refine CW_seq (fun K67 hK67 => ?_)
                                          refine CW_region ?_
                                          refine OW_opS (fun K hK r => ?_)
                                          simp only [x_load, eX, ↓reduceIte, Nat.reduceEqDiff, Int.reduceToNat]
                                          refine Lt_loadAll Try.underlying38 rfl sz38 hbA (by simp [Sec.h]) ?_
                                          refine hK _ _ ?_; clear hK K
                                          refine OW_mv rfl ?_
                                          refine OW_nil ?_
                                          try simp only [Ex.thnH, Ex.inBlockH, ↓reduceIte, Nat.reduceEqDiff]
                                          refine hK67 _ _ ?_; try clear hK67 K67
                                          refine CW_block ?_
                                          refine CW_loop (fun m_ e H_ => ∃ j : Nat, j ≤ 64 ∧ m_ = 64 - j ∧ Le HC H_ ∧ Env.has [(5, .pointer (some ⟨p, 0, none⟩)), (7, .pointer (some ⟨b7, 0, none⟩)), (14, .bool (kl.any tornB)), (169, .int .i64 k), (17, .int .i64 k), (174, .agg (rows5 Rf k).toArray), (175, .int .i64 i), (19, (Rf (k * 5 + i)).v), (207, .agg (((s.cr kl).dv.getD k default).sure i).c.toArray), (208, .int .i64 j)] e) (64) ?_ ?_
                                          · skip
                                            exact ⟨0, by omega, by omega, Le.trans hlC (le_upd _ _ _ hb20), rfl, rfl, rfl, rfl, rfl, rfl, rfl, rfl, rfl, rfl, trivial⟩
                                          intro m_ e_ H_ hI_
                                          obtain ⟨j, hj, rfl, hlC, he⟩ := hI_
                                          refine CW_env he.sub ?_; clear he e_
                                          refine CW_seq (fun K68 hK68 => ?_)
                                          refine CW_region ?_
                                          refine OW_opS (fun K hK r => ?_)
                                          simp (disch := (first | omega | decide)) only [x_bin, g_int, b_lss, dec_lt_t, dec_lt_f, dec_le_t, dec_le_f, dec_eq_t, dec_eq_f, Bool.not_true, Bool.not_false, eX, ↓reduceIte, Nat.reduceEqDiff, Int.reduceToNat]
                                          refine hK _ _ ?_; clear hK K
                                          refine OW_nil ?_
                                          try simp only [Ex.thnH, Ex.inBlockH, ↓reduceIte, Nat.reduceEqDiff]
                                          refine hK68 _ _ ?_; try clear hK68 K68
                                          refine CW_seq (fun K69 hK69 => ?_)
                                          refine CW_cond (fun r => rfl) (fun c209 => ?_) (fun c209 => ?_)
                                          · first
                                            | (exfalso; exact cnA c209; done)
                                            | skip
                                              (try simp only [decide_eq_true_eq, decide_eq_false_iff_not, Bool.not_eq_true, Bool.not_eq_false, Bool.and_eq_true, Bool.or_eq_true, Bool.or_eq_false_iff, Bool.not_eq_true, Bool.not_eq_eq_eq_not, Bool.not_true, Bool.not_false] at c209)
                                              have hj64 : j < 64 := by omega
                                              refine CW_skip ?_
                                              try simp only [Ex.thnH, Ex.inBlockH, ↓reduceIte, Nat.reduceEqDiff]
                                              refine hK69 _ _ ?_; try clear hK69 K69
                                              refine CW_seq (fun K70 hK70 => ?_)
                                              refine CW_block ?_
                                              refine CW_seq (fun K71 hK71 => ?_)
                                              refine CW_region ?_
                                              refine OW_opS (fun K hK r => ?_)
                                              simp only [x_index, eX, ↓reduceIte, Nat.reduceEqDiff, Int.reduceToNat]
                                              refine Lt_indexAgg Try.underlying38 sz5 Try.underlying5 rfl (by omega) (by omega) (by rw [Int.toNat_natCast]; exact sec_byte _ (by omega)) ?_
                                              refine hK _ _ ?_; clear hK K
                                              refine OW_as rfl ?_
                                              refine OW_nil ?_
                                              try simp only [Ex.thnH, Ex.inBlockH, ↓reduceIte, Nat.reduceEqDiff]
                                              refine hK71 _ _ ?_; try clear hK71 K71
                                              refine CW_seq (fun K72 hK72 => ?_)
                                              refine CW_region ?_
                                              refine OW_as rfl ?_
                                              refine OW_nil ?_
                                              try simp only [Ex.thnH, Ex.inBlockH, ↓reduceIte, Nat.reduceEqDiff]
                                              refine hK72 _ _ ?_; try clear hK72 K72
                                              refine CW_seq (fun K73 hK73 => ?_)
                                              refine CW_seq (fun K74 hK74 => ?_)
                                              refine CW_region ?_
                                              refine OW_mv rfl ?_
                                              refine OW_opS (fun K hK r => ?_)
                                              simp only [x_builtin, l_len, List.map_toArray, List.map_cons, List.map_nil, i_len_slice _ _ Try.underlying31, eX, ↓reduceIte, Nat.reduceEqDiff, Int.reduceToNat]
                                              refine hK _ _ ?_; clear hK K
                                              refine OW_mv rfl ?_
                                              refine OW_nil ?_
                                              try simp only [Ex.thnH, Ex.inBlockH, ↓reduceIte, Nat.reduceEqDiff]
                                              refine hK74 _ _ ?_; try clear hK74 K74
                                              refine CW_block ?_
                                              refine CW_loop (fun m_ e H_ => ∃ q : Nat, q ≤ (Rf (k * 5 + i)).n ∧ m_ = (Rf (k * 5 + i)).n - q ∧ Le HC H_ ∧ Env.has [(5, .pointer (some ⟨p, 0, none⟩)), (7, .pointer (some ⟨b7, 0, none⟩)), (14, .bool (kl.any tornB)), (169, .int .i64 k), (17, .int .i64 k), (174, .agg (rows5 Rf k).toArray), (175, .int .i64 i), (19, (Rf (k * 5 + i)).v), (207, .agg (((s.cr kl).dv.getD k default).sure i).c.toArray), (208, .int .i64 j), (23, .int .u8 ((((s.cr kl).dv.getD k default).sure i).b.getD j 0)), (24, .bool (((L (k * 5 + i)).take q).any (fun c => decide (((((s.cr kl).dv.getD k default).sure i).b.getD j 0) = c)))), (211, (Rf (k * 5 + i)).v), (212, .int .i64 (Rf (k * 5 + i)).n), (213, .int .i64 q)] e) ((Rf (k * 5 + i)).n) ?_ ?_
                                              · skip
                                                exact ⟨0, by omega, by omega, hlC, rfl, rfl, rfl, rfl, rfl, rfl, rfl, rfl, rfl, rfl, rfl, rfl, rfl, rfl, rfl, trivial⟩
                                              intro m_ e_ H_ hI_
                                              obtain ⟨q, hq, rfl, hlC, he⟩ := hI_
                                              refine CW_env he.sub ?_; clear he e_
                                              refine CW_seq (fun K75 hK75 => ?_)
                                              refine CW_region ?_
                                              refine OW_opS (fun K hK r => ?_)
                                              simp (disch := (first | omega | decide)) only [x_bin, g_int, b_lss, dec_lt_t, dec_lt_f, dec_le_t, dec_le_f, dec_eq_t, dec_eq_f, Bool.not_true, Bool.not_false, eX, ↓reduceIte, Nat.reduceEqDiff, Int.reduceToNat]
                                              refine hK _ _ ?_; clear hK K
                                              refine OW_nil ?_
                                              try simp only [Ex.thnH, Ex.inBlockH, ↓reduceIte, Nat.reduceEqDiff]
                                              refine hK75 _ _ ?_; try clear hK75 K75
                                              refine CW_seq (fun K76 hK76 => ?_)
                                              refine CW_cond (fun r => rfl) (fun c214 => ?_) (fun c214 => ?_)
                                              · first
                                                | (exfalso; exact cnA c214; done)
                                                | skip
                                                  (try simp only [decide_eq_true_eq, decide_eq_false_iff_not, Bool.not_eq_true, Bool.not_eq_false, Bool.and_eq_true, Bool.or_eq_true, Bool.or_eq_false_iff, Bool.not_eq_true, Bool.not_eq_eq_eq_not, Bool.not_true, Bool.not_false] at c214)
                                                  refine CW_skip ?_
                                                  try simp only [Ex.thnH, Ex.inBlockH, ↓reduceIte, Nat.reduceEqDiff]
                                                  refine hK76 _ _ ?_; try clear hK76 K76
                                                  refine CW_seq (fun K77 hK77 => ?_)
                                                  refine CW_block ?_
                                                  refine CW_seq (fun K78 hK78 => ?_)
                                                  refine CW_region ?_
                                                  refine OW_opS (fun K hK r => ?_)
                                                  simp only [x_indexAddr, eX, ↓reduceIte, Nat.reduceEqDiff, Int.reduceToNat]
                                                  refine Lt_indexSof Try.underlying31 sz5 rfl ixA ixA ?_
                                                  try simp only [Int.toNat_natCast, Nat.mul_one]
                                                  refine hK _ _ ?_; clear hK K
                                                  refine OW_opS (fun K hK r => ?_)
                                                  simp only [x_load, eX, ↓reduceIte, Nat.reduceEqDiff, Int.reduceToNat]
                                                  obtain ⟨cr_, hcr, hcr2, _⟩ := ownr.at (j := q) (by have := ownr.1; omega)
                                                  refine Lt_loadAt1 Try.underlying5 rfl (hlC _ _ (hOC _ _ hcr)) hcr2 ?_
                                                  refine hK _ _ ?_; clear hK K
                                                  refine OW_as rfl ?_
                                                  refine OW_nil ?_
                                                  try simp only [Ex.thnH, Ex.inBlockH, ↓reduceIte, Nat.reduceEqDiff]
                                                  refine hK78 _ _ ?_; try clear hK78 K78
                                                  refine CW_region ?_
                                                  refine OW_mv rfl ?_
                                                  refine OW_mv rfl ?_
                                                  (first | refine OW_split (d := 218) rfl (fun g218 => ?_) (fun g218 => ?_) | skip)
                                                  all_goals try (exfalso; exact cnA g218)
                                                  all_goals (try simp only [decide_eq_true_eq, decide_eq_false_iff_not, Bool.not_eq_true, Bool.not_eq_false, Bool.and_eq_true, Bool.or_eq_true, Bool.or_eq_false_iff, Bool.not_eq_true, Bool.not_eq_eq_eq_not, Bool.not_true, Bool.not_false] at g218)
                                                  all_goals
                                                    try simp only [eX, ↓reduceIte, Nat.reduceEqDiff, Int.reduceToNat]
                                                    first
                                                    | refine OW_guardT rfl (lt_some (by decide)) rfl (fun K hK r => ?_)
                                                      simp only [x_move, eX, ↓reduceIte, Nat.reduceEqDiff, Int.reduceToNat]
                                                      refine hK _ _ ?_; clear hK K
                                                    | refine OW_guardF rfl (lt_some (by decide)) rfl ?_
                                                      simp only [eX, ↓reduceIte, Nat.reduceEqDiff, Int.reduceToNat]
                                                    first
                                                    | refine OW_guardT rfl (lt_some (by decide)) rfl (fun K hK r => ?_)
                                                      simp only [x_move, eX, ↓reduceIte, Nat.reduceEqDiff, Int.reduceToNat]
                                                      refine hK _ _ ?_; clear hK K
                                                    | refine OW_guardF rfl (lt_some (by decide)) rfl ?_
                                                      simp only [eX, ↓reduceIte, Nat.reduceEqDiff, Int.reduceToNat]
                                                    first
                                                    | refine OW_guardT rfl (lt_some (by decide)) rfl (fun K hK r => ?_)
                                                      simp (disch := (first | omega | decide)) only [x_bin, g_int, b_eql, dec_lt_t, dec_lt_f, dec_le_t, dec_le_f, dec_eq_t, dec_eq_f, Bool.not_true, Bool.not_false, eX, ↓reduceIte, Nat.reduceEqDiff, Int.reduceToNat]
                                                      refine hK _ _ ?_; clear hK K
                                                    | refine OW_guardF rfl (lt_some (by decide)) rfl ?_
                                                      simp only [eX, ↓reduceIte, Nat.reduceEqDiff, Int.reduceToNat]
                                                    refine OW_opS (fun K hK r => ?_)
                                                    simp only [x_pick, l_asBool, HL.ite_bool, if_true, if_false, Bool.false_eq_true, eX, ↓reduceIte, Nat.reduceEqDiff, Int.reduceToNat]
                                                    refine hK _ _ ?_; clear hK K
                                                    refine OW_as rfl ?_
                                                    refine OW_nil ?_
                                                    try simp only [Ex.thnH, Ex.inBlockH, ↓reduceIte, Nat.reduceEqDiff]
                                                    refine hK77 _ _ ?_; try clear hK77 K77
                                                    refine CW_region ?_
                                                    refine OW_opS (fun K hK r => ?_)
                                                    simp (disch := (first | omega | decide)) only [x_bin, g_int, b_add, wrap_i64, wrap_u64, wrap_u32, wrap_u8, eX, ↓reduceIte, Nat.reduceEqDiff, Int.reduceToNat]
                                                    refine hK _ _ ?_; clear hK K
                                                    refine OW_mv rfl ?_
                                                    refine OW_nil ?_
                                                    try simp only [Ex.thnH, Ex.inBlockH, ↓reduceIte, Nat.reduceEqDiff]
                                                    refine ⟨(Rf (k * 5 + i)).n - (q + 1), by omega, q + 1, by omega, rfl, hlC, rfl, rfl, rfl, rfl, rfl, rfl, rfl, rfl, rfl, rfl, rfl, ?_, rfl, rfl, rfl, trivial⟩
                                                    show some (Value.bool _) = some (Value.bool _)
                                                    rw [any_byte (by have := ownr.1; omega)]
                                                    congr 2
                                                    first | (rw [g218]; done) | (rw [g218]; rfl)
                                              · first
                                                | (exfalso; exact cnA c214; done)
                                                | skip
                                                  (try simp only [decide_eq_true_eq, decide_eq_false_iff_not, Bool.not_eq_true, Bool.not_eq_false, Bool.and_eq_true, Bool.or_eq_true, Bool.or_eq_false_iff, Bool.not_eq_true, Bool.not_eq_eq_eq_not, Bool.not_true, Bool.not_false] at c214)
                                                  have hqn : q = (L (k * 5 + i)).length := by have := ownr.1; omega
                                                  have hany : ((L (k * 5 + i)).take q).any (fun c => decide (((((s.cr kl).dv.getD k default).sure i).b.getD j 0) = c)) = true := by
                                                    rw [hqn, List.take_of_length_le (Nat.le_refl _)]
                                                    exact List.any_eq_true.2 ⟨_, hCB.by_ k hk2 i hi5 _ (sec_mem _ hj64), by simp⟩
                                                  refine CW_exit ?_
                                                  try simp only [Ex.thnH, Ex.inBlockH, ↓reduceIte, Nat.reduceEqDiff]
                                                  refine hK73 _ _ ?_; try clear hK73 K73
                                                  refine CW_seq (fun K79 hK79 => ?_)
                                                  refine CW_region ?_
                                                  refine OW_mv rfl ?_
                                                  refine OW_opS (fun K hK r => ?_)
                                                  simp only [x_un, u_not, eX, ↓reduceIte, Nat.reduceEqDiff, Int.reduceToNat]
                                                  refine hK _ _ ?_; clear hK K
                                                  refine OW_nil ?_
                                                  try simp only [Ex.thnH, Ex.inBlockH, ↓reduceIte, Nat.reduceEqDiff]
                                                  refine hK79 _ _ ?_; try clear hK79 K79
                                                  refine CW_cond (fun r => rfl) (fun c225 => ?_) (fun c225 => ?_)
                                                  · exfalso; rw [hany] at c225; first | (cases c225; done) | (simp at c225; done)
                                                  refine CW_skip ?_
                                                  try simp only [Ex.thnH, Ex.inBlockH, ↓reduceIte, Nat.reduceEqDiff]
                                                  refine hK70 _ _ ?_; try clear hK70 K70
                                                  refine CW_region ?_
                                                  refine OW_opS (fun K hK r => ?_)
                                                  simp (disch := (first | omega | decide)) only [x_bin, g_int, b_add, wrap_i64, wrap_u64, wrap_u32, wrap_u8, eX, ↓reduceIte, Nat.reduceEqDiff, Int.reduceToNat]
                                                  refine hK _ _ ?_; clear hK K
                                                  refine OW_mv rfl ?_
                                                  refine OW_nil ?_
                                                  try simp only [Ex.thnH, Ex.inBlockH, ↓reduceIte, Nat.reduceEqDiff]
                                                  exact ⟨64 - (j + 1), by omega, j + 1, by omega, rfl, hlC, rfl, rfl, rfl, rfl, rfl, rfl, rfl, rfl, rfl, rfl, trivial⟩
                                          · first
                                            | (exfalso; exact cnA c209; done)
                                            | skip
                                              (try simp only [decide_eq_true_eq, decide_eq_false_iff_not, Bool.not_eq_true, Bool.not_eq_false, Bool.and_eq_true, Bool.or_eq_true, Bool.or_eq_false_iff, Bool.not_eq_true, Bool.not_eq_eq_eq_not, Bool.not_true, Bool.not_false] at c209)
                                              refine CW_exit ?_
                                              try simp only [Ex.thnH, Ex.inBlockH, ↓reduceIte, Nat.reduceEqDiff]
                                              refine hK62 _ _ ?_; try clear hK62 K62
                                              refine CW_region ?_
                                              refine OW_opS (fun K hK r => ?_)
                                              simp (disch := (first | omega | decide)) only [x_bin, g_int, b_add, wrap_i64, wrap_u64, wrap_u32, wrap_u8, eX, ↓reduceIte, Nat.reduceEqDiff, Int.reduceToNat]
                                              refine hK _ _ ?_; clear hK K
                                              refine OW_mv rfl ?_
                                              refine OW_nil ?_
                                              try simp only [Ex.thnH, Ex.inBlockH, ↓reduceIte, Nat.reduceEqDiff]
                                              exact ⟨5 - (i + 1), by omega, i + 1, by omega, rfl, hlC, rfl, rfl, rfl, rfl, rfl, rfl, rfl, trivial⟩
                                · first
                                  | (exfalso; exact cnA c176; done)
                                  | skip
                                    (try simp only [decide_eq_true_eq, decide_eq_false_iff_not, Bool.not_eq_true, Bool.not_eq_false, Bool.and_eq_true, Bool.or_eq_true, Bool.or_eq_false_iff, Bool.not_eq_true, Bool.not_eq_eq_eq_not, Bool.not_true, Bool.not_false] at c176)
                                    refine CW_exit ?_
                                    try simp only [Ex.thnH, Ex.inBlockH, ↓reduceIte, Nat.reduceEqDiff]
                                    refine hK57 _ _ ?_; try clear hK57 K57
                                    refine CW_region ?_
                                    refine OW_opS (fun K hK r => ?_)
                                    simp (disch := (first | omega | decide)) only [x_bin, g_int, b_add, wrap_i64, wrap_u64, wrap_u32, wrap_u8, eX, ↓reduceIte, Nat.reduceEqDiff, Int.reduceToNat]
                                    refine hK _ _ ?_; clear hK K
                                    refine OW_mv rfl ?_
                                    refine OW_nil ?_
                                    try simp only [Ex.thnH, Ex.inBlockH, ↓reduceIte, Nat.reduceEqDiff]
                                    exact ⟨2 - (k + 1), by omega, k + 1, by omega, rfl, hlC, rfl, rfl, rfl, rfl, trivial⟩
                            · first
                              | (exfalso; exact cnA c170; done)
                              | skip
                                (try simp only [decide_eq_true_eq, decide_eq_false_iff_not, Bool.not_eq_true, Bool.not_eq_false, Bool.and_eq_true, Bool.or_eq_true, Bool.or_eq_false_iff, Bool.not_eq_true, Bool.not_eq_eq_eq_not, Bool.not_true, Bool.not_false] at c170)
                                refine CW_exit ?_
                                try simp only [Ex.thnH, Ex.inBlockH, ↓reduceIte, Nat.reduceEqDiff]
                                refine hK53 _ _ ?_; try clear hK53 K53
                                refine CW_seq (fun K80 hK80 => ?_)
                                refine CW_region ?_
                                refine OW_mv rfl ?_
                                refine OW_opS (fun K hK r => ?_)
                                simp only [x_callF _ bd18, List.map_toArray, List.map_cons, List.map_nil, eX, ↓reduceIte, Nat.reduceEqDiff, Int.reduceToNat]
                                refine (waitingL (hSC.more hlC) hSmC ((0 : Nat) : Int)).mono ?_
                                rintro v H' ⟨rfl, rfl⟩
                                rw [hCB.waE (k := 0) (by omega)]
                                try simp only [eX, ↓reduceIte, Nat.reduceEqDiff, Int.reduceToNat]
                                refine hK _ _ ?_; clear hK K
                                refine OW_opS (fun K hK r => ?_)
                                simp (disch := (first | omega | decide)) only [x_bin, g_int, b_eql, dec_lt_t, dec_lt_f, dec_le_t, dec_le_f, dec_eq_t, dec_eq_f, Bool.not_true, Bool.not_false, eX, ↓reduceIte, Nat.reduceEqDiff, Int.reduceToNat]
                                refine hK _ _ ?_; clear hK K
                                refine OW_mv rfl ?_
                                (first | refine OW_split (d := 232) rfl (fun g232 => ?_) (fun g232 => ?_) | skip)
                                all_goals try (exfalso; exact cnA g232)
                                all_goals (try simp only [decide_eq_true_eq, decide_eq_false_iff_not, Bool.not_eq_true, Bool.not_eq_false, Bool.and_eq_true, Bool.or_eq_true, Bool.or_eq_false_iff, Bool.not_eq_true, Bool.not_eq_eq_eq_not, Bool.not_true, Bool.not_false] at g232)
                                all_goals
                                  try simp only [eX, ↓reduceIte, Nat.reduceEqDiff, Int.reduceToNat]
                                  first
                                  | refine OW_guardT rfl (lt_some (by decide)) rfl (fun K hK r => ?_)
                                    simp only [x_move, eX, ↓reduceIte, Nat.reduceEqDiff, Int.reduceToNat]
                                    refine hK _ _ ?_; clear hK K
                                  | refine OW_guardF rfl (lt_some (by decide)) rfl ?_
                                    simp only [eX, ↓reduceIte, Nat.reduceEqDiff, Int.reduceToNat]
                                  first
                                  | refine OW_guardT rfl (lt_some (by decide)) rfl (fun K hK r => ?_)
                                    simp only [x_callF _ bd18, List.map_toArray, List.map_cons, List.map_nil, eX, ↓reduceIte, Nat.reduceEqDiff, Int.reduceToNat]
                                    refine (waitingL (hSC.more hlC) hSmC ((1 : Nat) : Int)).mono ?_
                                    rintro v H' ⟨rfl, rfl⟩
                                    rw [hCB.waE (k := 1) (by omega)]
                                    try simp only [eX, ↓reduceIte, Nat.reduceEqDiff, Int.reduceToNat]
                                    refine hK _ _ ?_; clear hK K
                                  | refine OW_guardF rfl (lt_some (by decide)) rfl ?_
                                    simp only [eX, ↓reduceIte, Nat.reduceEqDiff, Int.reduceToNat]
                                  first
                                  | refine OW_guardT rfl (lt_some (by decide)) rfl (fun K hK r => ?_)
                                    simp (disch := (first | omega | decide)) only [x_bin, g_int, b_eql, dec_lt_t, dec_lt_f, dec_le_t, dec_le_f, dec_eq_t, dec_eq_f, Bool.not_true, Bool.not_false, eX, ↓reduceIte, Nat.reduceEqDiff, Int.reduceToNat]
                                    refine hK _ _ ?_; clear hK K
                                  | refine OW_guardF rfl (lt_some (by decide)) rfl ?_
                                    simp only [eX, ↓reduceIte, Nat.reduceEqDiff, Int.reduceToNat]
                                  refine OW_opS (fun K hK r => ?_)
                                  simp only [x_pick, l_asBool, HL.ite_bool, if_true, if_false, Bool.false_eq_true, eX, ↓reduceIte, Nat.reduceEqDiff, Int.reduceToNat]
                                  refine hK _ _ ?_; clear hK K
                                  refine OW_mv rfl ?_
                                  (first | refine OW_split (d := 237) rfl (fun g237 => ?_) (fun g237 => ?_) | skip)
                                  all_goals try (exfalso; exact cnA g237)
                                  all_goals (try simp only [decide_eq_true_eq, decide_eq_false_iff_not, Bool.not_eq_true, Bool.not_eq_false, Bool.and_eq_true, Bool.or_eq_true, Bool.or_eq_false_iff, Bool.not_eq_true, Bool.not_eq_eq_eq_not, Bool.not_true, Bool.not_false] at g237)
                                  all_goals
                                    try simp only [eX, ↓reduceIte, Nat.reduceEqDiff, Int.reduceToNat]
                                    first
                                    | refine OW_guardT rfl (lt_some (by decide)) rfl (fun K hK r => ?_)
                                      simp only [x_move, eX, ↓reduceIte, Nat.reduceEqDiff, Int.reduceToNat]
                                      refine hK _ _ ?_; clear hK K
                                    | refine OW_guardF rfl (lt_some (by decide)) rfl ?_
                                      simp only [eX, ↓reduceIte, Nat.reduceEqDiff, Int.reduceToNat]
                                    first
                                    | refine OW_guardT rfl (lt_some (by decide)) rfl (fun K hK r => ?_)
                                      simp only [x_callF _ bd19, List.map_toArray, List.map_cons, List.map_nil, eX, ↓reduceIte, Nat.reduceEqDiff, Int.reduceToNat]
                                      refine (downL (hSC.more hlC)).mono ?_
                                      rintro v H' ⟨rfl, rfl⟩
                                      rw [hCB.go]
                                      try simp only [eX, ↓reduceIte, Nat.reduceEqDiff, Int.reduceToNat]
                                      refine hK _ _ ?_; clear hK K
                                    | refine OW_guardF rfl (lt_some (by decide)) rfl ?_
                                      simp only [eX, ↓reduceIte, Nat.reduceEqDiff, Int.reduceToNat]
                                    first
                                    | refine OW_guardT rfl (lt_some (by decide)) rfl (fun K hK r => ?_)
                                      simp only [x_un, u_not, eX, ↓reduceIte, Nat.reduceEqDiff, Int.reduceToNat]
                                      refine hK _ _ ?_; clear hK K
                                    | refine OW_guardF rfl (lt_some (by decide)) rfl ?_
                                      simp only [eX, ↓reduceIte, Nat.reduceEqDiff, Int.reduceToNat]
                                    refine OW_opS (fun K hK r => ?_)
                                    simp only [x_pick, l_asBool, HL.ite_bool, if_true, if_false, Bool.false_eq_true, eX, ↓reduceIte, Nat.reduceEqDiff, Int.reduceToNat]
                                    refine hK _ _ ?_; clear hK K
                                    refine OW_as rfl ?_
                                    refine OW_nil ?_
                                    try simp only [Ex.thnH, Ex.inBlockH, ↓reduceIte, Nat.reduceEqDiff]
                                    refine hK80 _ _ ?_; try clear hK80 K80
                                    refine CW_ret ?_
                                    try simp only [Ex.thnH, Ex.inBlockH, ↓reduceIte, Nat.reduceEqDiff]
                                    exact ⟨[_], ⟨rfl, trivial⟩, H, hHH3, by first | rfl | (simp; done) | (simp; rfl), Le.refl _⟩

end Go.Proofs.Ytkmjncmdhinlgaa.HL
end
