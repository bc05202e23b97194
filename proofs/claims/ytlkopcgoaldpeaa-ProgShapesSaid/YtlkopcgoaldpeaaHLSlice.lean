/- Slices: what they hold, appends, copies, makes. -/
import Derived.Test.YtlkopcgoaldpeaaHLArith
namespace Go.Proofs.Ytlkopcgoaldpeaa.HL
open Go
set_option linter.unusedSimpArgs false
set_option linter.unusedVariables false

/-- 'v' is a slice of 'n' elements of 'w' cells each, which are 'cs'. -/
def Holds (H : Hp) (w : Nat) (v : Value) (n : Nat) (cs : List Value) : Prop :=
  n * w = cs.length ∧ ((∃ a cap, v = .slice a 0 cap ∧ n = 0) ∨
    ∃ b o cap c T f, v = .slice (some ⟨b, o, none⟩) n cap ∧ H b = some (.cells c T f) ∧ o + n * w ≤ c.size ∧ (c.extract o (o + n * w)).toList = cs)
theorem Holds.le {H H' : Hp} {w : Nat} {v : Value} {n : Nat} {cs : List Value} (h : Holds H w v n cs) (k : Le H H') : Holds H' w v n cs := by
  obtain ⟨h1, h2⟩ := h
  refine ⟨h1, h2.imp id ?_⟩
  rintro ⟨b, o, cap, c, T, f, h3, h4, h5⟩
  exact ⟨b, o, cap, c, T, f, h3, k _ _ h4, h5⟩
theorem Holds.form {H : Hp} {w : Nat} {v : Value} {n : Nat} {cs : List Value} (h : Holds H w v n cs) : ∃ a cap, v = .slice a n cap := by
  obtain ⟨_, ⟨a, cap, rfl, rfl⟩ | ⟨b, o, cap, c, T, f, rfl, _⟩⟩ := h <;> exact ⟨_, _, rfl⟩
/-- An element's cells. -/
theorem Holds.at {H : Hp} {w : Nat} {a : Option Addr} {n cap : Nat} {cs : List Value} (h : Holds H w (.slice a n cap) n cs) (hn : 0 < n) : ∃ b o c T f, a = some ⟨b, o, none⟩ ∧ H b = some (.cells c T f) ∧ o + n * w ≤ c.size ∧ ∀ j, j < n * w → c[o + j]? = cs[j]? := by
  obtain ⟨h1, ⟨a0, cap, h2, h3⟩ | ⟨b, o, cap, c, T, f, h2, h3, h4, h5⟩⟩ := h
  · omega
  · cases h2
    refine ⟨b, o, c, T, f, rfl, h3, h4, fun j hj => ?_⟩
    rw [← h5, Array.toList_extract, List.extract_eq_take_drop, List.getElem?_take_of_lt (by omega), List.getElem?_drop]
    simp
/-- The call's own growing slice: its array begins at a block's head. 'rs': the block. -/
def OwnS (H : Hp) (E : TypeId) (w : Nat) (v : Value) (n : Nat) (cs : List Value) (rs : Option Nat) : Prop :=
  n * w = cs.length ∧ ((v = .slice none 0 0 ∧ n = 0 ∧ rs = none) ∨
    ∃ r cap c, v = .slice (some ⟨r, 0, none⟩) n cap ∧ H r = some (.cells c E) ∧ n ≤ cap ∧ c.size = cap * w ∧ (c.extract 0 (n * w)).toList = cs ∧ rs = some r)
theorem OwnS.holds {H : Hp} {E : TypeId} {w : Nat} {v : Value} {n : Nat} {cs : List Value} {rs : Option Nat} (h : OwnS H E w v n cs rs) : Holds H w v n cs := by
  obtain ⟨h1, h2⟩ := h
  refine ⟨h1, ?_⟩
  rcases h2 with ⟨h3, h4, _⟩ | ⟨r, cap, c, h3, h4, h5, h6, h7, _⟩
  · exact .inl ⟨none, 0, h3, h4⟩
  · refine .inr ⟨r, 0, cap, c, E, (0, 0), h3, h4, ?_, by simpa using h7⟩
    rw [h6]; have := Nat.mul_le_mul_right w h5; omega
theorem OwnS.nil (H : Hp) (E : TypeId) (w : Nat) : OwnS H E w (.slice none 0 0) 0 [] none := ⟨by simp, .inl ⟨rfl, rfl, rfl⟩⟩
/-- One block is new, or another. -/
def Grow (H : Hp) (rs : Option Nat) (H' : Hp) : Prop := H' = H ∨ ∃ r o, (rs = some r ∨ H r = none) ∧ H' = H.upd r o
theorem Grow.keep {H H' : Hp} {rs : Option Nat} (h : Grow H rs H') {b : Nat} {o : Obj} (hb : H b = some o) (hn : rs ≠ some b) : H' b = some o := by
  rcases h with rfl | ⟨r, o', h1, rfl⟩
  · exact hb
  · rw [upd_ne]; · exact hb
    intro e; subst e
    rcases h1 with h1 | h1
    · exact hn h1
    · rw [h1] at hb; cases hb
theorem Grow.le {H H' H0 : Hp} {rs : Option Nat} (h : Grow H rs H') (hl : Le H0 H) (hn : ∀ r, rs = some r → H0 r = none) : Le H0 H' := fun b o hb =>
  h.keep (hl b o hb) (fun e => by rw [hn b e] at hb; cases hb)
theorem OwnS.keep {H H' : Hp} {E : TypeId} {w : Nat} {v : Value} {n : Nat} {cs : List Value} {rs rs' : Option Nat} (h : OwnS H E w v n cs rs) (hg : Grow H rs' H') (hn : rs ≠ rs' ∨ rs = none) : OwnS H' E w v n cs rs := by
  obtain ⟨h1, h2⟩ := h
  refine ⟨h1, h2.imp id ?_⟩
  rintro ⟨r, cap, c, h3, h4, h5⟩
  refine ⟨r, cap, c, h3, hg.keep h4 ?_, h5⟩
  rcases hn with hn | hn
  · rw [h5.2.2.2] at hn; exact fun e => hn e.symm
  · rw [h5.2.2.2] at hn; cases hn

section
variable {P : Program} {H : Hp}
theorem l_info (t : TypeId) (K : TypeInfo → Hp → Prop) : Lt P (typeInfo t) H K = orF (P.info? t) (fun i => K i H) := by
  simp only [typeInfo, program, Bind.bind, Lt_bind, Lt]; cases P.info? t <;> rfl
theorem first_slice {w n : Nat} {v : Value} {cs : List Value} (h : Holds H w v n cs) (K : Array Value → Hp → Prop) : Lt P (Builtin.firstCells w n v) H K = K cs.toArray H := by
  obtain ⟨h1, ⟨a, cap, rfl, rfl⟩ | ⟨b, o, cap, c, T, f, rfl, hb, hn, hc⟩⟩ := h
  · have : cs = [] := by simpa using h1.symm
    subst this; cases a with
    | none => rfl
    | some a => simp only [Builtin.firstCells, Nat.zero_mul]; rfl
  · simp only [Builtin.firstCells, loadCells_lt hb o (n * w) hn]
    have : c.extract o (o + n * w) = cs.toArray := by rw [← hc]
    rw [this]
theorem first_string (w : Nat) (s : ByteArray) (K : Array Value → Hp → Prop) : Lt P (Builtin.firstCells w s.size (.string s)) H K = K (s.data.map fun b => .int .u8 b.toNat) H := by
  simp only [Builtin.firstCells, l_pure]
  have : s.extract 0 s.size = s := by simp
  rw [this]
theorem growBy_le (L : Nat) : ∀ (k c : Nat), c ≤ 2 * L + 1000 → Builtin.growBy L k c ≤ 4 * L + 2000
  | 0, c, h => by simp only [Builtin.growBy]; omega
  | k + 1, c, h => by
    simp only [Builtin.growBy]
    split
    · omega
    · exact growBy_le L k _ (by omega)
theorem nextcap_le (L c : Nat) (h : c < L) : Builtin.nextslicecap L c ≤ 4 * L + 2000 := by
  unfold Builtin.nextslicecap
  split
  · omega
  · split
    · omega
    · exact growBy_le L 4 c (by omega)

theorem putCells_toList : ∀ (l : List Value) (c : Array Value) (o : Nat), o + l.length ≤ c.size → (putCells c o l).toList = c.toList.take o ++ l ++ c.toList.drop (o + l.length)
  | [], c, o, h => by simp [putCells]
  | v :: r, c, o, h => by
    simp only [List.length_cons] at h
    rw [putCells, putCells_toList r _ _ (by simp; omega)]
    have h1 : (c.setIfInBounds o v).toList = c.toList.take o ++ v :: c.toList.drop (o + 1) := by
      rw [Array.toList_setIfInBounds, List.set_eq_take_append_cons_drop, if_pos (by simp; omega)]
    have h2 : (c.toList.take o).length = o := by simp; omega
    have h3 : c.toList.drop (o + (r.length + 1)) = (c.toList.drop (o + 1)).drop r.length := by rw [List.drop_drop]; congr 1; omega
    rw [h1, List.length_cons, h3]
    generalize c.toList.take o = A at *
    generalize c.toList.drop (o + 1) = B at *
    subst h2
    have e1 : (A ++ v :: B).take (A.length + 1) = A ++ [v] := by
      rw [List.take_append, List.take_of_length_le (by omega)]
      have : A.length + 1 - A.length = 1 := by omega
      rw [this]; simp
    have e2 : (A ++ v :: B).drop (A.length + 1 + r.length) = B.drop r.length := by
      rw [List.drop_append, List.drop_eq_nil_of_le (by omega)]
      have : A.length + 1 + r.length - A.length = r.length + 1 := by omega
      rw [this]; simp
    rw [e1, e2]; simp
/-- An array that is filled from its head on. -/
theorem putCells_grow {c : Array Value} {L : List Value} {z : Value} {m o : Nat} (h : c.toList = L ++ List.replicate m z) (ho : o = L.length) (l : List Value) (hl : l.length ≤ m) : (putCells c o l).toList = (L ++ l) ++ List.replicate (m - l.length) z := by
  subst ho
  have hs : c.size = L.length + m := by rw [← Array.length_toList, h]; simp
  rw [putCells_toList l c _ (by omega), h]
  have e1 : (L ++ List.replicate m z).take L.length = L := by simp
  have e2 : (L ++ List.replicate m z).drop (L.length + l.length) = List.replicate (m - l.length) z := by
    rw [List.drop_append, List.drop_eq_nil_of_le (by omega)]
    have : L.length + l.length - L.length = l.length := by omega
    rw [this]; simp
  rw [e1, e2]
theorem putCells_extract (c : Array Value) (o : Nat) (l : List Value) (h : o + l.length ≤ c.size) : ((putCells c o l).extract 0 (o + l.length)).toList = (c.extract 0 o).toList ++ l := by
  rw [Array.toList_extract, putCells_toList l c o h, Array.toList_extract]
  simp only [List.extract_eq_take_drop, Nat.sub_zero, List.drop_zero]
  rw [List.take_append_of_le_length (by simp; omega), List.take_of_length_le (by simp; omega)]
theorem zeroCells_size (z : Array Value) (n : Nat) : (Builtin.zeroCells z n).size = n * z.size := by simp [Builtin.zeroCells]

/-- 'append' of what a slice or a string holds. -/
theorem Lt_append {t1 t2 E : TypeId} {w by_ : Nat} {z : Value} {d2 : TypeDesc} (hu : P.underlying t1 = some (.slice E)) (hu2 : P.underlying t2 = some d2) (hd2 : ∀ k, d2 ≠ .int k) (hw : szOf P E = some w) (hby : byOf P E = some by_) (hby0 : 0 < by_)
    (hz : zrOf P E = some (some z)) (hzw : z.cells.size = w) (ty : TypeId) {v x : Value} {n m : Nat} {cs ds : List Value} {rs : Option Nat} (hv : OwnS H E w v n cs rs)
    (hlen : ∀ K : Nat → Hp → Prop, Lt P (Builtin.lenOf x) H K = K m H) (hx : ∀ K : Array Value → Hp → Prop, Lt P (Builtin.firstCells w m x) H K = K ds.toArray H) (hm : m * w = ds.length) (hp : PlainL ds)
    (hroom : (4 * (n + m) + 2000) * by_ ≤ 281474976710656) {K : Value → Hp → Prop}
    (h : ∀ v' H' rs', Grow H rs H' → OwnS H' E w v' (n + m) (cs ++ ds) rs' → (∀ r, rs' = some r → rs = some r ∨ H r = none) → K v' H') : Lt P (Builtin.append_ #[t1, t2] ty #[v, x]) H K := by
  obtain ⟨inf, hinf, hib⟩ : ∃ i, P.info? E = some i ∧ i.bytes = by_ := by
    unfold byOf at hby
    cases hi : P.info? E with
    | none => rw [hi] at hby; cases hby
    | some i => rw [hi] at hby; exact ⟨i, rfl, by simpa using hby⟩
  have hnot : (match d2 with | .int _ => true | _ => false) = false := by cases d2 <;> first | rfl | exact absurd rfl (hd2 _)
  obtain ⟨hn, hv⟩ := hv
  have hcase : ∃ (base : Option Addr) (sLen sCap : Nat), v = .slice base sLen sCap ∧ sLen = n ∧ n ≤ sCap ∧
      ((base = none ∧ n = 0 ∧ sCap = 0 ∧ rs = none) ∨ ∃ r c, base = some ⟨r, 0, none⟩ ∧ H r = some (.cells c E) ∧ c.size = sCap * w ∧ (c.extract 0 (n * w)).toList = cs ∧ rs = some r) := by
    rcases hv with ⟨rfl, rfl, h3⟩ | ⟨r, cap, c, rfl, h4, h5, h6, h7, h8⟩
    · exact ⟨none, 0, 0, rfl, rfl, Nat.le_refl _, .inl ⟨rfl, rfl, rfl, h3⟩⟩
    · exact ⟨_, n, cap, rfl, rfl, h5, .inr ⟨r, c, rfl, h4, h6, h7, h8⟩⟩
  obtain ⟨base, sLen, sCap, rfl, rfl, hcap, hb⟩ := hcase
  simp only [Builtin.append_, List.getElem?_toArray, List.getElem?_cons_zero, List.getElem?_cons_succ, l_bind, l_und, hu, hu2, orF_some, l_size, hw, l_pure, hnot, Bool.false_eq_true, if_false, hlen]
  by_cases hneed : sLen + m ≤ sCap
  · simp only [if_pos hneed, l_bind, Bool.not_false, if_true, hx]
    rcases hb with ⟨rfl, h2, h3, h4⟩ | ⟨r, c, rfl, h5, h6, h7, h8⟩
    · subst h2; subst h3
      have hm0 : m = 0 := by omega
      subst hm0
      have hds : ds = [] := by simpa using hm.symm
      have hcs : cs = [] := by simpa using hn.symm
      subst hds; subst hcs
      simp only [l_bind, l_pure]
      exact h _ _ none (.inl rfl) (.nil _ _ _) (fun r hr => by cases hr)
    · simp only [l_bind, add_mk, Nat.zero_add]
      have hle : sLen * w + m * w ≤ c.size := by rw [h6, ← Nat.add_mul]; exact Nat.mul_le_mul_right w hneed
      have key := storeCells_lt (P := P) (b := r) (t := E) (f := (0, 0)) (o := sLen * w) ds 0 H c (fun _ H' => Lt P (pure (Value.slice (some ⟨r, 0, none⟩) (sLen + m) sCap)) H' K) h5 hp (by omega) (fun j _ _ => by omega)
      rw [key]
      simp only [l_pure, Nat.add_zero]
      refine h _ _ (some r) (.inr ⟨r, _, .inl h8, rfl⟩) ⟨by rw [Nat.add_mul, List.length_append]; omega, .inr ⟨r, sCap, _, rfl, upd_same _ _ _, hneed, by simpa using h6, ?_, rfl⟩⟩ (fun r' hr' => by cases hr'; exact .inl h8)
      have e : (sLen + m) * w = sLen * w + ds.length := by rw [Nat.add_mul, hm]
      rw [e, putCells_extract c (sLen * w) ds (by omega), h7]
  · simp only [if_neg hneed]
    have hbytes : ¬ (((sLen + m : Nat) : Int) > IntKind.i64.max) := by
      have h1 : IntKind.i64.max = 9223372036854775807 := by decide
      rw [h1]
      have h2 : 4 * (sLen + m) + 2000 ≤ (4 * (sLen + m) + 2000) * by_ := Nat.le_mul_of_pos_right _ hby0
      omega
    have hcapb : ¬ (Builtin.nextslicecap (sLen + m) sCap * by_ > 2 ^ 48) := by
      have h1 := nextcap_le (sLen + m) sCap (by omega)
      have h2 := Nat.mul_le_mul_right by_ h1
      omega
    have hb0 : ¬ by_ = 0 := by omega
    have hfirst : ∀ (K : Array Value → Hp → Prop), Lt P (Builtin.firstCells w sLen (.slice base sLen sCap)) H K = K cs.toArray H := by
      intro K
      refine first_slice (n := sLen) ⟨hn, ?_⟩ K
      rcases hb with ⟨rfl, h2, h3, h4⟩ | ⟨r, c, rfl, h5, h6, h7, h8⟩
      · subst h2; exact .inl ⟨_, _, rfl, rfl⟩
      · exact .inr ⟨r, 0, sCap, c, E, (0, 0), rfl, h5, by rw [h6]; have := Nat.mul_le_mul_right w hcap; omega, by simpa using h7⟩
    simp only [l_bind, l_info, hinf, orF_some, hib, if_neg (fun hh => hbytes hh.1 : ¬ (((sLen + m : Nat) : Int) > IntKind.i64.max ∧ (False ∨ by_ = 0))), if_neg hcapb]
    refine ⟨fun hf => by simp [Question.forced] at hf, fun _ t => ?_⟩
    generalize hnc : (Question.appendCap (sLen + m) sCap E).cut t = nc
    have hncge : sLen + m ≤ nc := by subst hnc; simp only [Question.cut]; omega
    have hask : ∀ (H : Hp) (K : Unit → Hp → Prop), Lt P (askRoom (nc * by_)) H K = K () H := by
      intro H K; unfold askRoom; split <;> rfl
    simp only [Sem.pure, l_pure', l_bind, l_info, hinf, orF_some, hib, hask, hfirst, Bool.not_false, if_true, hx, l_zero, hz, l_newRow, l_pure]
    intro r hr
    have hsz : (cs.toArray ++ ds.toArray ++ Builtin.zeroCells z.cells (nc - (sLen + m))).size = nc * w := by
      simp only [Array.size_append, zeroCells_size, hzw, List.size_toArray]
      rw [← hn, ← hm, ← Nat.add_mul, ← Nat.add_mul]; congr 1; omega
    refine h _ _ (some r) (.inr ⟨r, _, .inr hr, rfl⟩) ⟨by rw [Nat.add_mul, List.length_append]; omega, .inr ⟨r, nc, _, rfl, upd_same _ _ _, hncge, hsz, ?_, rfl⟩⟩ (fun r' hr' => by cases hr'; exact .inr hr)
    rw [Array.toList_extract, List.extract_eq_take_drop]
    simp only [Array.toList_append, Nat.sub_zero, List.drop_zero]
    have hl : (sLen + m) * w = (cs ++ ds).length := by rw [Nat.add_mul, List.length_append]; omega
    rw [hl, List.take_append_of_le_length (Nat.le_refl _), List.take_of_length_le (Nat.le_refl _)]

/-- 'append' where there is room. -/
theorem Lt_appendRoom {t1 t2 E : TypeId} {w : Nat} {d2 : TypeDesc} (hu : P.underlying t1 = some (.slice E)) (hu2 : P.underlying t2 = some d2) (hd2 : ∀ k, d2 ≠ .int k) (hw : szOf P E = some w) (ty : TypeId) {b o n cap m : Nat} {c : Array Value} {T : TypeId} {f : Nat × Nat} {x : Value} {ds : List Value}
    (hb : H b = some (.cells c T f)) (hc : o + cap * w ≤ c.size) (hlen : ∀ K : Nat → Hp → Prop, Lt P (Builtin.lenOf x) H K = K m H) (hx : ∀ K : Array Value → Hp → Prop, Lt P (Builtin.firstCells w m x) H K = K ds.toArray H) (hm : m * w = ds.length) (hp : PlainL ds) (hf : f.2 ≤ f.1) (hroom : n + m ≤ cap) {K : Value → Hp → Prop}
    (h : K (.slice (some ⟨b, o, none⟩) (n + m) cap) (H.upd b (.cells (putCells c (o + n * w) ds) T f))) : Lt P (Builtin.append_ #[t1, t2] ty #[.slice (some ⟨b, o, none⟩) n cap, x]) H K := by
  have hnot : (match d2 with | .int _ => true | _ => false) = false := by cases d2 <;> first | rfl | exact absurd rfl (hd2 _)
  simp only [Builtin.append_, List.getElem?_toArray, List.getElem?_cons_zero, List.getElem?_cons_succ, l_bind, l_und, hu, hu2, orF_some, l_size, hw, l_pure, hnot, Bool.false_eq_true, if_false, hlen]
  simp only [if_pos hroom, l_bind, Bool.not_false, if_true, hx, add_mk]
  have hle : n * w + m * w ≤ cap * w := by rw [← Nat.add_mul]; exact Nat.mul_le_mul_right w hroom
  have key := storeCells_lt (P := P) (b := b) (t := T) (f := f) (o := o + n * w) ds 0 H c (fun _ H' => Lt P (pure (Value.slice (some ⟨b, o, none⟩) (n + m) cap)) H' K) hb hp (by omega) (fun j _ _ => by omega)
  rw [key]
  simp only [l_pure, Nat.add_zero]
  exact h
theorem putCells_all (c : Array Value) (l : List Value) (h : l.length = c.size) : putCells c 0 l = l.toArray := by
  apply Array.ext'
  rw [putCells_toList _ _ _ (by omega), List.drop_eq_nil_of_le (by simp; omega)]; simp
theorem fill_one {place : Nat → Option (Nat × Nat)} {c : Array Value} {i off : Nat} {v : Value} {r : List (Nat × Value)} (hp : place i = some (off, 1)) (hv : v.cells = #[v]) (ho : off < c.size) : Instr.fill place c ((i, v) :: r) = Instr.fill place (c.setIfInBounds off v) r := by
  simp only [Instr.fill, hp, hv]
  rw [if_neg (by simp; omega)]
  simp [List.zipIdx]
theorem fill_nil {place : Nat → Option (Nat × Nat)} {c : Array Value} : Instr.fill place c [] = some c := rfl
/-- 'copy' into known cells. -/
theorem Lt_copy {t1 t2 E : TypeId} {w : Nat} (hu : P.underlying t1 = some (.slice E)) (hw : szOf P E = some w) (ty : TypeId) {b o dLen cap n : Nat} {c : Array Value} {T : TypeId} {f : Nat × Nat} {x : Value} {cs : List Value}
    (hb : H b = some (.cells c T f)) (hc : o + dLen * w ≤ c.size) (hlen : ∀ K : Nat → Hp → Prop, Lt P (Builtin.lenOf x) H K = K n H)
    (hx : ∀ K : Array Value → Hp → Prop, Lt P (Builtin.firstCells w (Nat.min n dLen) x) H K = K cs.toArray H) (hm : cs.length = Nat.min n dLen * w) (hp : PlainL cs) (hf : f.2 ≤ f.1) {K : Value → Hp → Prop}
    (h : K (.int .i64 (Nat.min n dLen : Nat)) (H.upd b (.cells (putCells c o cs) T f))) : Lt P (Builtin.copy_ #[t1, t2] ty #[.slice (some ⟨b, o, none⟩) dLen cap, x]) H K := by
  simp only [Builtin.copy_, List.getElem?_toArray, List.getElem?_cons_zero, List.getElem?_cons_succ, l_bind, l_und, hu, orF_some, hlen, l_size, hw, hx]
  have hle : cs.length ≤ dLen * w := by rw [hm]; exact Nat.mul_le_mul_right w (Nat.min_le_right _ _)
  have key := storeCells_lt (P := P) (b := b) (t := T) (f := f) (o := o) cs 0 H c (fun _ H' => K (goInt (Nat.min n dLen : Nat)) H') hb hp (by omega) (fun j _ _ => by omega)
  simp only [l_pure, l_bind] at key ⊢
  rw [key]
  exact h
theorem len_slice (a : Option Addr) (n c : Nat) (K : Nat → Hp → Prop) : Lt P (Builtin.lenOf (.slice a n c)) H K = K n H := rfl
theorem len_string (s : ByteArray) (K : Nat → Hp → Prop) : Lt P (Builtin.lenOf (.string s)) H K = K s.size H := rfl
theorem first_holds {w n m : Nat} {v : Value} {cs : List Value} (h : Holds H w v n cs) (hm : m ≤ n) (K : Array Value → Hp → Prop) : Lt P (Builtin.firstCells w m v) H K = K (cs.take (m * w)).toArray H := by
  obtain ⟨h1, ⟨a, cap, rfl, rfl⟩ | ⟨b, o, cap, c, T, f, rfl, hb, hn, hc⟩⟩ := h
  · have : cs = [] := by simpa using h1.symm
    have hm0 : m = 0 := by omega
    subst this; subst hm0; cases a with
    | none => simp [Builtin.firstCells, l_pure]
    | some a => simp only [Builtin.firstCells, Nat.zero_mul]; rfl
  · have h2 := Nat.mul_le_mul_right w hm
    simp only [Builtin.firstCells, loadCells_lt hb o (m * w) (by omega)]
    have : c.extract o (o + m * w) = (cs.take (m * w)).toArray := by
      rw [← hc]; apply Array.ext'
      simp only [Array.toList_extract, List.extract_eq_take_drop]
      rw [List.take_take]; congr 1; omega
    rw [this]
theorem len_holds {w n : Nat} {v : Value} {cs : List Value} (h : Holds H w v n cs) (K : Nat → Hp → Prop) : Lt P (Builtin.lenOf v) H K = K n H := by
  obtain ⟨_, ⟨a, cap, rfl, rfl⟩ | ⟨b, o, cap, c, T, f, rfl, _⟩⟩ := h <;> rfl
/-- 'make' of a slice. -/
theorem Lt_makeSlice {t E : TypeId} {w by_ : Nat} {z : Value} (hu : P.underlying t = some (.slice E)) (hw : szOf P E = some w) (hby : byOf P E = some by_) (hz : zrOf P E = some (some z)) (hzw : z.cells.size = w) {k k' : IntKind} {l c : Int} (h0 : 0 ≤ l) (h1 : l ≤ c) (h2 : by_ * c ≤ 281474976710656) (h3 : c ≤ 281474976710656) {K : Value → Hp → Prop}
    (h : ∀ r, H r = none → K (.slice (some ⟨r, 0, none⟩) l.toNat c.toNat) (H.upd r (.cells (Builtin.zeroCells z.cells c.toNat) E))) : Lt P (Instr.makeSlice t (.int k l) (.int k' c)) H K := by
  obtain ⟨inf, hinf, hib⟩ : ∃ i, P.info? E = some i ∧ i.bytes = by_ := by
    unfold byOf at hby
    cases hi : P.info? E with
    | none => rw [hi] at hby; cases hby
    | some i => rw [hi] at hby; exact ⟨i, rfl, by simpa using hby⟩
  have hl : IntKind.i64.wrap l = l := wrap_i64 l (by omega) (by omega)
  have hc : IntKind.i64.wrap c = c := wrap_i64 c (by omega) (by omega)
  have hlarge : ¬ ((by_ : Int) * c > 2 ^ 48) := by omega
  have hask : ∀ (x : Nat) (H : Hp) (K : Unit → Hp → Prop), Lt P (askRoom x) H K = K () H := by
    intro x H K; unfold askRoom; split <;> rfl
  simp only [Instr.makeSlice, l_bind, l_und, hu, orF_some, l_asInt, l_info, hinf, hib, hl, hc]
  rw [if_neg (by simp only [Bool.or_eq_true, decide_eq_true_eq]; omega)]
  simp only [l_bind, hask, l_size, hw, orF_some]
  by_cases hn : c.toNat * w = 0
  · simp only [if_pos hn, l_pure, l_bind, l_newRow]
    intro r hr
    have := h r hr
    have e : Builtin.zeroCells z.cells c.toNat = #[] := by apply Array.eq_empty_of_size_eq_zero; rw [zeroCells_size, hzw]; exact hn
    rw [e] at this
    have e0 : ∀ f : Nat → Value, (Array.range 0).map f = #[] := fun f => by apply Array.eq_empty_of_size_eq_zero; simp
    rw [hn, e0]; exact this
  · simp only [if_neg hn, l_pure, l_bind, l_zero, hz, orF_some, l_newRow]
    intro r hr
    have := h r hr
    simp only [Builtin.zeroCells, hzw] at this ⊢
    exact this

/-! ### addresses of elements, cuts -/
theorem Lt_indexS {t e : TypeId} {n : Nat} (hu : P.underlying t = some (.slice e)) (hw : szOf P e = some n) {a : Addr} {len cap : Nat} {k : IntKind} {i : Int} (h0 : 0 ≤ i) (h1 : i < len) {K : Value → Hp → Prop}
    (h : K (.pointer (some (a.add (i.toNat * n)))) H) : Lt P (Instr.indexAt t (.slice (some a) len cap) (.int k i)) H K := by
  rw [i_indexSlice t e hu a len cap k i h0 h1, hw, orF_some]; exact h
theorem Lt_indexA {t e : TypeId} {m n : Nat} (hu : P.underlying t = some (.array m e)) (hw : szOf P e = some n) {a : Addr} {k : IntKind} {i : Int} (h0 : 0 ≤ i) (h1 : i < m) {K : Value → Hp → Prop}
    (h : K (.pointer (some (a.add (i.toNat * n)))) H) : Lt P (Instr.indexAt t (.pointer (some a)) (.int k i)) H K := by
  rw [i_indexArray t e m hu a k i h0 h1, hw, orF_some]; exact h
theorem bound_some {k : IntKind} {i : Int} {d : Nat} (h : 0 ≤ i) : bound (some (.int k i)) d = some i.toNat := by simp [bound, h]
theorem bound_none {d : Nat} : bound none d = some d := rfl
theorem Lt_sliceS {t e : TypeId} {s : Nat} (hu : P.underlying t = some (.slice e)) (hw : szOf P e = some s) {a : Option Addr} {len cap : Nat} {lo hi mx : Option Value} {l h m : Nat} (hm : bound mx cap = some m) (hh : bound hi len = some h) (hl : bound lo 0 = some l) (h1 : l ≤ h) (h2 : h ≤ m) (h3 : m ≤ cap) (h4 : mx.isSome = true → hi.isSome = true) {K : Value → Hp → Prop}
    (hK : K (.slice (if m = l then a else a.map (·.add (l * s))) (h - l) (m - l)) H) : Lt P (Instr.sliceAt t (.slice a len cap) lo hi mx) H K := by
  rw [i_sliceSlice t e hu a len cap lo hi mx l h m hm hh hl h1 (fun _ => h2) (fun hx => ⟨h3, h4 hx⟩), hw, orF_some]; exact hK
theorem Lt_sliceA {t e : TypeId} {n s : Nat} (hu : P.underlying t = some (.array n e)) (hw : szOf P e = some s) {a : Addr} {lo hi mx : Option Value} {l h m : Nat} (hm : bound mx n = some m) (hh : bound hi n = some h) (hl : bound lo 0 = some l) (h1 : l ≤ h) (h2 : h ≤ m) (h3 : m ≤ n) (h4 : mx.isSome = true → hi.isSome = true) {K : Value → Hp → Prop}
    (hK : K (.slice (some (if m = l then a else a.add (l * s))) (h - l) (m - l)) H) : Lt P (Instr.sliceAt t (.pointer (some a)) lo hi mx) H K := by
  rw [i_sliceArray t e n hu a lo hi mx l h m hm hh hl h1 (fun _ => h2) (fun hx => ⟨h3, h4 hx⟩), hw, orF_some]; exact hK
theorem Lt_sliceStr {t : TypeId} (hu : P.underlying t = some .string) {s : ByteArray} {lo hi : Option Value} {l h : Nat} (hh : bound hi s.size = some h) (hl : bound lo 0 = some l) (h1 : l ≤ h) (h2 : h ≤ s.size) {K : Value → Hp → Prop}
    (hK : K (.string (s.extract l h)) H) : Lt P (Instr.sliceAt t (.string s) lo hi none) H K := by
  rw [i_sliceString t hu s lo hi l h hh hl h1 h2]; exact hK
theorem Lt_indexStr {t : TypeId} (hu : P.underlying t = some .string) {s : ByteArray} {k : IntKind} {i : Int} (h0 : 0 ≤ i) {b : UInt8} (h1 : s[i.toNat]? = some b) {K : Value → Hp → Prop}
    (h : K (.int .u8 b.toNat) H) : Lt P (Instr.index t (.string s) (.int k i)) H K := by
  rw [i_indexString t hu s k i h0 b h1]; exact h
/-- A cut of what is known. -/
theorem Holds.slice {H : Hp} {w : Nat} {a : Option Addr} {n cap : Nat} {cs : List Value} (hh : Holds H w (.slice a n cap) n cs) {l h m : Nat} (h1 : l ≤ h) (h2 : h ≤ n) (h0 : h ≤ m) : Holds H w (.slice (if m = l then a else a.map (·.add (l * w))) (h - l) (m - l)) (h - l) ((cs.drop (l * w)).take ((h - l) * w)) := by
  obtain ⟨h3, ⟨a0, cap', h4, h5⟩ | ⟨b, o, cap', c, T, f, h4, h5, h6, h7⟩⟩ := hh
  · cases h4
    have : cs = [] := by simpa using h3.symm
    subst this
    have e0 : h - l = 0 := by omega
    refine ⟨by rw [e0]; simp, .inl ⟨(if m = l then a else a.map (·.add (l * w))), m - l, ?_, by omega⟩⟩
    rw [e0]
  · cases h4
    have hb := Nat.mul_le_mul_right w h2
    have hb1 := Nat.mul_le_mul_right w h1
    have hs : (h - l) * w = h * w - l * w := Nat.sub_mul h l w
    refine ⟨by rw [List.length_take, List.length_drop, ← h3, hs]; omega, .inr ?_⟩
    by_cases hm : m = l
    · by_cases he : h = l
      · subst he
        refine ⟨b, o, m - h, c, T, f, by rw [if_pos hm], h5, by simp; omega, ?_⟩
        simp
      · omega
    · refine ⟨b, o + l * w, m - l, c, T, f, by rw [if_neg hm]; simp [add_mk], h5, by rw [hs]; omega, ?_⟩
      rw [← h7, Array.toList_extract, Array.toList_extract]
      simp only [List.extract_eq_take_drop]
      rw [List.drop_take, List.take_take, List.drop_drop, hs]
      congr 1
      omega

/-! ### a slice of elements that are written out -/
theorem fill_seq (w : Nat) : ∀ (vs : List Value) (k : Nat) (c : Array Value), (∀ v ∈ vs, v.cells.size = w) → k * w + vs.length * w ≤ c.size →
    Instr.fill (fun i => some (i * w, w)) c ((vs.zipIdx k).map fun (v, i) => (i, v)) = some (putCells c (k * w) (vs.flatMap fun v => v.cells.toList))
  | [], _, _, _, _ => rfl
  | v :: r, k, c, hv, hc => by
    have h1 := hv v (by simp)
    simp only [List.length_cons, Nat.add_mul, Nat.one_mul] at hc
    simp only [List.zipIdx_cons, List.map_cons, Instr.fill]
    rw [if_neg (by simp [h1]; omega)]
    have key : ∀ (l : List Value) (c : Array Value) (o j : Nat), (l.zipIdx j).foldl (fun cs (c, j) => cs.setIfInBounds (o + j) c) c = putCells c (o + j) l := by
      intro l
      induction l with
      | nil => intro c o j; rfl
      | cons u l ih => intro c o j; simp only [List.zipIdx_cons, List.foldl_cons, putCells]; rw [ih]; rfl
    have h2 : Array.foldl (fun cs (x : Value × Nat) => match x with | (c, j) => cs.setIfInBounds (k * w + j) c) c v.cells.zipIdx = putCells c (k * w) v.cells.toList := by
      rw [← Array.foldl_toList, Array.toList_zipIdx]
      exact key _ _ _ _
    rw [h2, fill_seq w r (k + 1) _ (fun u hu => hv u (by simp [hu])) (by rw [putCells_size, Nat.add_mul]; omega)]
    have h3 : ∀ (a b : List Value) (c : Array Value) (o : Nat), putCells (putCells c o a) (o + a.length) b = putCells c o (a ++ b) := by
      intro a
      induction a with
      | nil => intro b c o; rfl
      | cons u a ih => intro b c o; simp only [putCells, List.cons_append, List.length_cons]; rw [← ih]; congr 1; omega
    have h4 : (k + 1) * w = k * w + v.cells.toList.length := by rw [Nat.add_mul]; simp [h1]
    rw [h4, h3]; rfl
theorem Lt_buildSlice {t E : TypeId} {w : Nat} {z : Value} (hu : P.underlying t = some (.slice E)) (hw : szOf P E = some w) (hz : zrOf P E = some (some z)) (hzw : z.cells.size = w) (vs : List Value) (hv : ∀ v ∈ vs, v.cells.size = w) (hl : vs.length * w ≤ 16777216) {K : Value → Hp → Prop}
    (h : ∀ r, H r = none → K (.slice (some ⟨r, 0, none⟩) vs.length vs.length) (H.upd r (.cells (vs.flatMap fun v => v.cells.toList).toArray E))) : Lt P (Instr.buildSlice t vs.length (((vs.zipIdx 0).map fun (v, i) => (i, v)).toArray)) H K := by
  simp only [Instr.buildSlice, l_bind, l_und, hu, orF_some, l_size, hw]
  rw [if_neg (by omega)]
  have hflat : (vs.flatMap fun v => v.cells.toList).length = vs.length * w := by
    clear h hl
    induction vs with
    | nil => simp
    | cons v r ih => simp only [List.flatMap_cons, List.length_append, List.length_cons, Nat.add_mul, Nat.one_mul]; rw [ih (fun u hu => hv u (by simp [hu]))]; have := hv v (by simp); simp [this]; omega
  have fin : ∀ c : Array Value, c.size = vs.length * w → Lt P (do
      let some cells := Instr.fill (fun i => some (i * w, w)) c (((vs.zipIdx 0).map fun (v, i) => (i, v)).toArray).toList | stuck "buildSlice: a part of the wrong size"
      pure (.slice (some (← newRow E cells)) vs.length vs.length)) H K := by
    intro c hc
    have := fill_seq w vs 0 c hv (by omega)
    simp only [Nat.zero_mul] at this
    simp only [List.toList_toArray, this, l_bind, l_newRow, l_pure]
    intro r hr
    have h1 := h r hr
    have e : putCells c 0 (vs.flatMap fun v => v.cells.toList) = (vs.flatMap fun v => v.cells.toList).toArray := by
      apply Array.ext'
      rw [putCells_toList _ c 0 (by omega), List.drop_eq_nil_of_le (by rw [hflat]; simp; omega)]; simp
    rw [e]; exact h1
  by_cases hn : vs.length * w = 0
  · simp only [if_pos hn, l_pure, l_bind]
    exact fin _ (by simp)
  · simp only [if_neg hn, l_bind, l_zero, hz, orF_some, l_pure]
    exact fin _ (by simp)
end
end Go.Proofs.Ytlkopcgoaldpeaa.HL
