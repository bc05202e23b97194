/- Parts of the proof, one behind the other: I19, I13, I21, I40, I41, I42, I43, I44, I45, I50, I46, I47, I51, I52. -/
import Derived.Test.YtcjdkfhmlnfedaaX3
set_option linter.unusedSimpArgs false
set_option linter.unusedVariables false
section
namespace Go.Proofs.Ytcjdkfhmlnfedaa.HL
open Go Go.Proofs
set_option linter.unusedSimpArgs false
set_option linter.unusedVariables false
attribute [local irreducible] Lt Lq CW OW TW CallH


def okN (n : Int) : Bool := decide (1 ≤ n) && decide (n ≤ 4096)
def newDv (n : Int) : Dv := ⟨n, fun _ => Sec.zero, []⟩
def newSt (l : List Int) : St := ⟨0, 0, false, false, l.map newDv⟩
def goodN (l : List Int) : Bool := decide (1 ≤ l.length) && decide (l.length ≤ 5) && l.all okN
/-- so many devices of a new set -/
structure NX (H0 H : Hp) (p : Nat) (l : List Int) (k : Nat) (v : Value) (rs : Option Nat) (bs : List Nat) (Fs : Nat → Hp) : Prop where
  hd : H p = some (.cells #[.int .i64 0, .int .i64 0, .bool false, .bool false, v] 78)
  len : bs.length = k
  own : OwnS H 79 1 v k (bs.map ptrV) rs
  dev : ∀ i, i < k → DvX (Fs i) (bs.getD i 0) (newDv (l.getD i default))
  le : ∀ i, i < k → Le (Fs i) H
  fp : ∀ i, i < k → Fs i p = none ∧ ∀ r, rs = some r → Fs i r = none
  sep : ∀ i j, i < k → j < k → i ≠ j → ∀ x, Fs i x ≠ none → Fs j x = none
  fr : ∀ i, i < k → ∀ x, Fs i x ≠ none → H0 x = none
  frr : ∀ r, rs = some r → H0 r = none
  frp : H0 p = none
  old : Le H0 H


theorem good_bad {l : List Int} {k : Nat} (hk : k < l.length) (h : okN (l.getD k default) = false) : goodN l = false := by
  unfold goodN
  have : l.all okN = false := by
    rw [List.all_eq_false]
    rw [List.getD_eq_getElem?_getD, List.getElem?_eq_getElem hk] at h
    exact ⟨l[k], List.getElem_mem hk, by simpa using h⟩
  rw [this]; simp
theorem good_all {l : List Int} (h1 : 1 ≤ l.length) (h2 : l.length ≤ 5) (h : ∀ j, j < l.length → okN (l.getD j default) = true) : goodN l = true := by
  unfold goodN
  have : l.all okN = true := by
    rw [List.all_eq_true]
    intro x hx
    obtain ⟨j, hj, rfl⟩ := List.mem_iff_getElem.1 hx
    have := h j hj
    rwa [List.getD_eq_getElem?_getD, List.getElem?_eq_getElem hj] at this
  rw [this]; simp [h1, h2]
theorem ints_get {l : List Int} {c : Array Value} {o n : Nat} (h : ∀ j, j < n * 1 → c[o + j]? = (l.map (Value.int .i64))[j]?) (hn : n = l.length) (k : Nat) (hk : k < l.length) : c[o + k]? = some (.int .i64 (l.getD k default)) := by
  rw [h k (by omega), List.getElem?_map, List.getElem?_eq_getElem hk, List.getD_eq_getElem?_getD, List.getElem?_eq_getElem hk]; rfl
theorem NX.ne {H0 H : Hp} {p : Nat} {l : List Int} {k : Nat} {v : Value} {rs : Option Nat} {bs : List Nat} {Fs : Nat → Hp} (h : NX H0 H p l k v rs bs Fs) : rs ≠ some p := fun e => by
  obtain ⟨_, ⟨_, _, h0⟩ | ⟨r', cc, c', _, g2, _, _, _, g3⟩⟩ := h.own
  · rw [e] at h0; cases h0
  · rw [e] at g3; cases g3; rw [h.hd] at g2; injection g2 with g2; injection g2 with _ g2; revert g2; decide
theorem NX.next {H0 H HF : Hp} {p : Nat} {l : List Int} {k : Nat} {v : Value} {rs : Option Nat} {bs : List Nat} {Fs : Nat → Hp} (h : NX H0 H p l k v rs bs Fs) {bm b : Nat} (hm : H bm = none) (hb : H b = none) (hmb : bm ≠ b) {v' : Value} {rs' : Option Nat}
    (hhd : HF p = some (.cells #[.int .i64 0, .int .i64 0, .bool false, .bool false, v'] 78)) (hown : OwnS HF 79 1 v' (k + 1) (bs.map ptrV ++ [ptrV b]) rs') (hfm : HF bm = some (.map #[] 0)) (hfb : HF b = some (.cells #[.int .i64 (l.getD k default), .map (some bm), .slice none 0 0] 83))
    (hkeep : ∀ x o, H x = some o → x ≠ p → rs ≠ some x → HF x = some o) (hr : ∀ r, rs' = some r → rs = some r ∨ (H r = none ∧ r ≠ bm ∧ r ≠ b)) :
    NX H0 HF p l (k + 1) v' rs' (bs ++ [b]) (fun i => if i = k then (emptyHp.upd bm (.map #[] 0)).upd b (.cells #[.int .i64 (l.getD k default), .map (some bm), .slice none 0 0] 83) else Fs i) := by
  have dF : ∀ x, ((emptyHp.upd bm (.map #[] 0)).upd b (.cells #[.int .i64 (l.getD k default), .map (some bm), .slice none 0 0] 83)) x ≠ none → x = bm ∨ x = b := fun x hx => by
    by_cases e : x = b
    · exact .inr e
    · by_cases e2 : x = bm
      · exact .inl e2
      · rw [upd_ne _ _ e, upd_ne _ _ e2] at hx; exact absurd rfl hx
  have dn : ∀ x, H x ≠ none → ((emptyHp.upd bm (.map #[] 0)).upd b (.cells #[.int .i64 (l.getD k default), .map (some bm), .slice none 0 0] 83)) x = none := fun x hx => by
    rw [upd_ne _ _ (fun e => by subst e; exact hx hb), upd_ne _ _ (fun e => by subst e; exact hx hm)]; rfl
  have hkp : ∀ i, i < k → ∀ x, Fs i x ≠ none → H x ≠ none := fun i hi x hx hn => hx (none_of_le (h.le i hi) hn)
  refine ⟨hhd, by simp [h.len], by rw [List.map_append]; exact hown, fun i hi => ?_, fun i hi => ?_, fun i hi => ?_, fun i j hi hj hij x hx => ?_, fun i hi x hx => ?_, fun r e => ?_, h.frp, fun x o hx => hkeep x o (h.old x o hx) (fun e => by subst e; rw [h.frp] at hx; cases hx) (fun e => by rw [h.frr x e] at hx; cases hx)⟩
  · by_cases e : i = k
    · subst e
      simp only [if_true]
      have eb : (bs ++ [b]).getD i 0 = b := by rw [← h.len]; simp [List.getD_eq_getElem?_getD]
      rw [eb]
      exact ⟨bm, #[], 0, .slice none 0 0, none, upd_same _ _ _, (upd_ne _ _ hmb).trans (upd_same _ _ _), MapS.nil, OwnS.nil _ _ _, fun x hx => (dF x hx).elim (fun e => .inr (.inl e)) .inl⟩
    · simp only [if_neg e]
      have eb : (bs ++ [b]).getD i 0 = bs.getD i 0 := by
        rw [List.getD_eq_getElem?_getD, List.getD_eq_getElem?_getD, List.getElem?_append_left (by rw [h.len]; omega)]
      rw [eb]; exact h.dev i (by omega)
  · by_cases e : i = k
    · subst e; simp only [if_true]; exact le_put (le_put (le_empty _) hfm) hfb
    · simp only [if_neg e]
      have hi' : i < k := by omega
      exact fun x o hx => hkeep x o (h.le i hi' x o hx) (fun e => by subst e; rw [(h.fp i hi').1] at hx; cases hx) (fun e => by rw [(h.fp i hi').2 x e] at hx; cases hx)
  · by_cases e : i = k
    · subst e; simp only [if_true]
      refine ⟨dn p (by rw [h.hd]; simp), fun r e => ?_⟩
      rcases hr r e with h1 | ⟨_, h1, h2⟩
      · exact dn r (h.own.known r h1)
      · rw [upd_ne _ _ h2, upd_ne _ _ h1]; rfl
    · simp only [if_neg e]
      have hi' : i < k := by omega
      refine ⟨(h.fp i hi').1, fun r e => ?_⟩
      rcases hr r e with h1 | ⟨h1, _, _⟩
      · exact (h.fp i hi').2 r h1
      · exact none_of_le (h.le i hi') h1
  · by_cases e : i = k
    · subst e
      simp only [if_true] at hx
      simp only [if_neg (Ne.symm hij)]
      refine none_of_le (h.le j (by omega)) ?_
      rcases dF x hx with rfl | rfl
      · exact hm
      · exact hb
    · simp only [if_neg e] at hx
      by_cases e2 : j = k
      · subst e2; simp only [if_true]; exact dn x (hkp i (by omega) x hx)
      · simp only [if_neg e2]; exact h.sep i j (by omega) (by omega) hij x hx
  · by_cases e : i = k
    · subst e
      simp only [if_true] at hx
      refine none_of_le h.old ?_
      rcases dF x hx with rfl | rfl
      · exact hm
      · exact hb
    · simp only [if_neg e] at hx; exact h.fr i (by omega) x hx
  · rcases hr r e with h1 | ⟨h1, _, _⟩
    · exact h.frr r h1
    · exact none_of_le h.old h1
theorem NX.done {H0 H : Hp} {p : Nat} {l : List Int} {v : Value} {rs : Option Nat} {bs : List Nat} {Fs : Nat → Hp} (h : NX H0 H p l l.length v rs bs Fs) (hl : 1 ≤ l.length) : ∃ F, SetX F p (newSt l) ∧ Le F H ∧ ∀ x, F x ≠ none → H0 x = none := by
  have hn : (newSt l).dv.length = l.length := by simp [newSt]
  obtain ⟨r, cap, rfl, rfl⟩ : ∃ r cap, v = .slice (some ⟨r, 0, none⟩) l.length cap ∧ rs = some r := by
    obtain ⟨_, ⟨_, h0, _⟩ | ⟨r', cc, c', g1, _, _, _, _, g3⟩⟩ := h.own
    · omega
    · exact ⟨r', cc, g1, g3⟩
  have hs : SX H p (newSt l) r cap bs Fs := by
    refine ⟨by rw [hn]; exact h.hd, by rw [hn]; exact h.len, by rw [hn]; exact h.own, ?_, by rw [hn]; exact h.le, ?_, by rw [hn]; exact h.sep⟩
    · rw [hn]
      intro i hi
      have e : (newSt l).dv.getD i default = newDv (l.getD i default) := by
        simp [newSt, List.getD_eq_getElem?_getD, List.getElem?_eq_getElem hi]
      rw [e]; exact h.dev i hi
    · rw [hn]; exact fun i hi => ⟨(h.fp i hi).1, (h.fp i hi).2 r rfl⟩
  obtain ⟨F, hF, hS, hd⟩ := hs.cut
  refine ⟨F, ⟨_, _, _, _, hS⟩, hF, fun x hx => ?_⟩
  rcases hd x hx with rfl | rfl | ⟨i, hi, hx⟩
  · exact h.frp
  · exact h.frr x rfl
  · rw [hn] at hi; exact h.fr i hi x hx

set_option maxRecDepth 100000 in
set_option maxHeartbeats 8000000 in
theorem new_ok (H : Hp) (a : Option Addr) (cap : Nat) (l : List Int) (hv : Holds H 1 (.slice a l.length cap) l.length (l.map (Value.int .i64))) (hl : l.length ≤ 1000) : CallH Try.prog 9 #[.slice a l.length cap] H (fun v H' => (goodN l = false ∧ v = .tuple #[.pointer none, errV (some 1)] ∧ H' = H) ∨ (goodN l = true ∧ Le H H' ∧ ∃ p, v = .tuple #[ptrV p, errV none] ∧ ∃ F, SetX F p (newSt l) ∧ Le F H' ∧ ∀ x, F x ≠ none → H x = none)) := by
  refine CallH_enter (l := [_]) (rl := [.tmp 2, .tmp 3]) (n := 46) Try.func9 rfl rfl rfl rfl rfl ?_
  simp only [envOf, Nat.reduceAdd]
  refine CW_seq (fun K1 hK1 => ?_)
  refine CW_region ?_
  refine OW_as rfl ?_
  refine OW_as rfl ?_
  refine OW_nil ?_
  try simp only [Ex.thnH, Ex.inBlockH, ↓reduceIte, Nat.reduceEqDiff]
  refine hK1 _ _ ?_; try clear hK1 K1
  refine CW_seq (fun K2 hK2 => ?_)
  refine CW_seq (fun K3 hK3 => ?_)
  refine CW_region ?_
  refine OW_mv rfl ?_
  refine OW_opS (fun K hK r => ?_)
  simp only [x_builtin, l_len, List.map_toArray, List.map_cons, List.map_nil, i_len_slice _ _ Try.underlying41, eX, ↓reduceIte, Nat.reduceEqDiff, Int.reduceToNat]
  refine hK _ _ ?_; clear hK K
  refine OW_opS (fun K hK r => ?_)
  simp (disch := (first | omega | decide)) only [x_bin, g_int, b_lss, dec_lt_t, dec_lt_f, dec_le_t, dec_le_f, dec_eq_t, dec_eq_f, Bool.not_true, Bool.not_false, eX, ↓reduceIte, Nat.reduceEqDiff, Int.reduceToNat]
  refine hK _ _ ?_; clear hK K
  refine OW_mv rfl ?_
  (first | refine OW_split (d := 10) rfl (fun g10 => ?_) (fun g10 => ?_) | skip)
  all_goals try (exfalso; exact cnA g10)
  all_goals (try simp only [decide_eq_true_eq, decide_eq_false_iff_not, Bool.not_eq_true, Bool.not_eq_false, Bool.and_eq_true, Bool.or_eq_true, Bool.or_eq_false_iff, Bool.not_eq_true, Bool.not_eq_eq_eq_not, Bool.not_true, Bool.not_false] at g10)
  all_goals
    try simp only [eX, ↓reduceIte, Nat.reduceEqDiff, Int.reduceToNat]
    first
    | refine OW_guardT rfl (lt_some (by decide)) rfl (fun K hK r => ?_)
      simp only [x_move, eX, ↓reduceIte, Nat.reduceEqDiff, Int.reduceToNat]
      refine hK _ _ ?_; clear hK K
    | refine OW_guardF rfl (lt_some (by decide)) rfl ?_
      simp only [eX, ↓reduceIte, Nat.reduceEqDiff, Int.reduceToNat]
    first
    | refine OW_guardT rfl (lt_some (by decide)) rfl (fun K hK r => ?_)
      simp only [x_builtin, l_len, List.map_toArray, List.map_cons, List.map_nil, i_len_slice _ _ Try.underlying41, eX, ↓reduceIte, Nat.reduceEqDiff, Int.reduceToNat]
      refine hK _ _ ?_; clear hK K
    | refine OW_guardF rfl (lt_some (by decide)) rfl ?_
      simp only [eX, ↓reduceIte, Nat.reduceEqDiff, Int.reduceToNat]
    first
    | refine OW_guardT rfl (lt_some (by decide)) rfl (fun K hK r => ?_)
      simp (disch := (first | omega | decide)) only [x_bin, g_int, b_gtr, dec_lt_t, dec_lt_f, dec_le_t, dec_le_f, dec_eq_t, dec_eq_f, Bool.not_true, Bool.not_false, eX, ↓reduceIte, Nat.reduceEqDiff, Int.reduceToNat]
      refine hK _ _ ?_; clear hK K
    | refine OW_guardF rfl (lt_some (by decide)) rfl ?_
      simp only [eX, ↓reduceIte, Nat.reduceEqDiff, Int.reduceToNat]
    refine OW_opS (fun K hK r => ?_)
    simp only [x_pick, l_asBool, HL.ite_bool, if_true, if_false, Bool.false_eq_true, eX, ↓reduceIte, Nat.reduceEqDiff, Int.reduceToNat]
    refine hK _ _ ?_; clear hK K
    refine OW_nil ?_
    try simp only [Ex.thnH, Ex.inBlockH, ↓reduceIte, Nat.reduceEqDiff]
    refine hK3 _ _ ?_; try clear hK3 K3
    refine CW_cond (fun r => rfl) (fun c14 => ?_) (fun c14 => ?_)
    · first
      | (exfalso; exact cnA c14; done)
      | skip
        (try simp only [decide_eq_true_eq, decide_eq_false_iff_not, Bool.not_eq_true, Bool.not_eq_false, Bool.and_eq_true, Bool.or_eq_true, Bool.or_eq_false_iff, Bool.not_eq_true, Bool.not_eq_eq_eq_not, Bool.not_true, Bool.not_false] at c14)
        have hbad : goodN l = false := by unfold goodN; simp; omega
        refine CW_seq (fun K4 hK4 => ?_)
        refine CW_region ?_
        refine OW_opS (fun K hK r => ?_)
        simp only [x_makeInterface, i_makeInterface, Try.underlying73, orF_some, eX, ↓reduceIte, Nat.reduceEqDiff, Int.reduceToNat]
        refine hK _ _ ?_; clear hK K
        refine OW_as rfl ?_
        refine OW_as rfl ?_
        refine OW_nil ?_
        try simp only [Ex.thnH, Ex.inBlockH, ↓reduceIte, Nat.reduceEqDiff]
        refine hK4 _ _ ?_; try clear hK4 K4
        refine CW_ret ?_
        try simp only [Ex.thnH, Ex.inBlockH, ↓reduceIte, Nat.reduceEqDiff]
        exact ⟨[_, _], ⟨rfl, rfl, trivial⟩, _, Le.refl _, .inl ⟨hbad, rfl, rfl⟩⟩
    · first
      | (exfalso; exact cnA c14; done)
      | skip
        (try simp only [decide_eq_true_eq, decide_eq_false_iff_not, Bool.not_eq_true, Bool.not_eq_false, Bool.and_eq_true, Bool.or_eq_true, Bool.or_eq_false_iff, Bool.not_eq_true, Bool.not_eq_eq_eq_not, Bool.not_true, Bool.not_false] at c14)
        have hlen : 1 ≤ l.length ∧ l.length ≤ 5 := by omega
        refine CW_skip ?_
        try simp only [Ex.thnH, Ex.inBlockH, ↓reduceIte, Nat.reduceEqDiff]
        refine hK2 _ _ ?_; try clear hK2 K2
        refine CW_seq (fun K5 hK5 => ?_)
        refine CW_region ?_
        refine OW_opS (fun K hK r => ?_)
        simp only [x_build, bp78, List.map_toArray, List.map_cons, List.map_nil, eX, ↓reduceIte, Nat.reduceEqDiff, Int.reduceToNat]
        simp only [fill_nil, orF_some, List.setIfInBounds_toArray, List.set_cons_zero, List.set_cons_succ]
        try simp only [eX, ↓reduceIte, Nat.reduceEqDiff, Int.reduceToNat]
        refine hK _ _ ?_; clear hK K
        refine OW_opS (fun K hK r => ?_)
        simp only [x_box, Value.cells, eX, ↓reduceIte, Nat.reduceEqDiff, Int.reduceToNat]
        intro b17 hb17
        have f17_H : H b17 = none := none_of_le lhA hb17
        try simp only [eX, ↓reduceIte, Nat.reduceEqDiff, Int.reduceToNat]
        refine hK _ _ ?_; clear hK K
        refine OW_as rfl ?_
        refine OW_nil ?_
        try simp only [Ex.thnH, Ex.inBlockH, ↓reduceIte, Nat.reduceEqDiff]
        refine hK5 _ _ ?_; try clear hK5 K5
        refine CW_seq (fun K6 hK6 => ?_)
        refine CW_seq (fun K7 hK7 => ?_)
        refine CW_region ?_
        refine OW_mv rfl ?_
        refine OW_opS (fun K hK r => ?_)
        simp only [x_builtin, l_len, List.map_toArray, List.map_cons, List.map_nil, i_len_slice _ _ Try.underlying41, eX, ↓reduceIte, Nat.reduceEqDiff, Int.reduceToNat]
        refine hK _ _ ?_; clear hK K
        refine OW_mv rfl ?_
        refine OW_nil ?_
        try simp only [Ex.thnH, Ex.inBlockH, ↓reduceIte, Nat.reduceEqDiff]
        refine hK7 _ _ ?_; try clear hK7 K7
        refine CW_block ?_
        refine CW_loop (fun m e H_ => ∃ (k : Nat) (v : Value) (rs : Option Nat) (bs : List Nat) (Fs : Nat → Hp), k ≤ l.length ∧ m = l.length - k ∧ (∀ j, j < k → okN (l.getD j default) = true) ∧ NX H H_ b17 l k v rs bs Fs ∧ Env.has [(4, .pointer (some ⟨b17, 0, none⟩)), (18, .slice a l.length cap), (19, .int .i64 l.length), (20, .int .i64 k)] e) (l.length) ?_ ?_
        · skip
          refine ⟨0, .slice none 0 0, none, [], fun _ => emptyHp, by omega, by omega, (fun j hj => absurd hj (by omega)), ⟨upd_same _ _ _, rfl, OwnS.nil _ _ _, (fun i hi => absurd hi (by omega)), (fun i hi => absurd hi (by omega)), (fun i hi => absurd hi (by omega)), (fun i j hi => absurd hi (by omega)), (fun i hi => absurd hi (by omega)), (fun r hr => by cases hr), hb17, le_upd _ _ _ hb17⟩, rfl, rfl, rfl, rfl, trivial⟩
        intro m_ e_ H_ hI_
        obtain ⟨k, v, rs, bs, Fs, hk, rfl, hoks, hN, he⟩ := hI_
        refine CW_env he.sub ?_; clear he e_
        have kp := hN.hd
        have hOld := hN.old
        obtain ⟨va, vc, rfl⟩ := hN.own.holds.form
        refine CW_seq (fun K8 hK8 => ?_)
        refine CW_region ?_
        refine OW_opS (fun K hK r => ?_)
        simp (disch := (first | omega | decide)) only [x_bin, g_int, b_lss, dec_lt_t, dec_lt_f, dec_le_t, dec_le_f, dec_eq_t, dec_eq_f, Bool.not_true, Bool.not_false, eX, ↓reduceIte, Nat.reduceEqDiff, Int.reduceToNat]
        refine hK _ _ ?_; clear hK K
        refine OW_nil ?_
        try simp only [Ex.thnH, Ex.inBlockH, ↓reduceIte, Nat.reduceEqDiff]
        refine hK8 _ _ ?_; try clear hK8 K8
        refine CW_seq (fun K9 hK9 => ?_)
        refine CW_cond (fun r => rfl) (fun c21 => ?_) (fun c21 => ?_)
        · first
          | (exfalso; exact cnA c21; done)
          | skip
            (try simp only [decide_eq_true_eq, decide_eq_false_iff_not, Bool.not_eq_true, Bool.not_eq_false, Bool.and_eq_true, Bool.or_eq_true, Bool.or_eq_false_iff, Bool.not_eq_true, Bool.not_eq_eq_eq_not, Bool.not_true, Bool.not_false] at c21)
            obtain ⟨bw, ow, cw, Tw, Fw, ew, hbw, hsw, atw⟩ := (hv.le hN.old).at (by omega)
            refine CW_skip ?_
            try simp only [Ex.thnH, Ex.inBlockH, ↓reduceIte, Nat.reduceEqDiff]
            refine hK9 _ _ ?_; try clear hK9 K9
            refine CW_seq (fun K10 hK10 => ?_)
            refine CW_block ?_
            refine CW_seq (fun K11 hK11 => ?_)
            refine CW_region ?_
            refine OW_opS (fun K hK r => ?_)
            simp only [x_indexAddr, eX, ↓reduceIte, Nat.reduceEqDiff, Int.reduceToNat]
            refine Lt_indexSof Try.underlying41 sz3 ew ixA ixA ?_
            try simp only [Int.toNat_natCast, Nat.mul_one]
            refine hK _ _ ?_; clear hK K
            refine OW_opS (fun K hK r => ?_)
            simp only [x_load, eX, ↓reduceIte, Nat.reduceEqDiff, Int.reduceToNat]
            refine Lt_loadAt1 Try.underlying3 rfl hbA (v := .int .i64 (l.getD k default)) (by first | exact ints_get atw rfl k (by omega) | (rw [Nat.mul_one]; exact ints_get atw rfl k (by omega))) ?_
            refine hK _ _ ?_; clear hK K
            refine OW_as rfl ?_
            refine OW_nil ?_
            try simp only [Ex.thnH, Ex.inBlockH, ↓reduceIte, Nat.reduceEqDiff]
            refine hK11 _ _ ?_; try clear hK11 K11
            refine CW_seq (fun K12 hK12 => ?_)
            refine CW_seq (fun K13 hK13 => ?_)
            refine CW_region ?_
            refine OW_mv rfl ?_
            refine OW_opS (fun K hK r => ?_)
            simp (disch := (first | omega | decide)) only [x_bin, g_int, b_lss, dec_lt_t, dec_lt_f, dec_le_t, dec_le_f, dec_eq_t, dec_eq_f, Bool.not_true, Bool.not_false, eX, ↓reduceIte, Nat.reduceEqDiff, Int.reduceToNat]
            refine hK _ _ ?_; clear hK K
            refine OW_mv rfl ?_
            (first | refine OW_split (d := 26) rfl (fun g26 => ?_) (fun g26 => ?_) | skip)
            all_goals try (exfalso; exact cnA g26)
            all_goals (try simp only [decide_eq_true_eq, decide_eq_false_iff_not, Bool.not_eq_true, Bool.not_eq_false, Bool.and_eq_true, Bool.or_eq_true, Bool.or_eq_false_iff, Bool.not_eq_true, Bool.not_eq_eq_eq_not, Bool.not_true, Bool.not_false] at g26)
            all_goals
              try simp only [eX, ↓reduceIte, Nat.reduceEqDiff, Int.reduceToNat]
              first
              | refine OW_guardT rfl (lt_some (by decide)) rfl (fun K hK r => ?_)
                simp only [x_move, eX, ↓reduceIte, Nat.reduceEqDiff, Int.reduceToNat]
                refine hK _ _ ?_; clear hK K
              | refine OW_guardF rfl (lt_some (by decide)) rfl ?_
                simp only [eX, ↓reduceIte, Nat.reduceEqDiff, Int.reduceToNat]
              first
              | refine OW_guardT rfl (lt_some (by decide)) rfl (fun K hK r => ?_)
                simp (disch := (first | omega | decide)) only [x_bin, g_int, b_gtr, dec_lt_t, dec_lt_f, dec_le_t, dec_le_f, dec_eq_t, dec_eq_f, Bool.not_true, Bool.not_false, eX, ↓reduceIte, Nat.reduceEqDiff, Int.reduceToNat]
                refine hK _ _ ?_; clear hK K
              | refine OW_guardF rfl (lt_some (by decide)) rfl ?_
                simp only [eX, ↓reduceIte, Nat.reduceEqDiff, Int.reduceToNat]
              refine OW_opS (fun K hK r => ?_)
              simp only [x_pick, l_asBool, HL.ite_bool, if_true, if_false, Bool.false_eq_true, eX, ↓reduceIte, Nat.reduceEqDiff, Int.reduceToNat]
              refine hK _ _ ?_; clear hK K
              refine OW_nil ?_
              try simp only [Ex.thnH, Ex.inBlockH, ↓reduceIte, Nat.reduceEqDiff]
              refine hK13 _ _ ?_; try clear hK13 K13
              refine CW_cond (fun r => rfl) (fun c29 => ?_) (fun c29 => ?_)
              · first
                | (exfalso; exact cnA c29; done)
                | skip
                  (try simp only [decide_eq_true_eq, decide_eq_false_iff_not, Bool.not_eq_true, Bool.not_eq_false, Bool.and_eq_true, Bool.or_eq_true, Bool.or_eq_false_iff, Bool.not_eq_true, Bool.not_eq_eq_eq_not, Bool.not_true, Bool.not_false] at c29)
                  have hbad : goodN l = false := good_bad (k := k) (by omega) (by unfold okN; rw [Bool.and_eq_false_iff]; simp only [decide_eq_false_iff_not]; omega)
                  refine CW_seq (fun K14 hK14 => ?_)
                  refine CW_region ?_
                  refine OW_opS (fun K hK r => ?_)
                  simp only [x_makeInterface, i_makeInterface, Try.underlying73, orF_some, eX, ↓reduceIte, Nat.reduceEqDiff, Int.reduceToNat]
                  refine hK _ _ ?_; clear hK K
                  refine OW_as rfl ?_
                  refine OW_as rfl ?_
                  refine OW_nil ?_
                  try simp only [Ex.thnH, Ex.inBlockH, ↓reduceIte, Nat.reduceEqDiff]
                  refine hK14 _ _ ?_; try clear hK14 K14
                  refine CW_ret ?_
                  try simp only [Ex.thnH, Ex.inBlockH, ↓reduceIte, Nat.reduceEqDiff]
                  exact ⟨[_, _], ⟨rfl, rfl, trivial⟩, H, hN.old, .inl ⟨hbad, rfl, rfl⟩⟩
              · first
                | (exfalso; exact cnA c29; done)
                | skip
                  (try simp only [decide_eq_true_eq, decide_eq_false_iff_not, Bool.not_eq_true, Bool.not_eq_false, Bool.and_eq_true, Bool.or_eq_true, Bool.or_eq_false_iff, Bool.not_eq_true, Bool.not_eq_eq_eq_not, Bool.not_true, Bool.not_false] at c29)
                  have hok : okN (l.getD k default) = true := by unfold okN; rw [Bool.and_eq_true]; simp only [decide_eq_true_eq]; omega
                  refine CW_skip ?_
                  try simp only [Ex.thnH, Ex.inBlockH, ↓reduceIte, Nat.reduceEqDiff]
                  refine hK12 _ _ ?_; try clear hK12 K12
                  refine CW_region ?_
                  refine OW_mv rfl ?_
                  refine OW_mv rfl ?_
                  refine OW_opS (fun K hK r => ?_)
                  rw [x_nilCheck _ _ rfl]
                  simp only [eX, ↓reduceIte, Nat.reduceEqDiff, Int.reduceToNat]
                  refine hK _ _ ?_; clear hK K
                  refine OW_opS (fun K hK r => ?_)
                  simp only [x_fieldAddr, fa78_1, add_mk, Nat.reduceAdd, Nat.zero_add, eX, ↓reduceIte, Nat.reduceEqDiff, Int.reduceToNat]
                  refine hK _ _ ?_; clear hK K
                  refine OW_opS (fun K hK r => ?_)
                  simp only [x_load, eX, ↓reduceIte, Nat.reduceEqDiff, Int.reduceToNat]
                  refine Lt_loadAt1 Try.underlying76 rfl hbA ldA ?_
                  try simp only [eX, ↓reduceIte, Nat.reduceEqDiff, Int.reduceToNat]
                  refine hK _ _ ?_; clear hK K
                  refine OW_mv rfl ?_
                  refine OW_opS (fun K hK r => ?_)
                  simp only [x_makeMap, Option.map_none, eX, ↓reduceIte, Nat.reduceEqDiff, Int.reduceToNat]
                  refine Lt_makeMap ?_
                  intro b37 hb37
                  try have n37_b17 : b17 ≠ b37 := ne_of_none hbA hb37
                  have f37_H : H b37 = none := none_of_le lhA hb37
                  try simp only [eX, ↓reduceIte, Nat.reduceEqDiff, Int.reduceToNat]
                  refine hK _ _ ?_; clear hK K
                  refine OW_opS (fun K hK r => ?_)
                  simp only [x_build, bp83, List.map_toArray, List.map_cons, List.map_nil, eX, ↓reduceIte, Nat.reduceEqDiff, Int.reduceToNat]
                  rw [fill_one rfl clA bdA]
                  rw [fill_one rfl clA bdA]
                  simp only [fill_nil, orF_some, List.setIfInBounds_toArray, List.set_cons_zero, List.set_cons_succ]
                  try simp only [eX, ↓reduceIte, Nat.reduceEqDiff, Int.reduceToNat]
                  refine hK _ _ ?_; clear hK K
                  refine OW_opS (fun K hK r => ?_)
                  simp only [x_box, Value.cells, eX, ↓reduceIte, Nat.reduceEqDiff, Int.reduceToNat]
                  intro b39 hb39
                  try have n39_b17 : b17 ≠ b39 := ne_of_none hbA hb39
                  try have n39_b37 : b37 ≠ b39 := ne_of_none hbA hb39
                  have f39_H : H b39 = none := none_of_le lhA hb39
                  try simp only [eX, ↓reduceIte, Nat.reduceEqDiff, Int.reduceToNat]
                  refine hK _ _ ?_; clear hK K
                  refine OW_opS (fun K hK r => ?_)
                  simp only [x_buildSlice, List.map_toArray, List.map_cons, List.map_nil, eX, ↓reduceIte, Nat.reduceEqDiff, Int.reduceToNat]
                  refine Lt_buildSlice (vs := [_]) Try.underlying76 sz79 zr79 rfl bsA (by first | decide | (simp; done)) ?_
                  simp only [List.flatMap_cons, List.flatMap_nil, Value.cells, List.append_nil, List.cons_append, List.nil_append, List.length_cons, List.length_nil, Nat.zero_add, Nat.reduceAdd]
                  intro b40 hb40
                  try have n40_b17 : b17 ≠ b40 := ne_of_none hbA hb40
                  try have n40_b37 : b37 ≠ b40 := ne_of_none hbA hb40
                  try have n40_b39 : b39 ≠ b40 := ne_of_none hbA hb40
                  have f40_H : H b40 = none := none_of_le lhA hb40
                  try simp only [eX, ↓reduceIte, Nat.reduceEqDiff, Int.reduceToNat]
                  refine hK _ _ ?_; clear hK K
                  refine OW_opS (fun K hK r => ?_)
                  simp only [x_builtin, l_append, List.map_toArray, List.map_cons, List.map_nil, eX, ↓reduceIte, Nat.reduceEqDiff, Int.reduceToNat]
                  have nmp : b37 ≠ b17 := Ne.symm (ne_of_none kp hb37)
                  have hrs17 := hN.ne
                  have hm_ : H_ b37 = none := hb37
                  have hb_39 : H_ b39 = none := none_of_le (le_upd _ _ _ hb37) hb39
                  have nm39 : b37 ≠ b39 := ne_of_none (upd_same _ _ _) hb39
                  have n1739 : b17 ≠ b39 := ne_of_none kp hb_39
                  have hb_40 : H_ b40 = none := none_of_le (Le.trans (le_upd _ _ _ hb37) (le_upd _ _ _ hb39)) hb40
                  have n1740 : b17 ≠ b40 := ne_of_none kp hb_40
                  have n3740 : b37 ≠ b40 := ne_of_none hbA hb40
                  have n3940 : b39 ≠ b40 := ne_of_none hbA hb40
                  refine Lt_append1 Try.underlying76 sz79 by79 (by decide) zr79 rfl _ (((hN.own.make hb37).make hb39).make hb40) (x := ptrV b39) hbA rfl (by omega) ?_
                  intro v41 H41 rs41 hg41 ho41 hr41
                  obtain ⟨wa41, wc41, rfl⟩ := ho41.holds.form
                  have kp41 := hg41.known b17 _ hbA hrs17
                  have km41 := hg41.known b37 (.map #[] 0) hbA (fun e => hN.own.known b37 e hb37)
                  have kb41 := hg41.known b39 (.cells #[.int .i64 (l.getD k default), .map (some b37), .slice none 0 0] 83) hbA (fun e => hN.own.known b39 e hb_39)
                  have hkp41 : ∀ x o, H_ x = some o → rs ≠ some x → H41 x = some o := fun x o hx hn => hg41.known x o (Le.trans (Le.trans (le_upd _ _ _ hb37) (le_upd _ _ _ hb39)) (le_upd _ _ _ hb40) x o hx) hn
                  have hr41' : ∀ r, rs41 = some r → rs = some r ∨ (H_ r = none ∧ r ≠ b37 ∧ r ≠ b39) := fun r e => (hr41 r e).imp id (fun hn => by
                    have h3 := upd_none hn
                    have h2 := upd_none h3
                    refine ⟨upd_none h2, fun e => ?_, fun e => ?_⟩
                    · subst e; rw [upd_same] at h2; cases h2
                    · subst e; rw [upd_same] at h3; cases h3)
                  refine hK _ _ ?_; clear hK K
                  refine OW_opS (fun K hK r => ?_)
                  rw [x_nilCheck _ _ rfl]
                  simp only [eX, ↓reduceIte, Nat.reduceEqDiff, Int.reduceToNat]
                  refine hK _ _ ?_; clear hK K
                  refine OW_opS (fun K hK r => ?_)
                  simp only [x_fieldAddr, fa78_1, add_mk, Nat.reduceAdd, Nat.zero_add, eX, ↓reduceIte, Nat.reduceEqDiff, Int.reduceToNat]
                  refine hK _ _ ?_; clear hK K
                  refine OW_op rfl (lt_none) (fun K hK r => ?_)
                  simp only [x_store, eX, ↓reduceIte, Nat.reduceEqDiff, Int.reduceToNat]
                  refine Lt_storeAt1 sz76 hbA bdA plA fzA ?_
                  try simp only [setL0, setL1, setL2, setL3, setL4, setL5, setL6, setL7, setL8, setL9]
                  try simp only [eX, ↓reduceIte, Nat.reduceEqDiff, Int.reduceToNat]
                  refine hK _ _ ?_; clear hK K
                  refine OW_nil ?_
                  try simp only [Ex.thnH, Ex.inBlockH, ↓reduceIte, Nat.reduceEqDiff]
                  refine hK10 _ _ ?_; try clear hK10 K10
                  refine CW_region ?_
                  refine OW_opS (fun K hK r => ?_)
                  simp (disch := (first | omega | decide)) only [x_bin, g_int, b_add, wrap_i64, wrap_u64, wrap_u32, wrap_u8, eX, ↓reduceIte, Nat.reduceEqDiff, Int.reduceToNat]
                  refine hK _ _ ?_; clear hK K
                  refine OW_mv rfl ?_
                  refine OW_nil ?_
                  try simp only [Ex.thnH, Ex.inBlockH, ↓reduceIte, Nat.reduceEqDiff]
                  refine ⟨l.length - (k + 1), by omega, k + 1, _, rs41, bs ++ [b39], _, by omega, rfl, (fun j hj => ?_), hN.next hm_ hb_39 nm39 (upd_same _ _ _) (ho41.upd (fun e => ?_)) ((upd_ne _ _ nmp).trans km41) ((upd_ne _ _ (Ne.symm n1739)).trans kb41) (fun x o hx hxp hxr => (upd_ne _ _ hxp).trans (hkp41 x o hx hxr)) hr41', rfl, rfl, rfl, rfl, trivial⟩
                  · by_cases e : j = k
                    · subst e; exact hok
                    · exact hoks j (by omega)
                  · rcases hr41' _ e with h1 | ⟨h1, _⟩
                    · exact hrs17 h1
                    · rw [kp] at h1; cases h1
        · first
          | (exfalso; exact cnA c21; done)
          | skip
            (try simp only [decide_eq_true_eq, decide_eq_false_iff_not, Bool.not_eq_true, Bool.not_eq_false, Bool.and_eq_true, Bool.or_eq_true, Bool.or_eq_false_iff, Bool.not_eq_true, Bool.not_eq_eq_eq_not, Bool.not_true, Bool.not_false] at c21)
            have hkn : k = l.length := by omega
            refine CW_exit ?_
            try simp only [Ex.thnH, Ex.inBlockH, ↓reduceIte, Nat.reduceEqDiff]
            refine hK6 _ _ ?_; try clear hK6 K6
            refine CW_seq (fun K15 hK15 => ?_)
            refine CW_region ?_
            refine OW_mv rfl ?_
            refine OW_as rfl ?_
            refine OW_as rfl ?_
            refine OW_nil ?_
            try simp only [Ex.thnH, Ex.inBlockH, ↓reduceIte, Nat.reduceEqDiff]
            refine hK15 _ _ ?_; try clear hK15 K15
            refine CW_ret ?_
            try simp only [Ex.thnH, Ex.inBlockH, ↓reduceIte, Nat.reduceEqDiff]
            subst hkn
            obtain ⟨F, hF1, hF2, hF3⟩ := hN.done hlen.1
            exact ⟨[_, _], ⟨rfl, rfl, trivial⟩, _, Le.refl _, .inr ⟨good_all hlen.1 hlen.2 hoks, hN.old, b17, rfl, F, hF1, hF2, hF3⟩⟩

end Go.Proofs.Ytcjdkfhmlnfedaa.HL
end
section
namespace Go.Proofs.Ytcjdkfhmlnfedaa.HL
open Go Go.Proofs
set_option linter.unusedSimpArgs false
set_option linter.unusedVariables false
attribute [local irreducible] Lt Lq CW OW TW CallH

set_option maxRecDepth 100000 in
set_option maxHeartbeats 1000000 in
theorem flush1_ok (H : Hp) (n : Int) : CallH Try.prog 62 #[.int .i64 n] H (fun v H' => v = .tuple #[.int .i64 0, .bool true] ∧ H' = H) := by
  refine CallH_enter (l := [_]) (rl := [.tmp 2, .tmp 3]) (n := 4) Try.func62 rfl rfl rfl rfl rfl ?_
  simp only [envOf, Nat.reduceAdd]
  refine CW_seq (fun K1 hK1 => ?_)
  refine CW_region ?_
  refine OW_as rfl ?_
  refine OW_as rfl ?_
  refine OW_nil ?_
  try simp only [Ex.thnH, Ex.inBlockH, ↓reduceIte, Nat.reduceEqDiff]
  refine hK1 _ _ ?_; try clear hK1 K1
  refine CW_seq (fun K2 hK2 => ?_)
  refine CW_region ?_
  refine OW_as rfl ?_
  refine OW_as rfl ?_
  refine OW_nil ?_
  try simp only [Ex.thnH, Ex.inBlockH, ↓reduceIte, Nat.reduceEqDiff]
  refine hK2 _ _ ?_; try clear hK2 K2
  refine CW_ret ?_
  try simp only [Ex.thnH, Ex.inBlockH, ↓reduceIte, Nat.reduceEqDiff]
  exact ⟨[_, _], ⟨rfl, rfl, trivial⟩, _, Le.refl _, rfl, rfl⟩

set_option maxRecDepth 100000 in
set_option maxHeartbeats 1000000 in
theorem flush_bad (H : Hp) (p : Nat) (s : St) (rd cap : Nat) (bs : List Nat) (Fs : Nat → Hp) (h : SX H p s rd cap bs Fs) (hl : s.dv.length ≤ 1000) (dev : Int) (hno : ¬ (0 ≤ dev ∧ dev < s.dv.length)) : CallH Try.prog 37 #[(.pointer (some ⟨p, 0, none⟩)), .int .i64 dev] H (fun v H' => v = errV (s.fl dev).2 ∧ SetX H' p (s.fl dev).1) := by
  refine CallH_enter (l := [_, _]) (rl := [.tmp 4]) (n := 27) Try.func37 rfl rfl rfl rfl rfl ?_
  simp only [envOf, Nat.reduceAdd]
  refine CW_seq (fun K1 hK1 => ?_)
  refine CW_region ?_
  refine OW_as rfl ?_
  refine OW_nil ?_
  try simp only [Ex.thnH, Ex.inBlockH, ↓reduceIte, Nat.reduceEqDiff]
  refine hK1 _ _ ?_; try clear hK1 K1
  refine CW_seq (fun K2 hK2 => ?_)
  refine CW_region ?_
  refine OW_mv rfl ?_
  refine OW_mv rfl ?_
  refine OW_opS (fun K hK r => ?_)
  simp only [x_callF _ bd46, List.map_toArray, List.map_cons, List.map_nil, eX, ↓reduceIte, Nat.reduceEqDiff, Int.reduceToNat]
  refine (device_ok _ p s rd cap bs Fs h dev hl).mono ?_
  rintro v H' ⟨rfl, rfl⟩
  rw [show devV s bs dev = .pointer none from if_neg hno]
  try simp only [eX, ↓reduceIte, Nat.reduceEqDiff, Int.reduceToNat]
  refine hK _ _ ?_; clear hK K
  refine OW_as rfl ?_
  refine OW_nil ?_
  try simp only [Ex.thnH, Ex.inBlockH, ↓reduceIte, Nat.reduceEqDiff]
  refine hK2 _ _ ?_; try clear hK2 K2
  refine CW_seq (fun K3 hK3 => ?_)
  refine CW_block ?_
  refine CW_seq (fun K4 hK4 => ?_)
  refine CW_region ?_
  refine OW_mv rfl ?_
  refine OW_opS (fun K hK r => ?_)
  simp only [x_bin, g_int, g_bool, g_string, g_pointer, g_slice, g_map, g_func, g_nilFunc, g_iface, g_nil_iface, g_nil_r, g_nil_l, eX, ↓reduceIte, Nat.reduceEqDiff, Int.reduceToNat]
  rw [e_eql _ _ _ _ (by simp)]
  rw [q_equal]
  first | rw [q_ptr_nil _ _ _ Try.underlying31] | rw [q_nil_ptr _ _ _ Try.underlying31]
  try simp only [eX, ↓reduceIte, Nat.reduceEqDiff, Int.reduceToNat]
  refine hK _ _ ?_; clear hK K
  refine OW_as rfl ?_
  refine OW_nil ?_
  try simp only [Ex.thnH, Ex.inBlockH, ↓reduceIte, Nat.reduceEqDiff]
  refine hK4 _ _ ?_; try clear hK4 K4
  refine CW_cond (fun r => rfl) (fun c10 => ?_) (fun c10 => ?_)
  · first
    | (exfalso; exact cnA c10; done)
    | skip
      (try simp only [decide_eq_true_eq, decide_eq_false_iff_not, Bool.not_eq_true, Bool.not_eq_false, Bool.and_eq_true, Bool.or_eq_true, Bool.or_eq_false_iff, Bool.not_eq_true, Bool.not_eq_eq_eq_not, Bool.not_true, Bool.not_false] at c10)
      refine CW_seq (fun K5 hK5 => ?_)
      refine CW_region ?_
      refine OW_opS (fun K hK r => ?_)
      simp only [x_makeInterface, i_makeInterface, Try.underlying73, orF_some, eX, ↓reduceIte, Nat.reduceEqDiff, Int.reduceToNat]
      refine hK _ _ ?_; clear hK K
      refine OW_as rfl ?_
      refine OW_nil ?_
      try simp only [Ex.thnH, Ex.inBlockH, ↓reduceIte, Nat.reduceEqDiff]
      refine hK5 _ _ ?_; try clear hK5 K5
      refine CW_ret ?_
      try simp only [Ex.thnH, Ex.inBlockH, ↓reduceIte, Nat.reduceEqDiff]
      skip
  · first
    | (exfalso; exact cnA c10; done)
    | skip
      (try simp only [decide_eq_true_eq, decide_eq_false_iff_not, Bool.not_eq_true, Bool.not_eq_false, Bool.and_eq_true, Bool.or_eq_true, Bool.or_eq_false_iff, Bool.not_eq_true, Bool.not_eq_eq_eq_not, Bool.not_true, Bool.not_false] at c10)
      refine CW_seq (fun K6 hK6 => ?_)
      refine CW_region ?_
      refine OW_mv rfl ?_
      refine OW_opS (fun K hK r => ?_)
      simp only [x_bin, g_int, g_bool, g_string, g_pointer, g_slice, g_map, g_func, g_nilFunc, g_iface, g_nil_iface, g_nil_r, g_nil_l, eX, ↓reduceIte, Nat.reduceEqDiff, Int.reduceToNat]
      rw [e_eql _ _ _ _ (by simp)]
      rw [q_equal]
      first | rw [q_ptr_nil _ _ _ Try.underlying79] | rw [q_nil_ptr _ _ _ Try.underlying79]
      try simp only [eX, ↓reduceIte, Nat.reduceEqDiff, Int.reduceToNat]
      refine hK _ _ ?_; clear hK K
      refine OW_as rfl ?_
      refine OW_nil ?_
      try simp only [Ex.thnH, Ex.inBlockH, ↓reduceIte, Nat.reduceEqDiff]
      refine hK6 _ _ ?_; try clear hK6 K6
      refine CW_cond (fun r => rfl) (fun c14 => ?_) (fun c14 => ?_)
      · first
        | (exfalso; exact cnA c14; done)
        | skip
          (try simp only [decide_eq_true_eq, decide_eq_false_iff_not, Bool.not_eq_true, Bool.not_eq_false, Bool.and_eq_true, Bool.or_eq_true, Bool.or_eq_false_iff, Bool.not_eq_true, Bool.not_eq_eq_eq_not, Bool.not_true, Bool.not_false] at c14)
          refine CW_seq (fun K7 hK7 => ?_)
          refine CW_region ?_
          refine OW_opS (fun K hK r => ?_)
          simp only [x_makeInterface, i_makeInterface, Try.underlying73, orF_some, eX, ↓reduceIte, Nat.reduceEqDiff, Int.reduceToNat]
          refine hK _ _ ?_; clear hK K
          refine OW_as rfl ?_
          refine OW_nil ?_
          try simp only [Ex.thnH, Ex.inBlockH, ↓reduceIte, Nat.reduceEqDiff]
          refine hK7 _ _ ?_; try clear hK7 K7
          refine CW_ret ?_
          try simp only [Ex.thnH, Ex.inBlockH, ↓reduceIte, Nat.reduceEqDiff]
          refine ⟨[_], ⟨rfl, trivial⟩, _, Le.refl _, ?_, ?_⟩
          · show _ = errV _
            unfold St.fl; rw [if_neg hno]; rfl
          · unfold St.fl; rw [if_neg hno]; exact ⟨rd, cap, bs, Fs, h⟩
      · first
        | (exfalso; exact cnA c14; done)
        | skip
          (try simp only [decide_eq_true_eq, decide_eq_false_iff_not, Bool.not_eq_true, Bool.not_eq_false, Bool.and_eq_true, Bool.or_eq_true, Bool.or_eq_false_iff, Bool.not_eq_true, Bool.not_eq_eq_eq_not, Bool.not_true, Bool.not_false] at c14)
          refine CW_skip ?_
          try simp only [Ex.thnH, Ex.inBlockH, ↓reduceIte, Nat.reduceEqDiff]
          refine hK3 _ _ ?_; try clear hK3 K3
          refine CW_seq (fun K8 hK8 => ?_)
          refine CW_seq (fun K9 hK9 => ?_)
          refine CW_region ?_
          refine OW_mv rfl ?_
          refine OW_opS (fun K hK r => ?_)
          rw [x_nilCheck _ _ rfl]
          simp only [eX, ↓reduceIte, Nat.reduceEqDiff, Int.reduceToNat]
          refine hK _ _ ?_; clear hK K
          refine OW_opS (fun K hK r => ?_)
          simp only [x_fieldAddr, fa78_0, add_mk, Nat.reduceAdd, Nat.zero_add, eX, ↓reduceIte, Nat.reduceEqDiff, Int.reduceToNat]
          refine hK _ _ ?_; clear hK K
          refine OW_opS (fun K hK r => ?_)
          simp only [x_callF _ bd48, List.map_toArray, List.map_cons, List.map_nil, eX, ↓reduceIte, Nat.reduceEqDiff, Int.reduceToNat]
          fail "left out: CALL (*sluiceway/dev.power).step slot 21"

set_option maxRecDepth 100000 in
set_option maxHeartbeats 1000000 in
theorem flush_in (H : Hp) (p : Nat) (s : St) (rd cap : Nat) (bs : List Nat) (Fs : Nat → Hp) (h : SX H p s rd cap bs Fs) (hl : s.dv.length ≤ 1000) (hw : ∀ i, (s.dv.getD i default).wait.length ≤ 1000000) (dev : Int) (hin : 0 ≤ dev ∧ dev < s.dv.length) : CallH Try.prog 37 #[(.pointer (some ⟨p, 0, none⟩)), .int .i64 dev] H (fun v H' => v = errV (s.fl dev).2 ∧ SetX H' p (s.fl dev).1) := by
  refine CallH_enter (l := [_, _]) (rl := [.tmp 4]) (n := 27) Try.func37 rfl rfl rfl rfl rfl ?_
  simp only [envOf, Nat.reduceAdd]
  have hk : dev.toNat < s.dv.length := by omega
  have hfp := h.fp dev.toNat hk
  refine CW_seq (fun K1 hK1 => ?_)
  refine CW_region ?_
  refine OW_as rfl ?_
  refine OW_nil ?_
  try simp only [Ex.thnH, Ex.inBlockH, ↓reduceIte, Nat.reduceEqDiff]
  refine hK1 _ _ ?_; try clear hK1 K1
  refine CW_seq (fun K2 hK2 => ?_)
  refine CW_region ?_
  refine OW_mv rfl ?_
  refine OW_mv rfl ?_
  refine OW_opS (fun K hK r => ?_)
  simp only [x_callF _ bd46, List.map_toArray, List.map_cons, List.map_nil, eX, ↓reduceIte, Nat.reduceEqDiff, Int.reduceToNat]
  refine (device_ok _ p s rd cap bs Fs h dev hl).mono ?_
  rintro v H' ⟨rfl, rfl⟩
  rw [show devV s bs dev = ptrV (bs.getD dev.toNat 0) from if_pos hin]
  simp only [ptrV]
  try simp only [eX, ↓reduceIte, Nat.reduceEqDiff, Int.reduceToNat]
  refine hK _ _ ?_; clear hK K
  refine OW_as rfl ?_
  refine OW_nil ?_
  try simp only [Ex.thnH, Ex.inBlockH, ↓reduceIte, Nat.reduceEqDiff]
  refine hK2 _ _ ?_; try clear hK2 K2
  refine CW_seq (fun K3 hK3 => ?_)
  refine CW_block ?_
  refine CW_seq (fun K4 hK4 => ?_)
  refine CW_region ?_
  refine OW_mv rfl ?_
  refine OW_opS (fun K hK r => ?_)
  simp only [x_bin, g_int, g_bool, g_string, g_pointer, g_slice, g_map, g_func, g_nilFunc, g_iface, g_nil_iface, g_nil_r, g_nil_l, eX, ↓reduceIte, Nat.reduceEqDiff, Int.reduceToNat]
  rw [e_eql _ _ _ _ (by simp)]
  rw [q_equal]
  first | rw [q_ptr_nil _ _ _ Try.underlying31] | rw [q_nil_ptr _ _ _ Try.underlying31]
  try simp only [eX, ↓reduceIte, Nat.reduceEqDiff, Int.reduceToNat]
  refine hK _ _ ?_; clear hK K
  refine OW_as rfl ?_
  refine OW_nil ?_
  try simp only [Ex.thnH, Ex.inBlockH, ↓reduceIte, Nat.reduceEqDiff]
  refine hK4 _ _ ?_; try clear hK4 K4
  refine CW_cond (fun r => rfl) (fun c10 => ?_) (fun c10 => ?_)
  · first
    | (exfalso; exact cnA c10; done)
    | skip
      (try simp only [decide_eq_true_eq, decide_eq_false_iff_not, Bool.not_eq_true, Bool.not_eq_false, Bool.and_eq_true, Bool.or_eq_true, Bool.or_eq_false_iff, Bool.not_eq_true, Bool.not_eq_eq_eq_not, Bool.not_true, Bool.not_false] at c10)
      refine CW_seq (fun K5 hK5 => ?_)
      refine CW_region ?_
      refine OW_opS (fun K hK r => ?_)
      simp only [x_makeInterface, i_makeInterface, Try.underlying73, orF_some, eX, ↓reduceIte, Nat.reduceEqDiff, Int.reduceToNat]
      refine hK _ _ ?_; clear hK K
      refine OW_as rfl ?_
      refine OW_nil ?_
      try simp only [Ex.thnH, Ex.inBlockH, ↓reduceIte, Nat.reduceEqDiff]
      refine hK5 _ _ ?_; try clear hK5 K5
      refine CW_ret ?_
      try simp only [Ex.thnH, Ex.inBlockH, ↓reduceIte, Nat.reduceEqDiff]
      skip
  · first
    | (exfalso; exact cnA c10; done)
    | skip
      (try simp only [decide_eq_true_eq, decide_eq_false_iff_not, Bool.not_eq_true, Bool.not_eq_false, Bool.and_eq_true, Bool.or_eq_true, Bool.or_eq_false_iff, Bool.not_eq_true, Bool.not_eq_eq_eq_not, Bool.not_true, Bool.not_false] at c10)
      refine CW_seq (fun K6 hK6 => ?_)
      refine CW_region ?_
      refine OW_mv rfl ?_
      refine OW_opS (fun K hK r => ?_)
      simp only [x_bin, g_int, g_bool, g_string, g_pointer, g_slice, g_map, g_func, g_nilFunc, g_iface, g_nil_iface, g_nil_r, g_nil_l, eX, ↓reduceIte, Nat.reduceEqDiff, Int.reduceToNat]
      rw [e_eql _ _ _ _ (by simp)]
      rw [q_equal]
      first | rw [q_ptr_nil _ _ _ Try.underlying79] | rw [q_nil_ptr _ _ _ Try.underlying79]
      try simp only [eX, ↓reduceIte, Nat.reduceEqDiff, Int.reduceToNat]
      refine hK _ _ ?_; clear hK K
      refine OW_as rfl ?_
      refine OW_nil ?_
      try simp only [Ex.thnH, Ex.inBlockH, ↓reduceIte, Nat.reduceEqDiff]
      refine hK6 _ _ ?_; try clear hK6 K6
      refine CW_cond (fun r => rfl) (fun c14 => ?_) (fun c14 => ?_)
      · first
        | (exfalso; exact cnA c14; done)
        | skip
          (try simp only [decide_eq_true_eq, decide_eq_false_iff_not, Bool.not_eq_true, Bool.not_eq_false, Bool.and_eq_true, Bool.or_eq_true, Bool.or_eq_false_iff, Bool.not_eq_true, Bool.not_eq_eq_eq_not, Bool.not_true, Bool.not_false] at c14)
          refine CW_seq (fun K7 hK7 => ?_)
          refine CW_region ?_
          refine OW_opS (fun K hK r => ?_)
          simp only [x_makeInterface, i_makeInterface, Try.underlying73, orF_some, eX, ↓reduceIte, Nat.reduceEqDiff, Int.reduceToNat]
          refine hK _ _ ?_; clear hK K
          refine OW_as rfl ?_
          refine OW_nil ?_
          try simp only [Ex.thnH, Ex.inBlockH, ↓reduceIte, Nat.reduceEqDiff]
          refine hK7 _ _ ?_; try clear hK7 K7
          refine CW_ret ?_
          try simp only [Ex.thnH, Ex.inBlockH, ↓reduceIte, Nat.reduceEqDiff]
          skip
      · first
        | (exfalso; exact cnA c14; done)
        | skip
          (try simp only [decide_eq_true_eq, decide_eq_false_iff_not, Bool.not_eq_true, Bool.not_eq_false, Bool.and_eq_true, Bool.or_eq_true, Bool.or_eq_false_iff, Bool.not_eq_true, Bool.not_eq_eq_eq_not, Bool.not_true, Bool.not_false] at c14)
          refine CW_skip ?_
          try simp only [Ex.thnH, Ex.inBlockH, ↓reduceIte, Nat.reduceEqDiff]
          refine hK3 _ _ ?_; try clear hK3 K3
          refine CW_seq (fun K8 hK8 => ?_)
          refine CW_seq (fun K9 hK9 => ?_)
          refine CW_region ?_
          refine OW_mv rfl ?_
          refine OW_opS (fun K hK r => ?_)
          rw [x_nilCheck _ _ rfl]
          simp only [eX, ↓reduceIte, Nat.reduceEqDiff, Int.reduceToNat]
          refine hK _ _ ?_; clear hK K
          refine OW_opS (fun K hK r => ?_)
          simp only [x_fieldAddr, fa78_0, add_mk, Nat.reduceAdd, Nat.zero_add, eX, ↓reduceIte, Nat.reduceEqDiff, Int.reduceToNat]
          refine hK _ _ ?_; clear hK K
          refine OW_opS (fun K hK r => ?_)
          simp only [x_callF _ bd48, List.map_toArray, List.map_cons, List.map_nil, eX, ↓reduceIte, Nat.reduceEqDiff, Int.reduceToNat]
          refine (step_ok _ p s _ h.hd).mono ?_
          rintro v H' ⟨rfl, rfl⟩
          try simp only [eX, ↓reduceIte, Nat.reduceEqDiff, Int.reduceToNat]
          refine hK _ _ ?_; clear hK K
          refine OW_as rfl ?_
          refine OW_nil ?_
          try simp only [Ex.thnH, Ex.inBlockH, ↓reduceIte, Nat.reduceEqDiff]
          refine hK9 _ _ ?_; try clear hK9 K9
          refine CW_seq (fun K10 hK10 => ?_)
          refine CW_region ?_
          refine OW_mv rfl ?_
          refine OW_opS (fun K hK r => ?_)
          simp only [x_bin, g_int, g_bool, g_string, g_pointer, g_slice, g_map, g_func, g_nilFunc, g_err, g_iface, g_nil_iface, g_nil_r, g_nil_l, eX, ↓reduceIte, Nat.reduceEqDiff, Int.reduceToNat]
          first | rw [b_err_neq _ _ Try.underlying33] | (rw [e_neq _ _ _ _ (by simp), q_equal]; first | rw [q_iface_nil _ _ _ Try.underlying33] | rw [q_nil_iface _ _ _ Try.underlying33] | rw [q_nil_nil _ _ _ Try.underlying33])
          try simp only [eX, ↓reduceIte, Nat.reduceEqDiff, Int.reduceToNat]
          refine hK _ _ ?_; clear hK K
          refine OW_nil ?_
          try simp only [Ex.thnH, Ex.inBlockH, ↓reduceIte, Nat.reduceEqDiff]
          refine hK10 _ _ ?_; try clear hK10 K10
          refine CW_cond (fun r => rfl) (fun c23 => ?_) (fun c23 => ?_)
          · first
            | (exfalso; exact cnA c23; done)
            | skip
              (try simp only [decide_eq_true_eq, decide_eq_false_iff_not, Bool.not_eq_true, Bool.not_eq_false, Bool.and_eq_true, Bool.or_eq_true, Bool.or_eq_false_iff, Bool.not_eq_true, Bool.not_eq_eq_eq_not, Bool.not_true, Bool.not_false] at c23)
              have hst : s.step.2 = false := by cases hc : s.step.2 with
                | false => rfl
                | true => rw [hc] at c23; simp at c23
              refine CW_seq (fun K11 hK11 => ?_)
              refine CW_region ?_
              refine OW_mv rfl ?_
              refine OW_as rfl ?_
              refine OW_nil ?_
              try simp only [Ex.thnH, Ex.inBlockH, ↓reduceIte, Nat.reduceEqDiff]
              refine hK11 _ _ ?_; try clear hK11 K11
              refine CW_ret ?_
              try simp only [Ex.thnH, Ex.inBlockH, ↓reduceIte, Nat.reduceEqDiff]
              have hfl : s.fl dev = (s.step.1, some 3) := by
                unfold St.fl; rw [if_pos hin]
                generalize hq : s.step = q at *
                obtain ⟨t, bb⟩ := q
                simp only at hst; subst hst; rfl
              refine ⟨[_], ⟨rfl, trivial⟩, _, Le.refl _, ?_, ?_⟩
              · rw [hfl, hst]; rfl
              · rw [hfl]; exact ⟨rd, cap, bs, Fs, h.head (step_dv s) (upd_same _ _ _) (fun z o hz hzp => (upd_ne _ _ hzp).trans hz)⟩
          · first
            | (exfalso; exact cnA c23; done)
            | skip
              (try simp only [decide_eq_true_eq, decide_eq_false_iff_not, Bool.not_eq_true, Bool.not_eq_false, Bool.and_eq_true, Bool.or_eq_true, Bool.or_eq_false_iff, Bool.not_eq_true, Bool.not_eq_eq_eq_not, Bool.not_true, Bool.not_false] at c23)
              have hst : s.step.2 = true := by cases hc : s.step.2 with
                | true => rfl
                | false => rw [hc] at c23; simp at c23
              refine CW_skip ?_
              try simp only [Ex.thnH, Ex.inBlockH, ↓reduceIte, Nat.reduceEqDiff]
              refine hK8 _ _ ?_; try clear hK8 K8
              refine CW_seq (fun K12 hK12 => ?_)
              refine CW_region ?_
              refine OW_mv rfl ?_
              refine OW_opS (fun K hK r => ?_)
              simp only [x_callF _ bd42, List.map_toArray, List.map_cons, List.map_nil, eX, ↓reduceIte, Nat.reduceEqDiff, Int.reduceToNat]
              refine (settle_ok _ _ _ (Fs dev.toNat) emptyHp (h.dev dev.toNat hk) (fun x o hx => (upd_ne _ _ (fun e => by subst e; rw [hfp.1] at hx; cases hx)).trans (h.le dev.toNat hk x o hx)) (le_empty _) (fun _ _ => rfl) (.func 62) #[] #[] (fun _ => some 0) (fun KK _ n hn => ValH_func bd62 (flush1_ok KK n)) (hw _)).mono ?_
              rintro v26 H26 ⟨F', hdF, hlF, hdom, hkp⟩
              try simp only [eX, ↓reduceIte, Nat.reduceEqDiff, Int.reduceToNat]
              refine hK _ _ ?_; clear hK K
              refine OW_nil ?_
              try simp only [Ex.thnH, Ex.inBlockH, ↓reduceIte, Nat.reduceEqDiff]
              refine hK12 _ _ ?_; try clear hK12 K12
              refine CW_seq (fun K13 hK13 => ?_)
              refine CW_region ?_
              refine OW_as rfl ?_
              refine OW_nil ?_
              try simp only [Ex.thnH, Ex.inBlockH, ↓reduceIte, Nat.reduceEqDiff]
              refine hK13 _ _ ?_; try clear hK13 K13
              refine CW_ret ?_
              try simp only [Ex.thnH, Ex.inBlockH, ↓reduceIte, Nat.reduceEqDiff]
              have hfl : s.fl dev = ({ s.step.1 with dv := s.dv.set dev.toNat ((s.dv.getD dev.toNat default).settle (fun _ => some 0)) }, none) := by
                unfold St.fl; rw [if_pos hin]
                have hdq := step_dv s
                generalize hq : s.step = q at *
                obtain ⟨t, bb⟩ := q
                simp only at hst hdq; subst hst; rw [← hdq]
              refine ⟨[_], ⟨rfl, trivial⟩, _, Le.refl _, ?_, ?_⟩
              · rw [hfl]; rfl
              · rw [hfl]
                exact h.put hk hdF rfl (hkp p _ (upd_same _ _ _) hfp.1) hlF (fun z o hz hn hzp => hkp z o ((upd_ne _ _ hzp).trans hz) hn) (fun z hz => .inl (hdom z hz))


theorem flush_ok (H : Hp) (p : Nat) (s : St) (rd cap : Nat) (bs : List Nat) (Fs : Nat → Hp) (h : SX H p s rd cap bs Fs) (hl : s.dv.length ≤ 1000) (hw : ∀ i, (s.dv.getD i default).wait.length ≤ 1000000) (dev : Int) : CallH Try.prog 37 #[(.pointer (some ⟨p, 0, none⟩)), .int .i64 dev] H (fun v H' => v = errV (s.fl dev).2 ∧ SetX H' p (s.fl dev).1) := by
  by_cases hin : 0 ≤ dev ∧ dev < s.dv.length
  · exact flush_in H p s rd cap bs Fs h hl hw dev hin
  · exact flush_bad H p s rd cap bs Fs h hl dev hin

end Go.Proofs.Ytcjdkfhmlnfedaa.HL
end
section
namespace Go.Proofs.Ytcjdkfhmlnfedaa.HL
open Go Go.Proofs
set_option linter.unusedSimpArgs false
set_option linter.unusedVariables false
attribute [local irreducible] Lt Lq CW OW TW CallH



/-- a set that stands in a heap, beside what else is known -/

structure Stn (H K F : Hp) (p : Nat) (s : St) : Prop where
  set : SetX F p s
  le : Le F K
  old : Le H K
  ap : ∀ b, H b ≠ none → F b = none

def Sm (n : Nat) (s : St) : Prop := s.dv.length ≤ 5 ∧ ∀ i, (s.dv.getD i default).wait.length ≤ n

theorem Sm.up {n m : Nat} {s : St} (h : Sm n s) (hm : n ≤ m) : Sm m s := ⟨h.1, fun i => Nat.le_trans (h.2 i) hm⟩

theorem getD_set {l : List Dv} {k : Nat} {d : Dv} (i : Nat) : (l.set k d).getD i default = if i = k ∧ k < l.length then d else l.getD i default := by
  simp only [List.getD_eq_getElem?_getD, List.getElem?_set]
  by_cases h : k = i
  · subst h
    by_cases h2 : k < l.length
    · simp [h2]
    · simp [h2, List.getElem?_eq_none (by omega : l.length ≤ k)]
  · rw [if_neg h, if_neg (by rintro ⟨rfl, _⟩; exact h rfl)]

theorem Sm.set {n : Nat} {s t : St} (h : Sm n s) {k : Nat} {d : Dv} (hd : d.wait.length ≤ n) (ht : t.dv = s.dv.set k d) : Sm n t := by
  refine ⟨by rw [ht, List.length_set]; exact h.1, fun i => ?_⟩
  rw [ht, getD_set]
  split
  · exact hd
  · exact h.2 i

theorem wr_cases (s : St) (dev i : Int) (x : Sec) : ((s.wr dev i x).1 = s ∧ (s.wr dev i x).2 = some 1 ∧ s.has dev i = false) ∨ ((s.wr dev i x).1 = s.step.1 ∧ (s.wr dev i x).2 = some 3 ∧ s.step.2 = false ∧ s.has dev i = true) ∨ ((s.wr dev i x).1 = { s.step.1 with dv := s.dv.set dev.toNat ((s.dv.getD dev.toNat default).put ⟨i, x⟩) } ∧ (s.wr dev i x).2 = none ∧ s.step.2 = true ∧ s.has dev i = true) := by
  unfold St.wr
  by_cases h : s.has dev i = true
  · rw [if_pos h]
    have hd := step_dv s
    generalize hq : s.step = q at *
    obtain ⟨t, b⟩ := q
    cases b with
    | true => exact .inr (.inr ⟨by simp only at hd; rw [← hd], rfl, rfl, h⟩)
    | false => exact .inr (.inl ⟨rfl, rfl, rfl, h⟩)
  · rw [if_neg h]; exact .inl ⟨rfl, rfl, by simpa using h⟩

theorem fl_cases (s : St) (dev : Int) : ((s.fl dev).1 = s ∧ (s.fl dev).2 = some 1 ∧ ¬ (0 ≤ dev ∧ dev < s.dv.length)) ∨ ((s.fl dev).1 = s.step.1 ∧ (s.fl dev).2 = some 3 ∧ s.step.2 = false ∧ (0 ≤ dev ∧ dev < s.dv.length)) ∨ ((s.fl dev).1 = { s.step.1 with dv := s.dv.set dev.toNat ((s.dv.getD dev.toNat default).settle (fun _ => some 0)) } ∧ (s.fl dev).2 = none ∧ s.step.2 = true ∧ (0 ≤ dev ∧ dev < s.dv.length)) := by
  unfold St.fl
  by_cases h : 0 ≤ dev ∧ dev < s.dv.length
  · rw [if_pos h]
    have hd := step_dv s
    generalize hq : s.step = q at *
    obtain ⟨t, b⟩ := q
    cases b with
    | true => exact .inr (.inr ⟨by simp only at hd; rw [← hd], rfl, rfl, h⟩)
    | false => exact .inr (.inl ⟨rfl, rfl, rfl, h⟩)
  · rw [if_neg h]; exact .inl ⟨rfl, rfl, h⟩

theorem Sm.of_dv {n : Nat} {s t : St} (h : Sm n s) (ht : t.dv = s.dv) : Sm n t := ⟨by rw [ht]; exact h.1, by rw [ht]; exact h.2⟩

theorem Sm.wr {n : Nat} {s : St} (h : Sm n s) (dev i : Int) (x : Sec) : Sm (n + 1) (s.wr dev i x).1 := by
  rcases wr_cases s dev i x with ⟨e, _⟩ | ⟨e, _⟩ | ⟨e, _⟩
  · rw [e]; exact h.up (by omega)
  · rw [e]; exact (h.of_dv (step_dv s)).up (by omega)
  · rw [e]; exact (h.up (show n ≤ n + 1 by omega)).set (by simp [Dv.put]; exact h.2 _) rfl

theorem Sm.fl {n : Nat} {s : St} (h : Sm n s) (dev : Int) : Sm n (s.fl dev).1 := by
  rcases fl_cases s dev with ⟨e, _⟩ | ⟨e, _⟩ | ⟨e, _⟩
  · rw [e]; exact h
  · rw [e]; exact h.of_dv (step_dv s)
  · rw [e]; exact h.set (by simp [Dv.settle]) rfl

theorem Sm.cr {n : Nat} {s : St} (h : Sm n s) (l : List Kp) : Sm n (s.cr l) := by
  refine ⟨by simp [St.cr]; exact h.1, fun i => ?_⟩
  simp only [St.cr, List.getD_eq_getElem?_getD, List.getElem?_mapIdx]
  cases s.dv[i]? with
  | none => simp [default]
  | some d => simp [Dv.settle]

theorem Sm.new {l : List Int} (h : l.length ≤ 5) : Sm 0 (newSt l) := by
  refine ⟨by simp [newSt]; exact h, fun i => ?_⟩
  simp only [newSt, List.getD_eq_getElem?_getD, List.getElem?_map]
  cases l[i]? with
  | none => simp [default]
  | some d => simp [newDv]

theorem Stn.use {H K F : Hp} {p : Nat} {s t : St} (hA : Stn H K F p s) {F' K' : Hp} (hX : SetX F' p t) (hl : Le F' K') (hf : ∀ b o, K b = some o → F b = none → K' b = some o ∧ F' b = none) : Stn H K' F' p t := by
  refine ⟨hX, hl, fun b o hb => (hf b o (hA.old b o hb) (hA.ap b (by rw [hb]; simp))).1, fun b hb => ?_⟩
  cases hc : H b with
  | none => exact absurd hc hb
  | some o => exact (hf b o (hA.old b o hc) (hA.ap b hb)).2

theorem Stn.put {H K F : Hp} {p : Nat} {s : St} (hA : Stn H K F p s) {b : Nat} (hb : F b = none) (o : Obj) : Stn (H.upd b o) (K.upd b o) F p s := by
  refine ⟨hA.set, le_upd_of hA.le hb, fun x u hx => ?_, fun x hx => ?_⟩
  · by_cases e : x = b
    · subst e; rw [upd_same] at hx ⊢; exact hx
    · rw [upd_ne _ _ e] at hx ⊢; exact hA.old x u hx
  · by_cases e : x = b
    · subst e; exact hb
    · rw [upd_ne _ _ e] at hx; exact hA.ap x hx

theorem Stn.fresh {H K F : Hp} {p : Nat} {s : St} (hA : Stn H K F p s) {b : Nat} (hb : K b = none) : F b = none := none_of_le hA.le hb

theorem Stn.less {H H' K F : Hp} {p : Nat} {s : St} (hA : Stn H K F p s) (hl : Le H' H) : Stn H' K F p s := ⟨hA.set, hA.le, Le.trans hl hA.old, fun b hb => hA.ap b (fun hn => hb (none_of_le hl hn))⟩

theorem Stn.more {H K F : Hp} {p : Nat} {s : St} (hA : Stn H K F p s) {K' : Hp} (hl : Le K K') : Stn H K' F p s := ⟨hA.set, Le.trans hA.le hl, Le.trans hA.old hl, hA.ap⟩

theorem writeL {H K F : Hp} {p : Nat} {s : St} (hA : Stn H K F p s) {n : Nat} (hs : Sm n s) (hn : n ≤ 1000000) (dev i : Int) (x : Sec) : CallH Try.prog 21 #[(.pointer (some ⟨p, 0, none⟩)), .int .i64 dev, .int .i64 i, x.v] K (fun v K' => v = errV (s.wr dev i x).2 ∧ ∃ F', Stn H K' F' p (s.wr dev i x).1) := by
  obtain ⟨r, cap, bs, Fs, h⟩ := hA.set
  refine (CallH.use (write_ok F p s r cap bs Fs h (Nat.le_trans hs.1 (by decide)) (fun i => Nat.le_trans (hs.2 i) hn) dev i x) hA.le).mono ?_
  rintro v K' ⟨F', ⟨rfl, hX⟩, hl, hf⟩
  exact ⟨rfl, F', hA.use hX hl hf⟩

theorem flushL {H K F : Hp} {p : Nat} {s : St} (hA : Stn H K F p s) {n : Nat} (hs : Sm n s) (hn : n ≤ 1000000) (dev : Int) : CallH Try.prog 37 #[(.pointer (some ⟨p, 0, none⟩)), .int .i64 dev] K (fun v K' => v = errV (s.fl dev).2 ∧ ∃ F', Stn H K' F' p (s.fl dev).1) := by
  obtain ⟨r, cap, bs, Fs, h⟩ := hA.set
  refine (CallH.use (flush_ok F p s r cap bs Fs h (Nat.le_trans hs.1 (by decide)) (fun i => Nat.le_trans (hs.2 i) hn) dev) hA.le).mono ?_
  rintro v K' ⟨F', ⟨rfl, hX⟩, hl, hf⟩
  exact ⟨rfl, F', hA.use hX hl hf⟩

theorem armL {H K F : Hp} {p : Nat} {s : St} (hA : Stn H K F p s) (n : Int) : CallH Try.prog 20 #[(.pointer (some ⟨p, 0, none⟩)), .int .i64 n] K (fun v K' => v = errV (if n < 0 then some 1 else none) ∧ ∃ F', Stn H K' F' p (if n < 0 then s else { s with armed := true, left := n })) := by
  obtain ⟨r, cap, bs, Fs, h⟩ := hA.set
  refine (CallH.use (arm_ok F p s r cap bs Fs h n) hA.le).mono ?_
  rintro v K' ⟨F', ⟨rfl, hX⟩, hl, hf⟩
  exact ⟨rfl, F', hA.use hX hl hf⟩

theorem crashL {H K F : Hp} {p : Nat} {s : St} (hA : Stn H K F p s) {n : Nat} (hs : Sm n s) (hn : n ≤ 1000000) {G : Hp} (hG : Le G K) (hGF : ∀ x, G x ≠ none → F x = none) (hGH : ∀ x, G x ≠ none → H x = none) (a : Option Addr) (cap : Nat) (l : List Kp) (hv : Holds G 3 (.slice a l.length cap) l.length (kps l)) (hl : l.length ≤ 1000) : CallH Try.prog 17 #[(.pointer (some ⟨p, 0, none⟩)), .slice a l.length cap] K (fun _ K' => ∃ F', Stn H K' F' p (s.cr l)) := by
  obtain ⟨r, cap', bs, Fs, h⟩ := hA.set
  have hap : F.apart G := fun b hb => hGF b hb
  have hfg : ∀ x, F x ≠ none → G x = none := fun x hx => by
    cases hc : G x with
    | none => rfl
    | some o => exact absurd (hGF x (by rw [hc]; simp)) hx
  have hpF : F p ≠ none := by rw [h.hd]; simp
  refine (CallH.use (crash_ok (F.join G) p s r cap' bs Fs (h.mono (le_join F G)) (Nat.le_trans hs.1 (by decide)) (fun i => Nat.le_trans (hs.2 i) hn) G (le_join_r hap) (hfg p hpF) (fun i hi x hx => hfg x (fun hn => hx (none_of_le (h.le i hi) hn))) a cap l hv hl) (join_le hA.le hG)).mono ?_
  rintro v K' ⟨F', hX, hl', hf⟩
  have hf' : ∀ b o, H b = some o → K' b = some o ∧ F' b = none := fun b o hb => by
    refine hf b o (hA.old b o hb) ?_
    have h1 : F b = none := hA.ap b (by rw [hb]; simp)
    rw [join_r h1]
    cases hc : G b with
    | none => rfl
    | some u => have := hGH b (by rw [hc]; simp); rw [hb] at this; cases this
  refine ⟨F', hX, hl', fun b o hb => (hf' b o hb).1, fun b hb => ?_⟩
  cases hc : H b with
  | none => exact absurd hc hb
  | some o => exact (hf' b o hc).2

theorem readL {H K F : Hp} {p : Nat} {s : St} (hA : Stn H K F p s) {n : Nat} (hs : Sm n s) (hn : n ≤ 1000000) (dev i : Int) : CallH Try.prog 54 #[(.pointer (some ⟨p, 0, none⟩)), .int .i64 dev, .int .i64 i] K (fun v K' => v = .tuple #[(s.rd dev i).1.v, errV (s.rd dev i).2] ∧ K' = K) := by
  obtain ⟨r, cap, bs, Fs, h⟩ := hA.set
  exact read_ok K p s r cap bs Fs (h.mono hA.le) (Nat.le_trans hs.1 (by decide)) (fun i => Nat.le_trans (hs.2 i) hn) dev i

theorem downL {H K F : Hp} {p : Nat} {s : St} (hA : Stn H K F p s) : CallH Try.prog 52 #[(.pointer (some ⟨p, 0, none⟩))] K (fun v K' => v = .bool s.gone ∧ K' = K) := by
  obtain ⟨r, cap, bs, Fs, h⟩ := hA.set
  exact down_ok K p s r cap bs Fs (h.mono hA.le)

def St.wa (s : St) (dev : Int) : Int := if 0 ≤ dev ∧ dev < s.dv.length then ((s.dv.getD dev.toNat default).wait.length : Int) else 0

def St.sz (s : St) (dev : Int) : Int := if 0 ≤ dev ∧ dev < s.dv.length then (s.dv.getD dev.toNat default).size else 0

theorem sizeL {H K F : Hp} {p : Nat} {s : St} (hA : Stn H K F p s) {n : Nat} (hs : Sm n s) (dev : Int) : CallH Try.prog 31 #[(.pointer (some ⟨p, 0, none⟩)), .int .i64 dev] K (fun v K' => v = .int .i64 (s.sz dev) ∧ K' = K) := by
  obtain ⟨r, cap, bs, Fs, h⟩ := hA.set
  unfold St.sz
  by_cases hin : 0 ≤ dev ∧ dev < s.dv.length
  · rw [if_pos hin]; exact size_in K p s r cap bs Fs (h.mono hA.le) (Nat.le_trans hs.1 (by decide)) dev hin
  · rw [if_neg hin]; exact size_out K p s r cap bs Fs (h.mono hA.le) (Nat.le_trans hs.1 (by decide)) dev hin

theorem newL (H : Hp) (a : Option Addr) (cap : Nat) (l : List Int) (hv : Holds H 1 (.slice a l.length cap) l.length (l.map (Value.int .i64))) (hg : goodN l = true) (hl : l.length ≤ 1000) : CallH Try.prog 9 #[.slice a l.length cap] H (fun v H' => ∃ p F, v = .tuple #[ptrV p, errV none] ∧ Stn H H' F p (newSt l)) := by
  refine (new_ok H a cap l hv hl).mono ?_
  rintro v H' (⟨h1, _, _⟩ | ⟨_, hle, p, rfl, F, hX, hF, hd⟩)
  · rw [hg] at h1; cases h1
  · refine ⟨p, F, rfl, hX, hF, hle, fun b hb => ?_⟩
    cases hc : F b with
    | none => rfl
    | some o => exact absurd (hd b (by rw [hc]; simp)) hb

end Go.Proofs.Ytcjdkfhmlnfedaa.HL
end
section
namespace Go.Proofs.Ytcjdkfhmlnfedaa.HL
open Go Go.Proofs
set_option linter.unusedSimpArgs false
set_option linter.unusedVariables false
attribute [local irreducible] Lt Lq CW OW TW CallH


theorem Stn.side {H K F : Hp} {p : Nat} {s : St} (hA : Stn H K F p s) {G K' : Hp} (lG : Le G K') (hk : ∀ b o, K b = some o → H b = none → K' b = some o ∧ G b = none) : Stn G K' F p s := by
  have hx : ∀ b o, F b = some o → K' b = some o ∧ G b = none := fun b o hb => hk b o (hA.le b o hb) (by
    cases hc : H b with
    | none => rfl
    | some o' => have := hA.ap b (by rw [hc]; simp); rw [hb] at this; cases this)
  refine ⟨hA.set, fun b o hb => (hx b o hb).1, lG, fun b hb => ?_⟩
  cases hc : F b with
  | none => rfl
  | some o => exact absurd (hx b o hc).2 hb
theorem Stn.off {H K F : Hp} {p : Nat} {s : St} (hA : Stn H K F p s) {b : Nat} (hF : F b = none) (hH : H b = none) (o : Obj) : Stn H (K.upd b o) F p s := ⟨hA.set, le_upd_of hA.le hF, le_upd_of hA.old hH, hA.ap⟩
theorem Stn.del {H K F : Hp} {p : Nat} {s : St} (hA : Stn H K F p s) {b : Nat} (hF : F b = none) (hH : H b = none) : Stn H (K.del b) F p s :=
  ⟨hA.set, fun x o hx => (del_ne _ (fun e => by subst e; rw [hF] at hx; cases hx)).trans (hA.le x o hx), fun x o hx => (del_ne _ (fun e => by subst e; rw [hH] at hx; cases hx)).trans (hA.old x o hx), hA.ap⟩
def areaI (sz : Int) : Int := (max 0 (sz - 2)) / 2
def needI (n : Int) : Int := if n < 1 then 0 else (n - 1) / 50 + 1
def fitsI (sz n : Int) : Bool := decide (0 ≤ n) && decide (needI n ≤ areaI sz)
def askI (gen ar : Int) : Bool := decide (1 ≤ gen) && decide (gen ≤ 17179869183) && decide (0 ≤ ar) && decide (ar < 2)
def secI (gen : Int) (b : List Int) (i : Nat) : Sec := ⟨sealI (gen * 8192 + i + 1) 4 (chk b i), sealI_len _ _ _⟩
/-- so many parts of an image are written -/
def St.saveN (s : St) (gen ar : Int) (b : List Int) : Nat → St × Option Int
  | 0 => (s, none)
  | n + 1 => match s.saveN gen ar b n with
    | (t, none) => t.wr 0 (2 + ar * areaI (s.sz 0) + n) (secI gen b n)
    | (t, some e) => (t, some e)
def St.save (s : St) (gen ar : Int) (b : List Int) : St × Option Int :=
  if askI gen ar = false then (s, some 1) else if fitsI (s.sz 0) b.length = false then (s, some 4) else match s.saveN gen ar b (chN b) with
    | (t, none) => t.fl 0
    | (t, some e) => (t, some e)
/-- what so many slabs of an image hold -/
def St.loadN (s : St) (gen ar n : Int) : Nat → Option (List Int)
  | 0 => some []
  | k + 1 => match s.loadN gen ar n k with
    | none => none
    | some o => if isB (s.rd 0 (2 + ar * areaI (s.sz 0) + k)).1.b (gen * 8192 + k + 1) 4 = true ∧ ((isD (s.rd 0 (2 + ar * areaI (s.sz 0) + k)).1.b (gen * 8192 + k + 1) 4).length : Int) = min 50 (n - o.length) then some (o ++ isD (s.rd 0 (2 + ar * areaI (s.sz 0) + k)).1.b (gen * 8192 + k + 1) 4) else none
def St.load (s : St) (gen ar n : Int) : List Int × Option Int :=
  if askI gen ar = false then ([], some 1) else if n < 0 then ([], some 1) else if s.gone = true then ([], some 3) else if fitsI (s.sz 0) n = false then ([], some 9) else match s.loadN gen ar n (needI n).toNat with
    | none => ([], some 9)
    | some o => (o, none)
theorem areaI_le {sz : Int} (h : sz ≤ 5000) : 0 ≤ areaI sz ∧ areaI sz ≤ 2500 := by unfold areaI; omega
theorem needI_eq (b : List Int) : needI b.length = chN b := by unfold needI chN; split <;> omega
theorem needI_le {n : Int} : 0 ≤ needI n := by unfold needI; split <;> omega

set_option maxRecDepth 100000 in
set_option maxHeartbeats 1000000 in
theorem area_ok {H K F : Hp} {p : Nat} {s : St} (hA : Stn H K F p s) {n : Nat} (hs : Sm n s) (hz0 : 0 ≤ s.sz 0) (hz : s.sz 0 ≤ 5000) : CallH Try.prog 11 #[.pointer (some ⟨p, 0, none⟩)] K (fun v K' => v = .int .i64 (areaI (s.sz 0)) ∧ K' = K) := by
  refine CallH_enter (l := [_]) (rl := [.tmp 2]) (n := 8) Try.func11 rfl rfl rfl rfl rfl ?_
  simp only [envOf, Nat.reduceAdd]
  refine CW_seq (fun K1 hK1 => ?_)
  refine CW_region ?_
  refine OW_as rfl ?_
  refine OW_nil ?_
  try simp only [Ex.thnH, Ex.inBlockH, ↓reduceIte, Nat.reduceEqDiff]
  refine hK1 _ _ ?_; try clear hK1 K1
  refine CW_seq (fun K2 hK2 => ?_)
  refine CW_region ?_
  refine OW_mv rfl ?_
  refine OW_opS (fun K hK r => ?_)
  simp only [x_callF _ bd31, List.map_toArray, List.map_cons, List.map_nil, eX, ↓reduceIte, Nat.reduceEqDiff, Int.reduceToNat]
  refine (sizeL hA hs 0).mono ?_
  rintro v H' ⟨rfl, rfl⟩
  try simp only [eX, ↓reduceIte, Nat.reduceEqDiff, Int.reduceToNat]
  refine hK _ _ ?_; clear hK K
  refine OW_opS (fun K hK r => ?_)
  simp (disch := (first | omega | decide)) only [x_bin, g_int, b_sub, wrap_i64, wrap_u64, wrap_u32, wrap_u8, eX, ↓reduceIte, Nat.reduceEqDiff, Int.reduceToNat]
  refine hK _ _ ?_; clear hK K
  refine OW_opS (fun K hK r => ?_)
  simp only [x_builtin, l_max, List.map_toArray, List.map_cons, List.map_nil, i_max2, eX, ↓reduceIte, Nat.reduceEqDiff, Int.reduceToNat]
  refine hK _ _ ?_; clear hK K
  refine OW_opS (fun K hK r => ?_)
  simp (disch := (first | omega | decide)) only [x_bin, g_int, b_quo, wrap_i64, wrap_u64, wrap_u32, wrap_u8, eX, ↓reduceIte, Nat.reduceEqDiff, Int.reduceToNat]
  refine hK _ _ ?_; clear hK K
  refine OW_as rfl ?_
  refine OW_nil ?_
  try simp only [Ex.thnH, Ex.inBlockH, ↓reduceIte, Nat.reduceEqDiff]
  refine hK2 _ _ ?_; try clear hK2 K2
  refine CW_ret ?_
  try simp only [Ex.thnH, Ex.inBlockH, ↓reduceIte, Nat.reduceEqDiff]
  refine ⟨[_], ⟨rfl, trivial⟩, _, Le.refl _, ?_, rfl⟩
  show Value.int _ _ = Value.int _ _
  congr 1
  unfold areaI
  have e : (if s.sz 0 - 2 > 0 then s.sz 0 - 2 else 0) = max 0 (s.sz 0 - 2) := by split <;> omega
  rw [e, Int.tdiv_eq_ediv_of_nonneg (by omega), wrap_i64 _ (by omega) (by omega)]

set_option maxRecDepth 100000 in
set_option maxHeartbeats 1000000 in
theorem fits_ok {H K F : Hp} {p : Nat} {s : St} (hA : Stn H K F p s) {n : Nat} (hs : Sm n s) (hz0 : 0 ≤ s.sz 0) (hz : s.sz 0 ≤ 5000) (l : Int) (h1 : -9223372036854775808 ≤ l) (h2 : l ≤ 9223372036854775807) : CallH Try.prog 26 #[.pointer (some ⟨p, 0, none⟩), .int .i64 l] K (fun v K' => v = .bool (fitsI (s.sz 0) l) ∧ K' = K) := by
  refine CallH_enter (l := [_, _]) (rl := [.tmp 4]) (n := 14) Try.func26 rfl rfl rfl rfl rfl ?_
  simp only [envOf, Nat.reduceAdd]
  refine CW_seq (fun K1 hK1 => ?_)
  refine CW_region ?_
  refine OW_as rfl ?_
  refine OW_nil ?_
  try simp only [Ex.thnH, Ex.inBlockH, ↓reduceIte, Nat.reduceEqDiff]
  refine hK1 _ _ ?_; try clear hK1 K1
  refine CW_seq (fun K2 hK2 => ?_)
  refine CW_region ?_
  refine OW_mv rfl ?_
  refine OW_opS (fun K hK r => ?_)
  simp (disch := (first | omega | decide)) only [x_bin, g_int, b_geq, dec_lt_t, dec_lt_f, dec_le_t, dec_le_f, dec_eq_t, dec_eq_f, Bool.not_true, Bool.not_false, eX, ↓reduceIte, Nat.reduceEqDiff, Int.reduceToNat]
  refine hK _ _ ?_; clear hK K
  refine OW_mv rfl ?_
  (first | refine OW_split (d := 7) rfl (fun g7 => ?_) (fun g7 => ?_) | skip)
  all_goals try (exfalso; exact cnA g7)
  all_goals (try simp only [decide_eq_true_eq, decide_eq_false_iff_not, Bool.not_eq_true, Bool.not_eq_false, Bool.and_eq_true, Bool.or_eq_true, Bool.or_eq_false_iff, Bool.not_eq_true, Bool.not_eq_eq_eq_not, Bool.not_true, Bool.not_false] at g7)
  all_goals
    try simp only [eX, ↓reduceIte, Nat.reduceEqDiff, Int.reduceToNat]
    first
    | refine OW_guardT rfl (lt_some (by decide)) rfl (fun K hK r => ?_)
      simp only [x_move, eX, ↓reduceIte, Nat.reduceEqDiff, Int.reduceToNat]
      refine hK _ _ ?_; clear hK K
    | refine OW_guardF rfl (lt_some (by decide)) rfl ?_
      simp only [eX, ↓reduceIte, Nat.reduceEqDiff, Int.reduceToNat]
    first
    | refine OW_guardT rfl (lt_some (by decide)) rfl (fun K hK r => ?_)
      simp only [x_callF _ bd53, List.map_toArray, List.map_cons, List.map_nil, eX, ↓reduceIte, Nat.reduceEqDiff, Int.reduceToNat]
      refine (Need_ok _ l h1 h2).mono ?_
      rintro v H' ⟨rfl, rfl⟩
      try simp only [eX, ↓reduceIte, Nat.reduceEqDiff, Int.reduceToNat]
      refine hK _ _ ?_; clear hK K
    | refine OW_guardF rfl (lt_some (by decide)) rfl ?_
      simp only [eX, ↓reduceIte, Nat.reduceEqDiff, Int.reduceToNat]
    first
    | refine OW_guardT rfl (lt_some (by decide)) rfl (fun K hK r => ?_)
      simp only [x_move, eX, ↓reduceIte, Nat.reduceEqDiff, Int.reduceToNat]
      refine hK _ _ ?_; clear hK K
    | refine OW_guardF rfl (lt_some (by decide)) rfl ?_
      simp only [eX, ↓reduceIte, Nat.reduceEqDiff, Int.reduceToNat]
    first
    | refine OW_guardT rfl (lt_some (by decide)) rfl (fun K hK r => ?_)
      simp only [x_callF _ bd11, List.map_toArray, List.map_cons, List.map_nil, eX, ↓reduceIte, Nat.reduceEqDiff, Int.reduceToNat]
      refine (area_ok hA hs hz0 hz).mono ?_
      rintro v H' ⟨rfl, rfl⟩
      try simp only [eX, ↓reduceIte, Nat.reduceEqDiff, Int.reduceToNat]
      refine hK _ _ ?_; clear hK K
    | refine OW_guardF rfl (lt_some (by decide)) rfl ?_
      simp only [eX, ↓reduceIte, Nat.reduceEqDiff, Int.reduceToNat]
    first
    | refine OW_guardT rfl (lt_some (by decide)) rfl (fun K hK r => ?_)
      simp (disch := (first | omega | decide)) only [x_bin, g_int, b_leq, dec_lt_t, dec_lt_f, dec_le_t, dec_le_f, dec_eq_t, dec_eq_f, Bool.not_true, Bool.not_false, eX, ↓reduceIte, Nat.reduceEqDiff, Int.reduceToNat]
      refine hK _ _ ?_; clear hK K
    | refine OW_guardF rfl (lt_some (by decide)) rfl ?_
      simp only [eX, ↓reduceIte, Nat.reduceEqDiff, Int.reduceToNat]
    refine OW_opS (fun K hK r => ?_)
    simp only [x_pick, l_asBool, HL.ite_bool, if_true, if_false, Bool.false_eq_true, eX, ↓reduceIte, Nat.reduceEqDiff, Int.reduceToNat]
    refine hK _ _ ?_; clear hK K
    refine OW_as rfl ?_
    refine OW_nil ?_
    try simp only [Ex.thnH, Ex.inBlockH, ↓reduceIte, Nat.reduceEqDiff]
    refine hK2 _ _ ?_; try clear hK2 K2
    refine CW_ret ?_
    try simp only [Ex.thnH, Ex.inBlockH, ↓reduceIte, Nat.reduceEqDiff]
    refine ⟨[_], ⟨rfl, trivial⟩, _, Le.refl _, ?_, rfl⟩
    show Value.bool _ = Value.bool _
    congr 1
    unfold fitsI needI
    first | (simp_all; done) | (rw [decide_eq_false (by assumption)]; rfl)

set_option maxRecDepth 100000 in
set_option maxHeartbeats 1000000 in
theorem asked_ok (K : Hp) (p : Nat) (gen ar : Int) : CallH Try.prog 33 #[.pointer (some ⟨p, 0, none⟩), .int .i64 gen, .int .i64 ar] K (fun v K' => v = errV (if askI gen ar = true then none else some 1) ∧ K' = K) := by
  refine CallH_enter (l := [_, _, _]) (rl := [.tmp 6]) (n := 26) Try.func33 rfl rfl rfl rfl rfl ?_
  simp only [envOf, Nat.reduceAdd]
  refine CW_seq (fun K1 hK1 => ?_)
  refine CW_region ?_
  refine OW_as rfl ?_
  refine OW_nil ?_
  try simp only [Ex.thnH, Ex.inBlockH, ↓reduceIte, Nat.reduceEqDiff]
  refine hK1 _ _ ?_; try clear hK1 K1
  refine CW_seq (fun K2 hK2 => ?_)
  refine CW_seq (fun K3 hK3 => ?_)
  refine CW_region ?_
  refine OW_mv rfl ?_
  refine OW_opS (fun K hK r => ?_)
  simp only [x_bin, g_int, g_bool, g_string, g_pointer, g_slice, g_map, g_func, g_nilFunc, g_iface, g_nil_iface, g_nil_r, g_nil_l, eX, ↓reduceIte, Nat.reduceEqDiff, Int.reduceToNat]
  rw [e_eql _ _ _ _ (by simp)]
  rw [q_equal]
  first | rw [q_ptr_nil _ _ _ Try.underlying31] | rw [q_nil_ptr _ _ _ Try.underlying31]
  try simp only [eX, ↓reduceIte, Nat.reduceEqDiff, Int.reduceToNat]
  refine hK _ _ ?_; clear hK K
  refine OW_mv rfl ?_
  (first | refine OW_split (d := 9) rfl (fun g9 => ?_) (fun g9 => ?_) | skip)
  all_goals try (exfalso; exact cnA g9)
  all_goals (try simp only [decide_eq_true_eq, decide_eq_false_iff_not, Bool.not_eq_true, Bool.not_eq_false, Bool.and_eq_true, Bool.or_eq_true, Bool.or_eq_false_iff, Bool.not_eq_true, Bool.not_eq_eq_eq_not, Bool.not_true, Bool.not_false] at g9)
  all_goals
    try simp only [eX, ↓reduceIte, Nat.reduceEqDiff, Int.reduceToNat]
    first
    | refine OW_guardT rfl (lt_some (by decide)) rfl (fun K hK r => ?_)
      simp only [x_move, eX, ↓reduceIte, Nat.reduceEqDiff, Int.reduceToNat]
      refine hK _ _ ?_; clear hK K
    | refine OW_guardF rfl (lt_some (by decide)) rfl ?_
      simp only [eX, ↓reduceIte, Nat.reduceEqDiff, Int.reduceToNat]
    first
    | refine OW_guardT rfl (lt_some (by decide)) rfl (fun K hK r => ?_)
      simp (disch := (first | omega | decide)) only [x_bin, g_int, b_lss, dec_lt_t, dec_lt_f, dec_le_t, dec_le_f, dec_eq_t, dec_eq_f, Bool.not_true, Bool.not_false, eX, ↓reduceIte, Nat.reduceEqDiff, Int.reduceToNat]
      refine hK _ _ ?_; clear hK K
    | refine OW_guardF rfl (lt_some (by decide)) rfl ?_
      simp only [eX, ↓reduceIte, Nat.reduceEqDiff, Int.reduceToNat]
    refine OW_opS (fun K hK r => ?_)
    simp only [x_pick, l_asBool, HL.ite_bool, if_true, if_false, Bool.false_eq_true, eX, ↓reduceIte, Nat.reduceEqDiff, Int.reduceToNat]
    refine hK _ _ ?_; clear hK K
    refine OW_mv rfl ?_
    (first | refine OW_split (d := 13) rfl (fun g13 => ?_) (fun g13 => ?_) | skip)
    all_goals try (exfalso; exact cnA g13)
    all_goals (try simp only [decide_eq_true_eq, decide_eq_false_iff_not, Bool.not_eq_true, Bool.not_eq_false, Bool.and_eq_true, Bool.or_eq_true, Bool.or_eq_false_iff, Bool.not_eq_true, Bool.not_eq_eq_eq_not, Bool.not_true, Bool.not_false] at g13)
    all_goals
      try simp only [eX, ↓reduceIte, Nat.reduceEqDiff, Int.reduceToNat]
      first
      | refine OW_guardT rfl (lt_some (by decide)) rfl (fun K hK r => ?_)
        simp only [x_move, eX, ↓reduceIte, Nat.reduceEqDiff, Int.reduceToNat]
        refine hK _ _ ?_; clear hK K
      | refine OW_guardF rfl (lt_some (by decide)) rfl ?_
        simp only [eX, ↓reduceIte, Nat.reduceEqDiff, Int.reduceToNat]
      first
      | refine OW_guardT rfl (lt_some (by decide)) rfl (fun K hK r => ?_)
        simp (disch := (first | omega | decide)) only [x_bin, g_int, b_gtr, dec_lt_t, dec_lt_f, dec_le_t, dec_le_f, dec_eq_t, dec_eq_f, Bool.not_true, Bool.not_false, eX, ↓reduceIte, Nat.reduceEqDiff, Int.reduceToNat]
        refine hK _ _ ?_; clear hK K
      | refine OW_guardF rfl (lt_some (by decide)) rfl ?_
        simp only [eX, ↓reduceIte, Nat.reduceEqDiff, Int.reduceToNat]
      refine OW_opS (fun K hK r => ?_)
      simp only [x_pick, l_asBool, HL.ite_bool, if_true, if_false, Bool.false_eq_true, eX, ↓reduceIte, Nat.reduceEqDiff, Int.reduceToNat]
      refine hK _ _ ?_; clear hK K
      refine OW_mv rfl ?_
      (first | refine OW_split (d := 17) rfl (fun g17 => ?_) (fun g17 => ?_) | skip)
      all_goals try (exfalso; exact cnA g17)
      all_goals (try simp only [decide_eq_true_eq, decide_eq_false_iff_not, Bool.not_eq_true, Bool.not_eq_false, Bool.and_eq_true, Bool.or_eq_true, Bool.or_eq_false_iff, Bool.not_eq_true, Bool.not_eq_eq_eq_not, Bool.not_true, Bool.not_false] at g17)
      all_goals
        try simp only [eX, ↓reduceIte, Nat.reduceEqDiff, Int.reduceToNat]
        first
        | refine OW_guardT rfl (lt_some (by decide)) rfl (fun K hK r => ?_)
          simp only [x_move, eX, ↓reduceIte, Nat.reduceEqDiff, Int.reduceToNat]
          refine hK _ _ ?_; clear hK K
        | refine OW_guardF rfl (lt_some (by decide)) rfl ?_
          simp only [eX, ↓reduceIte, Nat.reduceEqDiff, Int.reduceToNat]
        first
        | refine OW_guardT rfl (lt_some (by decide)) rfl (fun K hK r => ?_)
          simp (disch := (first | omega | decide)) only [x_bin, g_int, b_lss, dec_lt_t, dec_lt_f, dec_le_t, dec_le_f, dec_eq_t, dec_eq_f, Bool.not_true, Bool.not_false, eX, ↓reduceIte, Nat.reduceEqDiff, Int.reduceToNat]
          refine hK _ _ ?_; clear hK K
        | refine OW_guardF rfl (lt_some (by decide)) rfl ?_
          simp only [eX, ↓reduceIte, Nat.reduceEqDiff, Int.reduceToNat]
        refine OW_opS (fun K hK r => ?_)
        simp only [x_pick, l_asBool, HL.ite_bool, if_true, if_false, Bool.false_eq_true, eX, ↓reduceIte, Nat.reduceEqDiff, Int.reduceToNat]
        refine hK _ _ ?_; clear hK K
        refine OW_mv rfl ?_
        (first | refine OW_split (d := 21) rfl (fun g21 => ?_) (fun g21 => ?_) | skip)
        all_goals try (exfalso; exact cnA g21)
        all_goals (try simp only [decide_eq_true_eq, decide_eq_false_iff_not, Bool.not_eq_true, Bool.not_eq_false, Bool.and_eq_true, Bool.or_eq_true, Bool.or_eq_false_iff, Bool.not_eq_true, Bool.not_eq_eq_eq_not, Bool.not_true, Bool.not_false] at g21)
        all_goals
          try simp only [eX, ↓reduceIte, Nat.reduceEqDiff, Int.reduceToNat]
          first
          | refine OW_guardT rfl (lt_some (by decide)) rfl (fun K hK r => ?_)
            simp only [x_move, eX, ↓reduceIte, Nat.reduceEqDiff, Int.reduceToNat]
            refine hK _ _ ?_; clear hK K
          | refine OW_guardF rfl (lt_some (by decide)) rfl ?_
            simp only [eX, ↓reduceIte, Nat.reduceEqDiff, Int.reduceToNat]
          first
          | refine OW_guardT rfl (lt_some (by decide)) rfl (fun K hK r => ?_)
            simp (disch := (first | omega | decide)) only [x_bin, g_int, b_geq, dec_lt_t, dec_lt_f, dec_le_t, dec_le_f, dec_eq_t, dec_eq_f, Bool.not_true, Bool.not_false, eX, ↓reduceIte, Nat.reduceEqDiff, Int.reduceToNat]
            refine hK _ _ ?_; clear hK K
          | refine OW_guardF rfl (lt_some (by decide)) rfl ?_
            simp only [eX, ↓reduceIte, Nat.reduceEqDiff, Int.reduceToNat]
          refine OW_opS (fun K hK r => ?_)
          simp only [x_pick, l_asBool, HL.ite_bool, if_true, if_false, Bool.false_eq_true, eX, ↓reduceIte, Nat.reduceEqDiff, Int.reduceToNat]
          refine hK _ _ ?_; clear hK K
          refine OW_nil ?_
          try simp only [Ex.thnH, Ex.inBlockH, ↓reduceIte, Nat.reduceEqDiff]
          refine hK3 _ _ ?_; try clear hK3 K3
          refine CW_cond (fun r => rfl) (fun c24 => ?_) (fun c24 => ?_)
          · first
            | (exfalso; exact cnA c24; done)
            | skip
              (try simp only [decide_eq_true_eq, decide_eq_false_iff_not, Bool.not_eq_true, Bool.not_eq_false, Bool.and_eq_true, Bool.or_eq_true, Bool.or_eq_false_iff, Bool.not_eq_true, Bool.not_eq_eq_eq_not, Bool.not_true, Bool.not_false] at c24)
              refine CW_seq (fun K4 hK4 => ?_)
              refine CW_region ?_
              refine OW_opS (fun K hK r => ?_)
              simp only [x_makeInterface, i_makeInterface, Try.underlying73, orF_some, eX, ↓reduceIte, Nat.reduceEqDiff, Int.reduceToNat]
              refine hK _ _ ?_; clear hK K
              refine OW_as rfl ?_
              refine OW_nil ?_
              try simp only [Ex.thnH, Ex.inBlockH, ↓reduceIte, Nat.reduceEqDiff]
              refine hK4 _ _ ?_; try clear hK4 K4
              refine CW_ret ?_
              try simp only [Ex.thnH, Ex.inBlockH, ↓reduceIte, Nat.reduceEqDiff]
              refine ⟨[_], ⟨rfl, trivial⟩, _, Le.refl _, ?_, rfl⟩
              have e : askI gen ar = false := by
                unfold askI
                simp only [Bool.and_eq_false_iff, decide_eq_false_iff_not]
                omega
              rw [if_neg (by rw [e]; simp)]
              rfl
          · first
            | (exfalso; exact cnA c24; done)
            | skip
              (try simp only [decide_eq_true_eq, decide_eq_false_iff_not, Bool.not_eq_true, Bool.not_eq_false, Bool.and_eq_true, Bool.or_eq_true, Bool.or_eq_false_iff, Bool.not_eq_true, Bool.not_eq_eq_eq_not, Bool.not_true, Bool.not_false] at c24)
              refine CW_skip ?_
              try simp only [Ex.thnH, Ex.inBlockH, ↓reduceIte, Nat.reduceEqDiff]
              refine hK2 _ _ ?_; try clear hK2 K2
              refine CW_seq (fun K5 hK5 => ?_)
              refine CW_region ?_
              refine OW_as rfl ?_
              refine OW_nil ?_
              try simp only [Ex.thnH, Ex.inBlockH, ↓reduceIte, Nat.reduceEqDiff]
              refine hK5 _ _ ?_; try clear hK5 K5
              refine CW_ret ?_
              try simp only [Ex.thnH, Ex.inBlockH, ↓reduceIte, Nat.reduceEqDiff]
              refine ⟨[_], ⟨rfl, trivial⟩, _, Le.refl _, ?_, rfl⟩
              have e : askI gen ar = true := by
                unfold askI
                simp only [Bool.and_eq_true, decide_eq_true_eq]
                omega
              rw [if_pos e]
              rfl

set_option maxRecDepth 100000 in
set_option maxHeartbeats 1000000 in
theorem place_ok {H K F : Hp} {p : Nat} {s : St} (hA : Stn H K F p s) {n : Nat} (hs : Sm n s) (hz0 : 0 ≤ s.sz 0) (hz : s.sz 0 ≤ 5000) (gen ar i : Int) (hg : 0 ≤ gen ∧ gen ≤ 17179869183) (ha : 0 ≤ ar ∧ ar < 2) (hi : 0 ≤ i ∧ i ≤ 100000) : CallH Try.prog 35 #[.pointer (some ⟨p, 0, none⟩), .int .i64 gen, .int .i64 ar, .int .i64 i] K (fun v K' => v = .tuple #[.int .i64 (2 + ar * areaI (s.sz 0) + i), .int .i64 (gen * 8192 + i + 1)] ∧ K' = K) := by
  refine CallH_enter (l := [_, _, _, _]) (rl := [.tmp 8, .tmp 9]) (n := 22) Try.func35 rfl rfl rfl rfl rfl ?_
  simp only [envOf, Nat.reduceAdd]
  have hal := areaI_le hz
  have hmul : 0 ≤ ar * areaI (s.sz 0) ∧ ar * areaI (s.sz 0) ≤ 2500 := by
    rcases (show ar = 0 ∨ ar = 1 by omega) with rfl | rfl
    · omega
    · omega
  refine CW_seq (fun K1 hK1 => ?_)
  refine CW_region ?_
  refine OW_as rfl ?_
  refine OW_as rfl ?_
  refine OW_nil ?_
  try simp only [Ex.thnH, Ex.inBlockH, ↓reduceIte, Nat.reduceEqDiff]
  refine hK1 _ _ ?_; try clear hK1 K1
  refine CW_seq (fun K2 hK2 => ?_)
  refine CW_region ?_
  refine OW_mv rfl ?_
  refine OW_mv rfl ?_
  refine OW_opS (fun K hK r => ?_)
  simp only [x_callF _ bd11, List.map_toArray, List.map_cons, List.map_nil, eX, ↓reduceIte, Nat.reduceEqDiff, Int.reduceToNat]
  refine (area_ok hA hs hz0 hz).mono ?_
  rintro v H' ⟨rfl, rfl⟩
  try simp only [eX, ↓reduceIte, Nat.reduceEqDiff, Int.reduceToNat]
  refine hK _ _ ?_; clear hK K
  refine OW_opS (fun K hK r => ?_)
  simp (disch := (first | omega | decide)) only [x_bin, g_int, b_mul, wrap_i64, wrap_u64, wrap_u32, wrap_u8, eX, ↓reduceIte, Nat.reduceEqDiff, Int.reduceToNat]
  refine hK _ _ ?_; clear hK K
  refine OW_opS (fun K hK r => ?_)
  simp (disch := (first | omega | decide)) only [x_bin, g_int, b_add, wrap_i64, wrap_u64, wrap_u32, wrap_u8, eX, ↓reduceIte, Nat.reduceEqDiff, Int.reduceToNat]
  refine hK _ _ ?_; clear hK K
  refine OW_mv rfl ?_
  refine OW_opS (fun K hK r => ?_)
  simp (disch := (first | omega | decide)) only [x_bin, g_int, b_add, wrap_i64, wrap_u64, wrap_u32, wrap_u8, eX, ↓reduceIte, Nat.reduceEqDiff, Int.reduceToNat]
  refine hK _ _ ?_; clear hK K
  refine OW_mv rfl ?_
  refine OW_opS (fun K hK r => ?_)
  simp (disch := (first | omega | decide)) only [x_bin, g_int, b_mul, wrap_i64, wrap_u64, wrap_u32, wrap_u8, eX, ↓reduceIte, Nat.reduceEqDiff, Int.reduceToNat]
  refine hK _ _ ?_; clear hK K
  refine OW_mv rfl ?_
  refine OW_opS (fun K hK r => ?_)
  simp (disch := (first | omega | decide)) only [x_bin, g_int, b_add, wrap_i64, wrap_u64, wrap_u32, wrap_u8, eX, ↓reduceIte, Nat.reduceEqDiff, Int.reduceToNat]
  refine hK _ _ ?_; clear hK K
  refine OW_opS (fun K hK r => ?_)
  simp (disch := (first | omega | decide)) only [x_bin, g_int, b_add, wrap_i64, wrap_u64, wrap_u32, wrap_u8, eX, ↓reduceIte, Nat.reduceEqDiff, Int.reduceToNat]
  refine hK _ _ ?_; clear hK K
  refine OW_as rfl ?_
  refine OW_as rfl ?_
  refine OW_nil ?_
  try simp only [Ex.thnH, Ex.inBlockH, ↓reduceIte, Nat.reduceEqDiff]
  refine hK2 _ _ ?_; try clear hK2 K2
  refine CW_ret ?_
  try simp only [Ex.thnH, Ex.inBlockH, ↓reduceIte, Nat.reduceEqDiff]
  refine ⟨[_, _], ⟨rfl, rfl, trivial⟩, _, Le.refl _, rfl, rfl⟩

end Go.Proofs.Ytcjdkfhmlnfedaa.HL
end
section
namespace Go.Proofs.Ytcjdkfhmlnfedaa.HL
open Go Go.Proofs
set_option linter.unusedSimpArgs false
set_option linter.unusedVariables false
attribute [local irreducible] Lt Lq CW OW TW CallH


theorem wr_szE (s : St) (dev i : Int) (x : Sec) (z : Int) : (s.wr dev i x).1.sz z = s.sz z := by
  rcases wr_cases s dev i x with ⟨e, _⟩ | ⟨e, _⟩ | ⟨e, _⟩
  · rw [e]
  · rw [e]; unfold St.sz; rw [step_dv]
  · rw [e]
    unfold St.sz
    show (if 0 ≤ z ∧ z < ((s.dv.set dev.toNat _).length : Int) then ((s.dv.set dev.toNat _).getD z.toNat default).size else 0) = _
    rw [List.length_set]
    by_cases h : 0 ≤ z ∧ z < s.dv.length
    · rw [if_pos h, if_pos h, getD_set]
      split
      · rename_i e2; rw [e2.1]; rfl
      · rfl
    · rw [if_neg h, if_neg h]
theorem saveN_sz (s : St) (gen ar : Int) (b : List Int) (z : Int) : ∀ k, (s.saveN gen ar b k).1.sz z = s.sz z
  | 0 => rfl
  | k + 1 => by
    have ih := saveN_sz s gen ar b z k
    unfold St.saveN
    split
    · rename_i t h; rw [wr_szE]; rw [h] at ih; exact ih
    · rename_i t e h; rw [h] at ih; exact ih
theorem saveN_sm {n : Nat} {s : St} (hs : Sm n s) (gen ar : Int) (b : List Int) : ∀ k, Sm (n + k) (s.saveN gen ar b k).1
  | 0 => hs
  | k + 1 => by
    have ih := saveN_sm hs gen ar b k
    unfold St.saveN
    split
    · rename_i t h; rw [h] at ih; exact ih.wr _ _ _
    · rename_i t e h; rw [h] at ih; exact ih.up (by omega)
theorem saveN_next {s : St} {gen ar : Int} {b : List Int} {k : Nat} (h : (s.saveN gen ar b k).2 = none) : s.saveN gen ar b (k + 1) = (s.saveN gen ar b k).1.wr 0 (2 + ar * areaI (s.sz 0) + k) (secI gen b k) := by
  conv => lhs; unfold St.saveN
  generalize s.saveN gen ar b k = q at *
  obtain ⟨t, e⟩ := q
  cases h; rfl
theorem saveN_stop {s : St} {gen ar : Int} {b : List Int} {k : Nat} {e : Int} (h : (s.saveN gen ar b k).2 = some e) : ∀ m, s.saveN gen ar b (k + m) = s.saveN gen ar b k
  | 0 => rfl
  | m + 1 => by
    have ih := saveN_stop h m
    show s.saveN gen ar b ((k + m) + 1) = _
    conv => lhs; unfold St.saveN
    rw [ih]
    generalize s.saveN gen ar b k = q at *
    obtain ⟨t, e'⟩ := q
    cases h; rfl
theorem save_stop {s : St} {gen ar : Int} {b : List Int} (h1 : askI gen ar = true) (h2 : fitsI (s.sz 0) b.length = true) {k : Nat} (hk : k ≤ chN b) {e : Int} (h : (s.saveN gen ar b k).2 = some e) : s.save gen ar b = s.saveN gen ar b k := by
  have hs := saveN_stop h (chN b - k)
  rw [show k + (chN b - k) = chN b from by omega] at hs
  unfold St.save
  rw [if_neg (by rw [h1]; simp), if_neg (by rw [h2]; simp), hs]
  generalize s.saveN gen ar b k = q at *
  obtain ⟨t, e'⟩ := q
  cases h; rfl
theorem save_all {s : St} {gen ar : Int} {b : List Int} (h1 : askI gen ar = true) (h2 : fitsI (s.sz 0) b.length = true) (h : (s.saveN gen ar b (chN b)).2 = none) : s.save gen ar b = (s.saveN gen ar b (chN b)).1.fl 0 := by
  unfold St.save
  rw [if_neg (by rw [h1]; simp), if_neg (by rw [h2]; simp)]
  generalize s.saveN gen ar b (chN b) = q at *
  obtain ⟨t, e'⟩ := q
  cases h; rfl
theorem ask_iff {gen ar : Int} : askI gen ar = true ↔ (1 ≤ gen ∧ gen ≤ 17179869183) ∧ 0 ≤ ar ∧ ar < 2 := by
  unfold askI
  simp only [Bool.and_eq_true, decide_eq_true_eq]
  constructor
  · rintro ⟨⟨⟨h1, h2⟩, h3⟩, h4⟩; exact ⟨⟨h1, h2⟩, h3, h4⟩
  · rintro ⟨⟨h1, h2⟩, h3, h4⟩; exact ⟨⟨⟨h1, h2⟩, h3⟩, h4⟩
theorem seal_fine {gen : Int} {b : List Int} {i : Nat} (hg : 1 ≤ gen ∧ gen ≤ 17179869183) (hi : i ≤ 100000) : badI (gen * 8192 + i + 1) 4 (chk b i) = none := by
  unfold badI
  rw [if_neg (by omega), if_neg (by unfold chk; rw [List.length_take]; omega)]

end Go.Proofs.Ytcjdkfhmlnfedaa.HL
end
section
namespace Go.Proofs.Ytcjdkfhmlnfedaa.HL
open Go Go.Proofs
set_option linter.unusedSimpArgs false
set_option linter.unusedVariables false
attribute [local irreducible] Lt Lq CW OW TW CallH

theorem plain_errV (o : Option Int) : plainCell (errV o) = true := by cases o <;> rfl

set_option maxRecDepth 100000 in
set_option maxHeartbeats 8000000 in
theorem saveL {Q H F : Hp} {p : Nat} {s : St} (hA : Stn Q H F p s) {n : Nat} (hs : Sm n s) (hn : n ≤ 100000) (hz0 : 0 ≤ s.sz 0) (hz : s.sz 0 ≤ 5000) (gen ar : Int) (ba : Option Addr) (bc : Nat) (b : List Int) (hb : Holds Q 1 (.slice ba b.length bc) b.length (u8s b)) (hbc : b.length ≤ bc) (hbl : b.length ≤ 2000) : CallH Try.prog 14 #[.pointer (some ⟨p, 0, none⟩), .int .i64 gen, .int .i64 ar, .slice ba b.length bc] H (fun v H' => v = errV (s.save gen ar b).2 ∧ ∃ F', Stn Q H' F' p (s.save gen ar b).1) := by
  refine CallH_enter (l := [_, _, _, _]) (rl := [.cell 8 33]) (n := 61) Try.func14 rfl rfl rfl rfl rfl ?_
  simp only [envOf, Nat.reduceAdd]
  refine CW_seq (fun K1 hK1 => ?_)
  refine CW_region ?_
  refine OW_opS (fun K hK r => ?_)
  simp only [x_box, Value.cells, eX, ↓reduceIte, Nat.reduceEqDiff, Int.reduceToNat]
  intro b4 hb4
  have f4_H : H b4 = none := none_of_le lhA hb4
  try simp only [eX, ↓reduceIte, Nat.reduceEqDiff, Int.reduceToNat]
  refine hK _ _ ?_; clear hK K
  refine OW_opS (fun K hK r => ?_)
  simp only [x_box, Value.cells, eX, ↓reduceIte, Nat.reduceEqDiff, Int.reduceToNat]
  intro b5 hb5
  try have n5_b4 : b4 ≠ b5 := ne_of_none hbA hb5
  have f5_H : H b5 = none := none_of_le lhA hb5
  try simp only [eX, ↓reduceIte, Nat.reduceEqDiff, Int.reduceToNat]
  refine hK _ _ ?_; clear hK K
  refine OW_opS (fun K hK r => ?_)
  simp only [x_box, Value.cells, eX, ↓reduceIte, Nat.reduceEqDiff, Int.reduceToNat]
  intro b6 hb6
  try have n6_b4 : b4 ≠ b6 := ne_of_none hbA hb6
  try have n6_b5 : b5 ≠ b6 := ne_of_none hbA hb6
  have f6_H : H b6 = none := none_of_le lhA hb6
  try simp only [eX, ↓reduceIte, Nat.reduceEqDiff, Int.reduceToNat]
  refine hK _ _ ?_; clear hK K
  refine OW_opS (fun K hK r => ?_)
  simp only [x_alloc, zr33, orF_some, Value.cells, eX, ↓reduceIte, Nat.reduceEqDiff, Int.reduceToNat]
  intro b8 hb8
  try have n8_b4 : b4 ≠ b8 := ne_of_none hbA hb8
  try have n8_b5 : b5 ≠ b8 := ne_of_none hbA hb8
  try have n8_b6 : b6 ≠ b8 := ne_of_none hbA hb8
  have f8_H : H b8 = none := none_of_le lhA hb8
  have hA4 := hA.put (hA.fresh hb4) (.cells #[.pointer (some ⟨p, 0, none⟩)] 31)
  have hA5 := hA4.put (hA4.fresh hb5) (.cells #[.int .i64 gen] 3)
  have hA6 := hA5.put (hA5.fresh hb6) (.cells #[.int .i64 ar] 3)
  have hA8 : Stn ((((Q.upd b4 (.cells #[.pointer (some ⟨p, 0, none⟩)] 31)).upd b5 (.cells #[.int .i64 gen] 3)).upd b6 (.cells #[.int .i64 ar] 3)).upd b8 (.cells #[.nilIface] 33)) _ F p s := hA6.put (hA6.fresh hb8) (.cells #[.nilIface] 33)
  have q4 : Q b4 = none := none_of_le hA.old hb4
  have q5 : Q b5 = none := none_of_le hA.old (upd_none hb5)
  have q6 : Q b6 = none := none_of_le hA.old (upd_none (upd_none hb6))
  have q8 : Q b8 = none := none_of_le hA.old (upd_none (upd_none (upd_none hb8)))
  have lQ : Le Q ((((Q.upd b4 (.cells #[.pointer (some ⟨p, 0, none⟩)] 31)).upd b5 (.cells #[.int .i64 gen] 3)).upd b6 (.cells #[.int .i64 ar] 3)).upd b8 (.cells #[.nilIface] 33)) := le_upd_of (le_upd_of (le_upd_of (le_upd _ _ _ q4) q5) q6) q8
  try simp only [eX, ↓reduceIte, Nat.reduceEqDiff, Int.reduceToNat]
  refine hK _ _ ?_; clear hK K
  refine OW_nil ?_
  try simp only [Ex.thnH, Ex.inBlockH, ↓reduceIte, Nat.reduceEqDiff]
  refine hK1 _ _ ?_; try clear hK1 K1
  refine CW_seq (fun K2 hK2 => ?_)
  refine CW_seq (fun K3 hK3 => ?_)
  refine CW_region ?_
  refine OW_opS (fun K hK r => ?_)
  simp only [x_load, eX, ↓reduceIte, Nat.reduceEqDiff, Int.reduceToNat]
  refine Lt_loadAt1 Try.underlying31 rfl hbA ldA ?_
  try simp only [eX, ↓reduceIte, Nat.reduceEqDiff, Int.reduceToNat]
  refine hK _ _ ?_; clear hK K
  refine OW_opS (fun K hK r => ?_)
  simp only [x_load, eX, ↓reduceIte, Nat.reduceEqDiff, Int.reduceToNat]
  refine Lt_loadAt1 Try.underlying3 rfl hbA ldA ?_
  try simp only [eX, ↓reduceIte, Nat.reduceEqDiff, Int.reduceToNat]
  refine hK _ _ ?_; clear hK K
  refine OW_opS (fun K hK r => ?_)
  simp only [x_load, eX, ↓reduceIte, Nat.reduceEqDiff, Int.reduceToNat]
  refine Lt_loadAt1 Try.underlying3 rfl hbA ldA ?_
  try simp only [eX, ↓reduceIte, Nat.reduceEqDiff, Int.reduceToNat]
  refine hK _ _ ?_; clear hK K
  refine OW_opS (fun K hK r => ?_)
  simp only [x_callF _ bd33, List.map_toArray, List.map_cons, List.map_nil, eX, ↓reduceIte, Nat.reduceEqDiff, Int.reduceToNat]
  refine (asked_ok _ p gen ar).mono ?_
  rintro v H' ⟨rfl, rfl⟩
  try simp only [eX, ↓reduceIte, Nat.reduceEqDiff, Int.reduceToNat]
  refine hK _ _ ?_; clear hK K
  refine OW_as rfl ?_
  refine OW_nil ?_
  try simp only [Ex.thnH, Ex.inBlockH, ↓reduceIte, Nat.reduceEqDiff]
  refine hK3 _ _ ?_; try clear hK3 K3
  refine CW_seq (fun K4 hK4 => ?_)
  refine CW_region ?_
  refine OW_mv rfl ?_
  refine OW_opS (fun K hK r => ?_)
  simp only [x_bin, g_int, g_bool, g_string, g_pointer, g_slice, g_map, g_func, g_nilFunc, g_err, g_iface, g_nil_iface, g_nil_r, g_nil_l, eX, ↓reduceIte, Nat.reduceEqDiff, Int.reduceToNat]
  first | rw [b_err_neq _ _ Try.underlying33] | (rw [e_neq _ _ _ _ (by simp), q_equal]; first | rw [q_iface_nil _ _ _ Try.underlying33] | rw [q_nil_iface _ _ _ Try.underlying33] | rw [q_nil_nil _ _ _ Try.underlying33])
  try simp only [eX, ↓reduceIte, Nat.reduceEqDiff, Int.reduceToNat]
  refine hK _ _ ?_; clear hK K
  refine OW_nil ?_
  try simp only [Ex.thnH, Ex.inBlockH, ↓reduceIte, Nat.reduceEqDiff]
  refine hK4 _ _ ?_; try clear hK4 K4
  refine CW_cond (fun r => rfl) (fun c22 => ?_) (fun c22 => ?_)
  · first
    | (exfalso; exact cnA c22; done)
    | skip
      have hask : askI gen ar = false := by
        cases h : askI gen ar with
        | false => rfl
        | true => rw [h] at c22; cases c22
      refine CW_seq (fun K5 hK5 => ?_)
      refine CW_region ?_
      refine OW_mv rfl ?_
      refine OW_op rfl (lt_none) (fun K hK r => ?_)
      simp only [x_store, eX, ↓reduceIte, Nat.reduceEqDiff, Int.reduceToNat]
      refine Lt_storeAt1 sz33 hbA bdA (plain_errV _) fzA ?_
      try simp only [setL0, setL1, setL2, setL3]
      refine hK _ _ ?_; clear hK K
      refine OW_nil ?_
      try simp only [Ex.thnH, Ex.inBlockH, ↓reduceIte, Nat.reduceEqDiff]
      refine hK5 _ _ ?_; try clear hK5 K5
      refine CW_ret ?_
      try simp only [Ex.thnH, Ex.inBlockH, ↓reduceIte, Nat.reduceEqDiff]
      have hsv : s.save gen ar b = (s, some 1) := by unfold St.save; rw [if_pos hask]
      rw [hsv]
      refine ⟨[_], ⟨⟨_, rfl, Lq_load1 Try.underlying33 rfl hbA ldA⟩, trivial⟩, _, Le.refl _, ?_, _, (hA8.less lQ).off (hA8.ap b8 (by rw [upd_same]; simp)) q8 _⟩
      show errV _ = errV _
      rw [hask]
      rfl
  · first
    | (exfalso; exact cnA c22; done)
    | skip
      have hask : askI gen ar = true := by
        cases h : askI gen ar with
        | true => rfl
        | false => rw [h] at c22; cases c22
      obtain ⟨hgn, hrn⟩ := ask_iff.1 hask
      refine CW_skip ?_
      try simp only [Ex.thnH, Ex.inBlockH, ↓reduceIte, Nat.reduceEqDiff]
      refine hK2 _ _ ?_; try clear hK2 K2
      refine CW_seq (fun K6 hK6 => ?_)
      refine CW_seq (fun K7 hK7 => ?_)
      refine CW_region ?_
      refine OW_opS (fun K hK r => ?_)
      simp only [x_load, eX, ↓reduceIte, Nat.reduceEqDiff, Int.reduceToNat]
      refine Lt_loadAt1 Try.underlying31 rfl hbA ldA ?_
      try simp only [eX, ↓reduceIte, Nat.reduceEqDiff, Int.reduceToNat]
      refine hK _ _ ?_; clear hK K
      refine OW_mv rfl ?_
      refine OW_opS (fun K hK r => ?_)
      simp only [x_builtin, l_len, List.map_toArray, List.map_cons, List.map_nil, i_len_slice _ _ Try.underlying22, eX, ↓reduceIte, Nat.reduceEqDiff, Int.reduceToNat]
      refine hK _ _ ?_; clear hK K
      refine OW_opS (fun K hK r => ?_)
      simp only [x_callF _ bd26, List.map_toArray, List.map_cons, List.map_nil, eX, ↓reduceIte, Nat.reduceEqDiff, Int.reduceToNat]
      refine (fits_ok hA8 hs hz0 hz b.length (by omega) (by omega)).mono ?_
      rintro v H' ⟨rfl, rfl⟩
      try simp only [eX, ↓reduceIte, Nat.reduceEqDiff, Int.reduceToNat]
      refine hK _ _ ?_; clear hK K
      refine OW_opS (fun K hK r => ?_)
      simp only [x_un, u_not, eX, ↓reduceIte, Nat.reduceEqDiff, Int.reduceToNat]
      refine hK _ _ ?_; clear hK K
      refine OW_nil ?_
      try simp only [Ex.thnH, Ex.inBlockH, ↓reduceIte, Nat.reduceEqDiff]
      refine hK7 _ _ ?_; try clear hK7 K7
      refine CW_cond (fun r => rfl) (fun c28 => ?_) (fun c28 => ?_)
      · first
        | (exfalso; exact cnA c28; done)
        | skip
          have hfit : fitsI (s.sz 0) b.length = false := by simpa using c28
          refine CW_seq (fun K8 hK8 => ?_)
          refine CW_region ?_
          refine OW_opS (fun K hK r => ?_)
          simp only [x_makeInterface, i_makeInterface, Try.underlying73, orF_some, eX, ↓reduceIte, Nat.reduceEqDiff, Int.reduceToNat]
          refine hK _ _ ?_; clear hK K
          refine OW_op rfl (lt_none) (fun K hK r => ?_)
          simp only [x_store, eX, ↓reduceIte, Nat.reduceEqDiff, Int.reduceToNat]
          refine Lt_storeAt1 sz33 hbA bdA plA fzA ?_
          try simp only [setL0, setL1, setL2, setL3]
          refine hK _ _ ?_; clear hK K
          refine OW_nil ?_
          try simp only [Ex.thnH, Ex.inBlockH, ↓reduceIte, Nat.reduceEqDiff]
          refine hK8 _ _ ?_; try clear hK8 K8
          refine CW_ret ?_
          try simp only [Ex.thnH, Ex.inBlockH, ↓reduceIte, Nat.reduceEqDiff]
          have hsv : s.save gen ar b = (s, some 4) := by unfold St.save; rw [if_neg (by rw [hask]; simp), if_pos hfit]
          rw [hsv]
          refine ⟨[_], ⟨⟨_, rfl, Lq_load1 Try.underlying33 rfl hbA ldA⟩, trivial⟩, _, Le.refl _, ?_, _, (hA8.less lQ).off (hA8.ap b8 (by rw [upd_same]; simp)) q8 _⟩
          rfl
      · first
        | (exfalso; exact cnA c28; done)
        | skip
          have hfit : fitsI (s.sz 0) b.length = true := by simpa using c28
          refine CW_skip ?_
          try simp only [Ex.thnH, Ex.inBlockH, ↓reduceIte, Nat.reduceEqDiff]
          refine hK6 _ _ ?_; try clear hK6 K6
          refine CW_seq (fun K9 hK9 => ?_)
          refine CW_seq (fun K10 hK10 => ?_)
          refine CW_region ?_
          refine OW_mv rfl ?_
          refine OW_opS (fun K hK r => ?_)
          simp only [x_callF _ bd34, List.map_toArray, List.map_cons, List.map_nil, eX, ↓reduceIte, Nat.reduceEqDiff, Int.reduceToNat]
          refine (Parts_ok _ ba b.length bc).mono ?_
          rintro v31 H31 ⟨b1, hb1, rfl, rfl⟩
          have hAP := hA8.put (hA8.fresh hb1) (.cells #[.slice ba b.length bc] 22)
          obtain ⟨HQ1, hHQ1⟩ : ∃ G : Hp, G = ((((Q.upd b4 (.cells #[.pointer (some ⟨p, 0, none⟩)] 31)).upd b5 (.cells #[.int .i64 gen] 3)).upd b6 (.cells #[.int .i64 ar] 3)).upd b8 (.cells #[.nilIface] 33)).upd b1 (.cells #[.slice ba b.length bc] 22) := ⟨_, rfl⟩
          rw [← hHQ1] at hAP
          have z8 : ((((Q.upd b4 (.cells #[.pointer (some ⟨p, 0, none⟩)] 31)).upd b5 (.cells #[.int .i64 gen] 3)).upd b6 (.cells #[.int .i64 ar] 3)).upd b8 (.cells #[.nilIface] 33)) b8 = some (.cells #[.nilIface] 33) := upd_same _ _ _
          have lQ1 : Le ((((Q.upd b4 (.cells #[.pointer (some ⟨p, 0, none⟩)] 31)).upd b5 (.cells #[.int .i64 gen] 3)).upd b6 (.cells #[.int .i64 ar] 3)).upd b8 (.cells #[.nilIface] 33)) HQ1 := by rw [hHQ1]; exact le_upd _ _ _ (none_of_le hA8.old hb1)
          have w4 := lQ1 b4 (.cells #[.pointer (some ⟨p, 0, none⟩)] 31) hbA
          have w5 := lQ1 b5 (.cells #[.int .i64 gen] 3) hbA
          have w6 := lQ1 b6 (.cells #[.int .i64 ar] 3) hbA
          have w8 := lQ1 b8 _ z8
          have w1 : HQ1 b1 = some (.cells #[.slice ba b.length bc] 22) := by rw [hHQ1]; exact upd_same _ _ _
          have lHQ1 : Le Q HQ1 := Le.trans lQ lQ1
          try simp only [eX, ↓reduceIte, Nat.reduceEqDiff, Int.reduceToNat]
          refine hK _ _ ?_; clear hK K
          refine OW_nil ?_
          try simp only [Ex.thnH, Ex.inBlockH, ↓reduceIte, Nat.reduceEqDiff]
          refine hK10 _ _ ?_; try clear hK10 K10
          refine CW_block ?_
          refine CW_rangeFunc (fun r => rfl) (iter_parts HQ1 b1 ba bc b (hb.le lHQ1) hbc w1 (by omega)) (fun i H_ => ∃ F', Stn HQ1 H_ F' p (s.saveN gen ar b i).1 ∧ (s.saveN gen ar b i).2 = none) ?_ ?_ (by decide) ?_ ?_
          · skip
            rintro i H_ ⟨F', h, _⟩
            exact h.old
          · skip
            exact ⟨F, hAP, rfl⟩
          · intro l_ i_ hi_ H_ hI_ args_ F_ hT_ hF_
            obtain ⟨F_, hJ, hJe⟩ := hI_
            obtain ⟨pv, rp, op, rfl, rfl, hop⟩ := hT_
            have hiN : i_ ≤ 50 := by unfold chN at hi_; omega
            have hSi := saveN_sm hs gen ar b i_
            obtain ⟨pa, pc, rfl⟩ := hop.holds.form
            obtain ⟨KH, hKd⟩ : ∃ KH : Hp, KH = H_.join (emptyHp.upd rp op) := ⟨_, rfl⟩
            have hHK : Le H_ KH := by rw [hKd]; exact le_join _ _
            have hopK : OwnS KH 5 1 (.slice pa (chk b i_).length pc) (chk b i_).length (u8s (chk b i_)) (some rp) := by rw [hKd]; exact hop.le (le_join_r hF_)
            rw [← hKd]
            have hJK := hJ.more hHK
            have k4 := hJK.old _ _ w4
            have k5 := hJK.old _ _ w5
            have k6 := hJK.old _ _ w6
            refine ⟨rfl, ?_⟩
            simp only [putAll, List.zip_cons_cons, List.zip_nil_right, List.zip_nil_left, eX, ↓reduceIte, Nat.reduceEqDiff, Int.reduceToNat]
            refine CW_seq (fun K11 hK11 => ?_)
            refine CW_region ?_
            refine OW_as rfl ?_
            refine OW_nil ?_
            try simp only [Ex.thnH, Ex.inBlockH, ↓reduceIte, Nat.reduceEqDiff]
            refine hK11 _ _ ?_; try clear hK11 K11
            refine CW_region ?_
            refine OW_as rfl ?_
            refine OW_nil ?_
            try simp only [Ex.thnH, Ex.inBlockH, ↓reduceIte, Nat.reduceEqDiff]
            first | refine ⟨rfl, ?_⟩ | refine ⟨trivial, ?_⟩
            refine CW_block ?_
            refine CW_seq (fun K12 hK12 => ?_)
            refine CW_region ?_
            refine OW_opS (fun K hK r => ?_)
            simp only [x_load, eX, ↓reduceIte, Nat.reduceEqDiff, Int.reduceToNat]
            refine Lt_loadAt1 Try.underlying31 rfl hbA ldA ?_
            try simp only [eX, ↓reduceIte, Nat.reduceEqDiff, Int.reduceToNat]
            refine hK _ _ ?_; clear hK K
            refine OW_opS (fun K hK r => ?_)
            simp only [x_load, eX, ↓reduceIte, Nat.reduceEqDiff, Int.reduceToNat]
            refine Lt_loadAt1 Try.underlying3 rfl hbA ldA ?_
            try simp only [eX, ↓reduceIte, Nat.reduceEqDiff, Int.reduceToNat]
            refine hK _ _ ?_; clear hK K
            refine OW_opS (fun K hK r => ?_)
            simp only [x_load, eX, ↓reduceIte, Nat.reduceEqDiff, Int.reduceToNat]
            refine Lt_loadAt1 Try.underlying3 rfl hbA ldA ?_
            try simp only [eX, ↓reduceIte, Nat.reduceEqDiff, Int.reduceToNat]
            refine hK _ _ ?_; clear hK K
            refine OW_mv rfl ?_
            refine OW_opS (fun K hK r => ?_)
            simp only [x_callF _ bd35, List.map_toArray, List.map_cons, List.map_nil, eX, ↓reduceIte, Nat.reduceEqDiff, Int.reduceToNat]
            refine (place_ok hJK hSi (by rw [saveN_sz]; exact hz0) (by rw [saveN_sz]; exact hz) gen ar i_ (by omega) (by omega) (by omega)).mono ?_
            rintro v H' ⟨rfl, hq⟩
            have hq := hq.symm
            subst hq
            try simp only [eX, ↓reduceIte, Nat.reduceEqDiff, Int.reduceToNat]
            refine hK _ _ ?_; clear hK K
            refine OW_mv rfl ?_
            refine OW_opS (fun K hK r => ?_)
            simp only [x_extract, i_extract, List.getElem?_toArray, List.getElem?_cons_zero, List.getElem?_cons_succ, orF_some, eX, ↓reduceIte, Nat.reduceEqDiff, Int.reduceToNat]
            refine hK _ _ ?_; clear hK K
            refine OW_opS (fun K hK r => ?_)
            simp only [x_extract, i_extract, List.getElem?_toArray, List.getElem?_cons_zero, List.getElem?_cons_succ, orF_some, eX, ↓reduceIte, Nat.reduceEqDiff, Int.reduceToNat]
            refine hK _ _ ?_; clear hK K
            refine OW_as rfl ?_
            refine OW_as rfl ?_
            refine OW_nil ?_
            try simp only [Ex.thnH, Ex.inBlockH, ↓reduceIte, Nat.reduceEqDiff]
            refine hK12 _ _ ?_; try clear hK12 K12
            refine CW_seq (fun K13 hK13 => ?_)
            refine CW_region ?_
            refine OW_mv rfl ?_
            refine OW_mv rfl ?_
            refine OW_opS (fun K hK r => ?_)
            simp only [x_build, bp99, List.map_toArray, List.map_cons, List.map_nil, eX, ↓reduceIte, Nat.reduceEqDiff, Int.reduceToNat]
            rw [fill_one rfl clA bdA]
            rw [fill_one rfl clA bdA]
            rw [fill_one rfl clA bdA]
            simp only [fill_nil, orF_some, List.setIfInBounds_toArray, List.set_cons_zero, List.set_cons_succ]
            try simp only [eX, ↓reduceIte, Nat.reduceEqDiff, Int.reduceToNat]
            refine hK _ _ ?_; clear hK K
            refine OW_opS (fun K hK r => ?_)
            simp only [x_callF _ bd36, List.map_toArray, List.map_cons, List.map_nil, eX, ↓reduceIte, Nat.reduceEqDiff, Int.reduceToNat]
            refine (Seal_ok _ _ 4 _ (chk b i_) hopK.holds).mono ?_
            rintro v H' ⟨rfl, hq⟩
            have hq := hq.symm
            subst hq
            rw [seal_fine (by omega) (by omega), saveN_sz]
            try simp only [eX, ↓reduceIte, Nat.reduceEqDiff, Int.reduceToNat]
            refine hK _ _ ?_; clear hK K
            refine OW_mv rfl ?_
            refine OW_opS (fun K hK r => ?_)
            simp only [x_extract, i_extract, List.getElem?_toArray, List.getElem?_cons_zero, List.getElem?_cons_succ, orF_some, eX, ↓reduceIte, Nat.reduceEqDiff, Int.reduceToNat]
            refine hK _ _ ?_; clear hK K
            refine OW_opS (fun K hK r => ?_)
            simp only [x_extract, i_extract, List.getElem?_toArray, List.getElem?_cons_zero, List.getElem?_cons_succ, orF_some, eX, ↓reduceIte, Nat.reduceEqDiff, Int.reduceToNat]
            refine hK _ _ ?_; clear hK K
            refine OW_opS (fun K hK r => ?_)
            simp only [x_alloc, zr45, orF_some, Value.cells, eX, ↓reduceIte, Nat.reduceEqDiff, Int.reduceToNat]
            intro b14 hb14
            try have n14_b4 : b4 ≠ b14 := ne_of_none hbA hb14
            have f14_KH : KH b14 = none := none_of_le lhA hb14
            try simp only [eX, ↓reduceIte, Nat.reduceEqDiff, Int.reduceToNat]
            refine hK _ _ ?_; clear hK K
            refine OW_op rfl (lt_none) (fun K hK r => ?_)
            simp only [x_store, eX, ↓reduceIte, Nat.reduceEqDiff, Int.reduceToNat]
            refine Lt_storeAll sz45 (by simp [Sec.h, sealI_len]) hbA (by simp [Sec.h, sealI_len]) (PlainL.ints _ _) (by decide) ?_
            try simp only [upd_upd]
            refine hK _ _ ?_; clear hK K
            refine OW_as rfl ?_
            refine OW_nil ?_
            try simp only [Ex.thnH, Ex.inBlockH, ↓reduceIte, Nat.reduceEqDiff]
            refine hK13 _ _ ?_; try clear hK13 K13
            refine CW_seq (fun K14 hK14 => ?_)
            refine CW_seq (fun K15 hK15 => ?_)
            refine CW_region ?_
            refine OW_mv rfl ?_
            refine OW_opS (fun K hK r => ?_)
            simp only [x_bin, g_int, g_bool, g_string, g_pointer, g_slice, g_map, g_func, g_nilFunc, g_err, g_iface, g_nil_iface, g_nil_r, g_nil_l, eX, ↓reduceIte, Nat.reduceEqDiff, Int.reduceToNat]
            first | rw [b_err_neq _ _ Try.underlying33] | (rw [e_neq _ _ _ _ (by simp), q_equal]; first | rw [q_iface_nil _ _ _ Try.underlying33] | rw [q_nil_iface _ _ _ Try.underlying33] | rw [q_nil_nil _ _ _ Try.underlying33])
            try simp only [eX, ↓reduceIte, Nat.reduceEqDiff, Int.reduceToNat]
            refine hK _ _ ?_; clear hK K
            refine OW_nil ?_
            try simp only [Ex.thnH, Ex.inBlockH, ↓reduceIte, Nat.reduceEqDiff]
            refine hK15 _ _ ?_; try clear hK15 K15
            refine CW_cond (fun r => rfl) (fun c50 => ?_) (fun c50 => ?_)
            · exfalso; exact cnA c50
            refine CW_skip ?_
            try simp only [Ex.thnH, Ex.inBlockH, ↓reduceIte, Nat.reduceEqDiff]
            refine hK14 _ _ ?_; try clear hK14 K14
            refine CW_seq (fun K16 hK16 => ?_)
            refine CW_region ?_
            refine OW_opS (fun K hK r => ?_)
            simp only [x_load, eX, ↓reduceIte, Nat.reduceEqDiff, Int.reduceToNat]
            refine Lt_loadAt1 Try.underlying31 rfl hbA ldA ?_
            try simp only [eX, ↓reduceIte, Nat.reduceEqDiff, Int.reduceToNat]
            refine hK _ _ ?_; clear hK K
            refine OW_mv rfl ?_
            refine OW_opS (fun K hK r => ?_)
            simp only [x_load, eX, ↓reduceIte, Nat.reduceEqDiff, Int.reduceToNat]
            refine Lt_loadAll Try.underlying45 rfl sz45 hbA (by simp [Sec.h, sealI_len]) ?_
            refine hK _ _ ?_; clear hK K
            refine OW_opS (fun K hK r => ?_)
            simp only [x_callF _ bd21, List.map_toArray, List.map_cons, List.map_nil, eX, ↓reduceIte, Nat.reduceEqDiff, Int.reduceToNat]
            have hJ14 := hJK.put (hJK.fresh hb14) (.cells (secI gen b i_).c.toArray 45)
            refine (writeL hJ14 hSi (by omega) 0 (2 + ar * areaI (s.sz 0) + i_) (secI gen b i_)).mono ?_
            rintro v55 H55 ⟨rfl, F55, hS55'⟩
            have hS55 : Stn HQ1 H55 F55 p _ := hS55'.less (le_upd _ _ _ (none_of_le hJK.old hb14))
            clear hS55'
            rw [← saveN_next hJe] at hS55 ⊢
            have k8 := hS55.old _ _ w8
            have f8 := hS55.ap b8 (by rw [w8]; simp)
            try simp only [eX, ↓reduceIte, Nat.reduceEqDiff, Int.reduceToNat]
            refine hK _ _ ?_; clear hK K
            refine OW_as rfl ?_
            refine OW_nil ?_
            try simp only [Ex.thnH, Ex.inBlockH, ↓reduceIte, Nat.reduceEqDiff]
            refine hK16 _ _ ?_; try clear hK16 K16
            refine CW_seq (fun K17 hK17 => ?_)
            refine CW_region ?_
            refine OW_mv rfl ?_
            refine OW_opS (fun K hK r => ?_)
            simp only [x_bin, g_int, g_bool, g_string, g_pointer, g_slice, g_map, g_func, g_nilFunc, g_err, g_iface, g_nil_iface, g_nil_r, g_nil_l, eX, ↓reduceIte, Nat.reduceEqDiff, Int.reduceToNat]
            first | rw [b_err_neq _ _ Try.underlying33] | (rw [e_neq _ _ _ _ (by simp), q_equal]; first | rw [q_iface_nil _ _ _ Try.underlying33] | rw [q_nil_iface _ _ _ Try.underlying33] | rw [q_nil_nil _ _ _ Try.underlying33])
            try simp only [eX, ↓reduceIte, Nat.reduceEqDiff, Int.reduceToNat]
            refine hK _ _ ?_; clear hK K
            refine OW_nil ?_
            try simp only [Ex.thnH, Ex.inBlockH, ↓reduceIte, Nat.reduceEqDiff]
            refine hK17 _ _ ?_; try clear hK17 K17
            refine CW_cond (fun r => rfl) (fun c57 => ?_) (fun c57 => ?_)
            · first
              | (exfalso; exact cnA c57; done)
              | skip
                obtain ⟨ev, hev⟩ : ∃ ev, (s.saveN gen ar b (i_ + 1)).2 = some ev := Option.isSome_iff_exists.1 c57
                refine CW_seq (fun K18 hK18 => ?_)
                refine CW_region ?_
                refine OW_mv rfl ?_
                refine OW_op rfl (lt_none) (fun K hK r => ?_)
                simp only [x_store, eX, ↓reduceIte, Nat.reduceEqDiff, Int.reduceToNat]
                refine Lt_storeAt1 sz33 hbA bdA (plain_errV _) fzA ?_
                try simp only [setL0, setL1, setL2, setL3]
                refine hK _ _ ?_; clear hK K
                refine OW_nil ?_
                try simp only [Ex.thnH, Ex.inBlockH, ↓reduceIte, Nat.reduceEqDiff]
                refine hK18 _ _ ?_; try clear hK18 K18
                refine CW_ret ?_
                try simp only [Ex.thnH, Ex.inBlockH, ↓reduceIte, Nat.reduceEqDiff]
                have hsv := save_stop hask hfit (show i_ + 1 ≤ chN b by omega) hev
                rw [hsv]
                refine ⟨[_], ⟨⟨_, rfl, Lq_load1 Try.underlying33 rfl hbA ldA⟩, trivial⟩, _, Le.refl _, ?_, _, (hS55.less lHQ1).off f8 q8 _⟩
                rfl
            · first
              | (exfalso; exact cnA c57; done)
              | skip
                have hev : (s.saveN gen ar b (i_ + 1)).2 = none := by
                  cases h : (s.saveN gen ar b (i_ + 1)).2 with
                  | none => rfl
                  | some z => rw [h] at c57; cases c57
                refine CW_skip ?_
                try simp only [Ex.thnH, Ex.inBlockH, ↓reduceIte, Nat.reduceEqDiff]
                exact ⟨F55, hS55, hev⟩
          intro H_ hI_
          obtain ⟨F_, hJ, hJe⟩ := hI_
          have hSi := saveN_sm hs gen ar b (chN b)
          have hN50 : chN b ≤ 50 := by unfold chN; omega
          have k4 := hJ.old _ _ w4
          try simp only [Ex.thnH, Ex.inBlockH, ↓reduceIte, Nat.reduceEqDiff]
          refine hK9 _ _ ?_; try clear hK9 K9
          refine CW_seq (fun K19 hK19 => ?_)
          refine CW_region ?_
          refine OW_opS (fun K hK r => ?_)
          simp only [x_load, eX, ↓reduceIte, Nat.reduceEqDiff, Int.reduceToNat]
          refine Lt_loadAt1 Try.underlying31 rfl hbA ldA ?_
          try simp only [eX, ↓reduceIte, Nat.reduceEqDiff, Int.reduceToNat]
          refine hK _ _ ?_; clear hK K
          refine OW_opS (fun K hK r => ?_)
          simp only [x_callF _ bd37, List.map_toArray, List.map_cons, List.map_nil, eX, ↓reduceIte, Nat.reduceEqDiff, Int.reduceToNat]
          refine (flushL hJ hSi (by omega) 0).mono ?_
          rintro v60 H60 ⟨rfl, F60, hS60⟩
          rw [← save_all hask hfit hJe] at hS60 ⊢
          have k8 := hS60.old _ _ w8
          have f8 := hS60.ap b8 (by rw [w8]; simp)
          try simp only [eX, ↓reduceIte, Nat.reduceEqDiff, Int.reduceToNat]
          refine hK _ _ ?_; clear hK K
          refine OW_op rfl (lt_none) (fun K hK r => ?_)
          simp only [x_store, eX, ↓reduceIte, Nat.reduceEqDiff, Int.reduceToNat]
          refine Lt_storeAt1 sz33 hbA bdA (plain_errV _) fzA ?_
          try simp only [setL0, setL1, setL2, setL3]
          refine hK _ _ ?_; clear hK K
          refine OW_nil ?_
          try simp only [Ex.thnH, Ex.inBlockH, ↓reduceIte, Nat.reduceEqDiff]
          refine hK19 _ _ ?_; try clear hK19 K19
          refine CW_ret ?_
          try simp only [Ex.thnH, Ex.inBlockH, ↓reduceIte, Nat.reduceEqDiff]
          refine ⟨[_], ⟨⟨_, rfl, Lq_load1 Try.underlying33 rfl hbA ldA⟩, trivial⟩, _, Le.refl _, ?_, _, (hS60.less lHQ1).off f8 q8 _⟩
          rfl

end Go.Proofs.Ytcjdkfhmlnfedaa.HL
end
section
namespace Go.Proofs.Ytcjdkfhmlnfedaa.HL
open Go Go.Proofs
set_option linter.unusedSimpArgs false
set_option linter.unusedVariables false
attribute [local irreducible] Lt Lq CW OW TW CallH


theorem rd_fine {s : St} (hg : s.gone = false) {at_ : Int} (h0 : 0 ≤ at_) (h1 : at_ < s.sz 0) : (s.rd 0 at_).2 = none := by
  unfold St.sz at h1
  split at h1
  · rename_i h
    unfold St.rd
    rw [if_neg (by rw [hg]; simp), if_pos]
    unfold St.has
    rw [Bool.and_eq_true, decide_eq_true_eq, decide_eq_true_eq]
    exact ⟨h, h0, h1⟩
  · omega
theorem at_fine {sz ar n : Int} {k : Nat} (ha : 0 ≤ ar ∧ ar < 2) (hf : fitsI sz n = true) (hk : (k : Int) < needI n) : 0 ≤ 2 + ar * areaI sz + k ∧ 2 + ar * areaI sz + k < sz := by
  unfold fitsI at hf
  simp only [Bool.and_eq_true, decide_eq_true_eq] at hf
  have h2 := hf.2
  unfold areaI at *
  rcases (show ar = 0 ∨ ar = 1 by omega) with rfl | rfl <;> omega
theorem loadN_some {s : St} {gen ar n : Int} {k : Nat} {o : List Int} (h : s.loadN gen ar n k = some o) (h1 : isB (s.rd 0 (2 + ar * areaI (s.sz 0) + k)).1.b (gen * 8192 + k + 1) 4 = true) (h2 : ((isD (s.rd 0 (2 + ar * areaI (s.sz 0) + k)).1.b (gen * 8192 + k + 1) 4).length : Int) = min 50 (n - o.length)) : s.loadN gen ar n (k + 1) = some (o ++ isD (s.rd 0 (2 + ar * areaI (s.sz 0) + k)).1.b (gen * 8192 + k + 1) 4) := by
  unfold St.loadN
  rw [h]
  simp only
  rw [if_pos ⟨h1, h2⟩]
theorem loadN_no {s : St} {gen ar n : Int} {k : Nat} {o : List Int} (h : s.loadN gen ar n k = some o) (h1 : ¬ (isB (s.rd 0 (2 + ar * areaI (s.sz 0) + k)).1.b (gen * 8192 + k + 1) 4 = true ∧ ((isD (s.rd 0 (2 + ar * areaI (s.sz 0) + k)).1.b (gen * 8192 + k + 1) 4).length : Int) = min 50 (n - o.length))) : ∀ m, s.loadN gen ar n (k + 1 + m) = none
  | 0 => by
    show s.loadN gen ar n (k + 1) = none
    unfold St.loadN
    rw [h]
    simp only
    rw [if_neg h1]
  | m + 1 => by
    show s.loadN gen ar n ((k + 1 + m) + 1) = none
    unfold St.loadN
    rw [loadN_no h h1 m]
theorem isD_len (L : List Int) (a b : Int) : (isD L a b).length ≤ 50 := by
  unfold isD; split
  · exact opD_len L
  · exact Nat.zero_le _
theorem load_none {s : St} {gen ar n : Int} (h1 : askI gen ar = true) (h2 : ¬ n < 0) (h3 : s.gone = false) (h4 : fitsI (s.sz 0) n = true) (h5 : s.loadN gen ar n (needI n).toNat = none) : s.load gen ar n = ([], some 9) := by
  unfold St.load
  rw [if_neg (by rw [h1]; simp), if_neg h2, if_neg (by rw [h3]; simp), if_neg (by rw [h4]; simp), h5]
theorem load_some {s : St} {gen ar n : Int} {o : List Int} (h1 : askI gen ar = true) (h2 : ¬ n < 0) (h3 : s.gone = false) (h4 : fitsI (s.sz 0) n = true) (h5 : s.loadN gen ar n (needI n).toNat = some o) : s.load gen ar n = (o, none) := by
  unfold St.load
  rw [if_neg (by rw [h1]; simp), if_neg h2, if_neg (by rw [h3]; simp), if_neg (by rw [h4]; simp), h5]
theorem min50 (x : Int) : (if x < 50 then x else 50) = min 50 x := by split <;> omega

set_option maxRecDepth 100000 in
set_option maxHeartbeats 8000000 in
theorem loadL {Q H F : Hp} {p : Nat} {s : St} (hA : Stn Q H F p s) {n : Nat} (hs : Sm n s) (hn : n ≤ 100000) (hz0 : 0 ≤ s.sz 0) (hz : s.sz 0 ≤ 5000) (gen ar l : Int) (hby : ∀ k : Nat, (k : Int) < needI l → ByteL (s.rd 0 (2 + ar * areaI (s.sz 0) + k)).1.b) (hl1 : -9223372036854775808 ≤ l) (hl2 : l ≤ 9223372036854775807) : CallH Try.prog 23 #[.pointer (some ⟨p, 0, none⟩), .int .i64 gen, .int .i64 ar, .int .i64 l] H (fun v H' => Le H H' ∧ ∃ x rs, v = .tuple #[x, errV (s.load gen ar l).2] ∧ OwnS H' 5 1 x (s.load gen ar l).1.length (u8s (s.load gen ar l).1) rs ∧ ∀ r, rs = some r → H r = none) := by
  refine CallH_enter (l := [_, _, _, _]) (rl := [.tmp 8, .tmp 9]) (n := 86) Try.func23 rfl rfl rfl rfl rfl ?_
  simp only [envOf, Nat.reduceAdd]
  refine CW_seq (fun K1 hK1 => ?_)
  refine CW_region ?_
  refine OW_as rfl ?_
  refine OW_as rfl ?_
  refine OW_nil ?_
  try simp only [Ex.thnH, Ex.inBlockH, ↓reduceIte, Nat.reduceEqDiff]
  refine hK1 _ _ ?_; try clear hK1 K1
  refine CW_seq (fun K2 hK2 => ?_)
  refine CW_seq (fun K3 hK3 => ?_)
  refine CW_region ?_
  refine OW_mv rfl ?_
  refine OW_mv rfl ?_
  refine OW_mv rfl ?_
  refine OW_opS (fun K hK r => ?_)
  simp only [x_callF _ bd33, List.map_toArray, List.map_cons, List.map_nil, eX, ↓reduceIte, Nat.reduceEqDiff, Int.reduceToNat]
  refine (asked_ok _ p gen ar).mono ?_
  rintro v H' ⟨rfl, hq⟩
  have hq := hq.symm
  subst hq
  try simp only [eX, ↓reduceIte, Nat.reduceEqDiff, Int.reduceToNat]
  refine hK _ _ ?_; clear hK K
  refine OW_as rfl ?_
  refine OW_nil ?_
  try simp only [Ex.thnH, Ex.inBlockH, ↓reduceIte, Nat.reduceEqDiff]
  refine hK3 _ _ ?_; try clear hK3 K3
  refine CW_seq (fun K4 hK4 => ?_)
  refine CW_region ?_
  refine OW_mv rfl ?_
  refine OW_opS (fun K hK r => ?_)
  simp only [x_bin, g_int, g_bool, g_string, g_pointer, g_slice, g_map, g_func, g_nilFunc, g_err, g_iface, g_nil_iface, g_nil_r, g_nil_l, eX, ↓reduceIte, Nat.reduceEqDiff, Int.reduceToNat]
  first | rw [b_err_neq _ _ Try.underlying33] | (rw [e_neq _ _ _ _ (by simp), q_equal]; first | rw [q_iface_nil _ _ _ Try.underlying33] | rw [q_nil_iface _ _ _ Try.underlying33] | rw [q_nil_nil _ _ _ Try.underlying33])
  try simp only [eX, ↓reduceIte, Nat.reduceEqDiff, Int.reduceToNat]
  refine hK _ _ ?_; clear hK K
  refine OW_nil ?_
  try simp only [Ex.thnH, Ex.inBlockH, ↓reduceIte, Nat.reduceEqDiff]
  refine hK4 _ _ ?_; try clear hK4 K4
  refine CW_cond (fun r => rfl) (fun c24 => ?_) (fun c24 => ?_)
  · first
    | (exfalso; exact cnA c24; done)
    | skip
      have hask : askI gen ar = false := by
        cases h : askI gen ar with
        | false => rfl
        | true => rw [h] at c24; cases c24
      refine CW_seq (fun K5 hK5 => ?_)
      refine CW_region ?_
      refine OW_mv rfl ?_
      refine OW_as rfl ?_
      refine OW_as rfl ?_
      refine OW_nil ?_
      try simp only [Ex.thnH, Ex.inBlockH, ↓reduceIte, Nat.reduceEqDiff]
      refine hK5 _ _ ?_; try clear hK5 K5
      refine CW_ret ?_
      try simp only [Ex.thnH, Ex.inBlockH, ↓reduceIte, Nat.reduceEqDiff]
      have hld : s.load gen ar l = ([], some 1) := by
        unfold St.load
        rw [if_pos hask]
      rw [hld]
      refine ⟨[_, _], ⟨rfl, rfl, trivial⟩, _, Le.refl _, Le.refl _, _, none, ?_, OwnS.nil _ _ _, fun r hr => by cases hr⟩
      show Value.tuple _ = Value.tuple _
      rw [hask]; rfl
  · first
    | (exfalso; exact cnA c24; done)
    | skip
      have hask : askI gen ar = true := by
        cases h : askI gen ar with
        | true => rfl
        | false => rw [h] at c24; cases c24
      obtain ⟨hgn, hrn⟩ := ask_iff.1 hask
      refine CW_skip ?_
      try simp only [Ex.thnH, Ex.inBlockH, ↓reduceIte, Nat.reduceEqDiff]
      refine hK2 _ _ ?_; try clear hK2 K2
      refine CW_seq (fun K6 hK6 => ?_)
      refine CW_block ?_
      refine CW_seq (fun K7 hK7 => ?_)
      refine CW_region ?_
      refine OW_mv rfl ?_
      refine OW_opS (fun K hK r => ?_)
      simp (disch := (first | omega | decide)) only [x_bin, g_int, b_lss, dec_lt_t, dec_lt_f, dec_le_t, dec_le_f, dec_eq_t, dec_eq_f, Bool.not_true, Bool.not_false, eX, ↓reduceIte, Nat.reduceEqDiff, Int.reduceToNat]
      refine hK _ _ ?_; clear hK K
      refine OW_as rfl ?_
      refine OW_nil ?_
      try simp only [Ex.thnH, Ex.inBlockH, ↓reduceIte, Nat.reduceEqDiff]
      refine hK7 _ _ ?_; try clear hK7 K7
      refine CW_cond (fun r => rfl) (fun c26 => ?_) (fun c26 => ?_)
      · first
        | (exfalso; exact cnA c26; done)
        | skip
          (try simp only [decide_eq_true_eq, decide_eq_false_iff_not, Bool.not_eq_true, Bool.not_eq_false, Bool.and_eq_true, Bool.or_eq_true, Bool.or_eq_false_iff, Bool.not_eq_true, Bool.not_eq_eq_eq_not, Bool.not_true, Bool.not_false] at c26)
          refine CW_seq (fun K8 hK8 => ?_)
          refine CW_region ?_
          refine OW_opS (fun K hK r => ?_)
          simp only [x_makeInterface, i_makeInterface, Try.underlying73, orF_some, eX, ↓reduceIte, Nat.reduceEqDiff, Int.reduceToNat]
          refine hK _ _ ?_; clear hK K
          refine OW_as rfl ?_
          refine OW_as rfl ?_
          refine OW_nil ?_
          try simp only [Ex.thnH, Ex.inBlockH, ↓reduceIte, Nat.reduceEqDiff]
          refine hK8 _ _ ?_; try clear hK8 K8
          refine CW_ret ?_
          try simp only [Ex.thnH, Ex.inBlockH, ↓reduceIte, Nat.reduceEqDiff]
          have hld : s.load gen ar l = ([], some 1) := by
            unfold St.load
            rw [if_neg (by rw [hask]; simp), if_pos (by omega)]
          rw [hld]
          refine ⟨[_, _], ⟨rfl, rfl, trivial⟩, _, Le.refl _, Le.refl _, _, none, ?_, OwnS.nil _ _ _, fun r hr => by cases hr⟩
          show Value.tuple _ = Value.tuple _
          rfl
      · first
        | (exfalso; exact cnA c26; done)
        | skip
          (try simp only [decide_eq_true_eq, decide_eq_false_iff_not, Bool.not_eq_true, Bool.not_eq_false, Bool.and_eq_true, Bool.or_eq_true, Bool.or_eq_false_iff, Bool.not_eq_true, Bool.not_eq_eq_eq_not, Bool.not_true, Bool.not_false] at c26)
          have hln : ¬ l < 0 := by omega
          refine CW_seq (fun K9 hK9 => ?_)
          refine CW_region ?_
          refine OW_mv rfl ?_
          refine OW_opS (fun K hK r => ?_)
          simp only [x_callF _ bd52, List.map_toArray, List.map_cons, List.map_nil, eX, ↓reduceIte, Nat.reduceEqDiff, Int.reduceToNat]
          refine (downL hA).mono ?_
          rintro v H' ⟨rfl, hq⟩
          have hq := hq.symm
          subst hq
          try simp only [eX, ↓reduceIte, Nat.reduceEqDiff, Int.reduceToNat]
          refine hK _ _ ?_; clear hK K
          refine OW_as rfl ?_
          refine OW_nil ?_
          try simp only [Ex.thnH, Ex.inBlockH, ↓reduceIte, Nat.reduceEqDiff]
          refine hK9 _ _ ?_; try clear hK9 K9
          refine CW_cond (fun r => rfl) (fun c30 => ?_) (fun c30 => ?_)
          · first
            | (exfalso; exact cnA c30; done)
            | skip
              have hgo : s.gone = true := c30
              refine CW_seq (fun K10 hK10 => ?_)
              refine CW_region ?_
              refine OW_opS (fun K hK r => ?_)
              simp only [x_makeInterface, i_makeInterface, Try.underlying73, orF_some, eX, ↓reduceIte, Nat.reduceEqDiff, Int.reduceToNat]
              refine hK _ _ ?_; clear hK K
              refine OW_as rfl ?_
              refine OW_as rfl ?_
              refine OW_nil ?_
              try simp only [Ex.thnH, Ex.inBlockH, ↓reduceIte, Nat.reduceEqDiff]
              refine hK10 _ _ ?_; try clear hK10 K10
              refine CW_ret ?_
              try simp only [Ex.thnH, Ex.inBlockH, ↓reduceIte, Nat.reduceEqDiff]
              have hld : s.load gen ar l = ([], some 3) := by
                unfold St.load
                rw [if_neg (by rw [hask]; simp), if_neg hln, if_pos hgo]
              rw [hld]
              refine ⟨[_, _], ⟨rfl, rfl, trivial⟩, _, Le.refl _, Le.refl _, _, none, ?_, OwnS.nil _ _ _, fun r hr => by cases hr⟩
              show Value.tuple _ = Value.tuple _
              rfl
          · first
            | (exfalso; exact cnA c30; done)
            | skip
              have hgo : s.gone = false := by simpa using c30
              refine CW_seq (fun K11 hK11 => ?_)
              refine CW_region ?_
              refine OW_mv rfl ?_
              refine OW_mv rfl ?_
              refine OW_opS (fun K hK r => ?_)
              simp only [x_callF _ bd26, List.map_toArray, List.map_cons, List.map_nil, eX, ↓reduceIte, Nat.reduceEqDiff, Int.reduceToNat]
              refine (fits_ok hA hs hz0 hz l hl1 hl2).mono ?_
              rintro v H' ⟨rfl, hq⟩
              have hq := hq.symm
              subst hq
              try simp only [eX, ↓reduceIte, Nat.reduceEqDiff, Int.reduceToNat]
              refine hK _ _ ?_; clear hK K
              refine OW_opS (fun K hK r => ?_)
              simp only [x_un, u_not, eX, ↓reduceIte, Nat.reduceEqDiff, Int.reduceToNat]
              refine hK _ _ ?_; clear hK K
              refine OW_as rfl ?_
              refine OW_nil ?_
              try simp only [Ex.thnH, Ex.inBlockH, ↓reduceIte, Nat.reduceEqDiff]
              refine hK11 _ _ ?_; try clear hK11 K11
              refine CW_cond (fun r => rfl) (fun c34 => ?_) (fun c34 => ?_)
              · first
                | (exfalso; exact cnA c34; done)
                | skip
                  have hfit : fitsI (s.sz 0) l = false := by simpa using c34
                  refine CW_seq (fun K12 hK12 => ?_)
                  refine CW_region ?_
                  refine OW_opS (fun K hK r => ?_)
                  simp only [x_makeInterface, i_makeInterface, Try.underlying73, orF_some, eX, ↓reduceIte, Nat.reduceEqDiff, Int.reduceToNat]
                  refine hK _ _ ?_; clear hK K
                  refine OW_as rfl ?_
                  refine OW_as rfl ?_
                  refine OW_nil ?_
                  try simp only [Ex.thnH, Ex.inBlockH, ↓reduceIte, Nat.reduceEqDiff]
                  refine hK12 _ _ ?_; try clear hK12 K12
                  refine CW_ret ?_
                  try simp only [Ex.thnH, Ex.inBlockH, ↓reduceIte, Nat.reduceEqDiff]
                  have hld : s.load gen ar l = ([], some 9) := by
                    unfold St.load
                    rw [if_neg (by rw [hask]; simp), if_neg hln, if_neg (by rw [hgo]; simp), if_pos hfit]
                  rw [hld]
                  refine ⟨[_, _], ⟨rfl, rfl, trivial⟩, _, Le.refl _, Le.refl _, _, none, ?_, OwnS.nil _ _ _, fun r hr => by cases hr⟩
                  show Value.tuple _ = Value.tuple _
                  rfl
              · first
                | (exfalso; exact cnA c34; done)
                | skip
                  have hfit : fitsI (s.sz 0) l = true := by simpa using c34
                  have hnd : needI l ≤ 2500 := by
                    have h := hfit
                    unfold fitsI at h
                    simp only [Bool.and_eq_true, decide_eq_true_eq] at h
                    have := areaI_le hz
                    omega
                  have hnd0 := needI_le (n := l)
                  refine CW_skip ?_
                  try simp only [Ex.thnH, Ex.inBlockH, ↓reduceIte, Nat.reduceEqDiff]
                  refine hK6 _ _ ?_; try clear hK6 K6
                  refine CW_seq (fun K13 hK13 => ?_)
                  refine CW_region ?_
                  refine OW_as rfl ?_
                  refine OW_nil ?_
                  try simp only [Ex.thnH, Ex.inBlockH, ↓reduceIte, Nat.reduceEqDiff]
                  refine hK13 _ _ ?_; try clear hK13 K13
                  refine CW_seq (fun K14 hK14 => ?_)
                  refine CW_seq (fun K15 hK15 => ?_)
                  refine CW_region ?_
                  refine OW_mv rfl ?_
                  refine OW_opS (fun K hK r => ?_)
                  simp only [x_callF _ bd53, List.map_toArray, List.map_cons, List.map_nil, eX, ↓reduceIte, Nat.reduceEqDiff, Int.reduceToNat]
                  refine (Need_ok _ l hl1 hl2).mono ?_
                  rintro v H' ⟨rfl, hq⟩
                  have hq := hq.symm
                  subst hq
                  rw [show (if l < 1 then 0 else (l - 1) / 50 + 1) = (((needI l).toNat : Nat) : Int) from by rw [Int.toNat_of_nonneg needI_le]; rfl]
                  try simp only [eX, ↓reduceIte, Nat.reduceEqDiff, Int.reduceToNat]
                  refine hK _ _ ?_; clear hK K
                  refine OW_mv rfl ?_
                  refine OW_nil ?_
                  try simp only [Ex.thnH, Ex.inBlockH, ↓reduceIte, Nat.reduceEqDiff]
                  refine hK15 _ _ ?_; try clear hK15 K15
                  refine CW_block ?_
                  refine CW_loop (fun m_ e H_ => ∃ (k : Nat) (v : Value) (rs : Option Nat) (out : List Int), k ≤ (needI l).toNat ∧ m_ = (needI l).toNat - k ∧ s.loadN gen ar l k = some out ∧ OwnS H_ 5 1 v out.length (u8s out) rs ∧ (∀ r, rs = some r → H r = none) ∧ Le H H_ ∧ out.length ≤ 50 * k ∧ Env.has [(0, .pointer (some ⟨p, 0, none⟩)), (1, .int .i64 gen), (2, .int .i64 ar), (3, .int .i64 l), (11, v), (41, .int .i64 ((needI l).toNat : Int)), (42, .int .i64 k)] e) ((needI l).toNat) ?_ ?_
                  · skip
                    exact ⟨0, _, none, [], by omega, by omega, rfl, OwnS.nil _ _ _, (fun r hr => by cases hr), Le.refl _, by simp, rfl, rfl, rfl, rfl, rfl, rfl, rfl, trivial⟩
                  intro m_ e_ H_ hI_
                  obtain ⟨k, v, rs, out, hk, rfl, hN, hO, hrs, hlH, hlo, he⟩ := hI_
                  refine CW_env he.sub ?_; clear he e_
                  obtain ⟨va, vc, rfl⟩ := hO.holds.form
                  refine CW_seq (fun K16 hK16 => ?_)
                  refine CW_region ?_
                  refine OW_opS (fun K hK r => ?_)
                  simp (disch := (first | omega | decide)) only [x_bin, g_int, b_lss, dec_lt_t, dec_lt_f, dec_le_t, dec_le_f, dec_eq_t, dec_eq_f, Bool.not_true, Bool.not_false, eX, ↓reduceIte, Nat.reduceEqDiff, Int.reduceToNat]
                  refine hK _ _ ?_; clear hK K
                  refine OW_nil ?_
                  try simp only [Ex.thnH, Ex.inBlockH, ↓reduceIte, Nat.reduceEqDiff]
                  refine hK16 _ _ ?_; try clear hK16 K16
                  refine CW_seq (fun K17 hK17 => ?_)
                  refine CW_cond (fun r => rfl) (fun c43 => ?_) (fun c43 => ?_)
                  · first
                    | (exfalso; exact cnA c43; done)
                    | skip
                      (try simp only [decide_eq_true_eq, decide_eq_false_iff_not, Bool.not_eq_true, Bool.not_eq_false, Bool.and_eq_true, Bool.or_eq_true, Bool.or_eq_false_iff, Bool.not_eq_true, Bool.not_eq_eq_eq_not, Bool.not_true, Bool.not_false] at c43)
                      have hat := at_fine hrn hfit (show (k : Int) < needI l by omega)
                      refine CW_skip ?_
                      try simp only [Ex.thnH, Ex.inBlockH, ↓reduceIte, Nat.reduceEqDiff]
                      refine hK17 _ _ ?_; try clear hK17 K17
                      refine CW_seq (fun K18 hK18 => ?_)
                      refine CW_block ?_
                      refine CW_seq (fun K19 hK19 => ?_)
                      refine CW_region ?_
                      refine OW_mv rfl ?_
                      refine OW_as rfl ?_
                      refine OW_nil ?_
                      try simp only [Ex.thnH, Ex.inBlockH, ↓reduceIte, Nat.reduceEqDiff]
                      refine hK19 _ _ ?_; try clear hK19 K19
                      refine CW_seq (fun K20 hK20 => ?_)
                      refine CW_region ?_
                      refine OW_mv rfl ?_
                      refine OW_mv rfl ?_
                      refine OW_mv rfl ?_
                      refine OW_mv rfl ?_
                      refine OW_opS (fun K hK r => ?_)
                      simp only [x_callF _ bd35, List.map_toArray, List.map_cons, List.map_nil, eX, ↓reduceIte, Nat.reduceEqDiff, Int.reduceToNat]
                      refine (place_ok (hA.more hlH) hs hz0 hz gen ar k (by omega) (by omega) (by omega)).mono ?_
                      rintro v H' ⟨rfl, hq⟩
                      have hq := hq.symm
                      subst hq
                      try simp only [eX, ↓reduceIte, Nat.reduceEqDiff, Int.reduceToNat]
                      refine hK _ _ ?_; clear hK K
                      refine OW_mv rfl ?_
                      refine OW_opS (fun K hK r => ?_)
                      simp only [x_extract, i_extract, List.getElem?_toArray, List.getElem?_cons_zero, List.getElem?_cons_succ, orF_some, eX, ↓reduceIte, Nat.reduceEqDiff, Int.reduceToNat]
                      refine hK _ _ ?_; clear hK K
                      refine OW_opS (fun K hK r => ?_)
                      simp only [x_extract, i_extract, List.getElem?_toArray, List.getElem?_cons_zero, List.getElem?_cons_succ, orF_some, eX, ↓reduceIte, Nat.reduceEqDiff, Int.reduceToNat]
                      refine hK _ _ ?_; clear hK K
                      refine OW_as rfl ?_
                      refine OW_as rfl ?_
                      refine OW_nil ?_
                      try simp only [Ex.thnH, Ex.inBlockH, ↓reduceIte, Nat.reduceEqDiff]
                      refine hK20 _ _ ?_; try clear hK20 K20
                      refine CW_seq (fun K21 hK21 => ?_)
                      refine CW_region ?_
                      refine OW_mv rfl ?_
                      refine OW_mv rfl ?_
                      refine OW_opS (fun K hK r => ?_)
                      simp only [x_callF _ bd54, List.map_toArray, List.map_cons, List.map_nil, eX, ↓reduceIte, Nat.reduceEqDiff, Int.reduceToNat]
                      refine (readL (hA.more hlH) hs (by omega) 0 (2 + ar * areaI (s.sz 0) + k)).mono ?_
                      rintro v H' ⟨rfl, hq⟩
                      have hq := hq.symm
                      subst hq
                      rw [rd_fine hgo hat.1 hat.2]
                      try simp only [eX, ↓reduceIte, Nat.reduceEqDiff, Int.reduceToNat]
                      refine hK _ _ ?_; clear hK K
                      refine OW_mv rfl ?_
                      refine OW_opS (fun K hK r => ?_)
                      simp only [x_extract, i_extract, List.getElem?_toArray, List.getElem?_cons_zero, List.getElem?_cons_succ, orF_some, eX, ↓reduceIte, Nat.reduceEqDiff, Int.reduceToNat]
                      refine hK _ _ ?_; clear hK K
                      refine OW_opS (fun K hK r => ?_)
                      simp only [x_extract, i_extract, List.getElem?_toArray, List.getElem?_cons_zero, List.getElem?_cons_succ, orF_some, eX, ↓reduceIte, Nat.reduceEqDiff, Int.reduceToNat]
                      refine hK _ _ ?_; clear hK K
                      refine OW_opS (fun K hK r => ?_)
                      simp only [x_alloc, zr45, orF_some, Value.cells, eX, ↓reduceIte, Nat.reduceEqDiff, Int.reduceToNat]
                      intro b15 hb15
                      have f15_H : H b15 = none := none_of_le lhA hb15
                      try simp only [eX, ↓reduceIte, Nat.reduceEqDiff, Int.reduceToNat]
                      refine hK _ _ ?_; clear hK K
                      refine OW_op rfl (lt_none) (fun K hK r => ?_)
                      simp only [x_store, eX, ↓reduceIte, Nat.reduceEqDiff, Int.reduceToNat]
                      refine Lt_storeAll sz45 (by simp [Sec.h]) hbA (by simp [Sec.h]) (PlainL.ints _ _) (by decide) ?_
                      try simp only [upd_upd]
                      refine hK _ _ ?_; clear hK K
                      refine OW_as rfl ?_
                      refine OW_nil ?_
                      try simp only [Ex.thnH, Ex.inBlockH, ↓reduceIte, Nat.reduceEqDiff]
                      refine hK21 _ _ ?_; try clear hK21 K21
                      refine CW_seq (fun K22 hK22 => ?_)
                      refine CW_seq (fun K23 hK23 => ?_)
                      refine CW_region ?_
                      refine OW_mv rfl ?_
                      refine OW_opS (fun K hK r => ?_)
                      simp only [x_bin, g_int, g_bool, g_string, g_pointer, g_slice, g_map, g_func, g_nilFunc, g_err, g_iface, g_nil_iface, g_nil_r, g_nil_l, eX, ↓reduceIte, Nat.reduceEqDiff, Int.reduceToNat]
                      first | rw [b_err_neq _ _ Try.underlying33] | (rw [e_neq _ _ _ _ (by simp), q_equal]; first | rw [q_iface_nil _ _ _ Try.underlying33] | rw [q_nil_iface _ _ _ Try.underlying33] | rw [q_nil_nil _ _ _ Try.underlying33])
                      try simp only [eX, ↓reduceIte, Nat.reduceEqDiff, Int.reduceToNat]
                      refine hK _ _ ?_; clear hK K
                      refine OW_nil ?_
                      try simp only [Ex.thnH, Ex.inBlockH, ↓reduceIte, Nat.reduceEqDiff]
                      refine hK23 _ _ ?_; try clear hK23 K23
                      refine CW_cond (fun r => rfl) (fun c60 => ?_) (fun c60 => ?_)
                      · exfalso; exact cnA c60
                      refine CW_skip ?_
                      try simp only [Ex.thnH, Ex.inBlockH, ↓reduceIte, Nat.reduceEqDiff]
                      refine hK22 _ _ ?_; try clear hK22 K22
                      refine CW_seq (fun K24 hK24 => ?_)
                      refine CW_region ?_
                      refine OW_opS (fun K hK r => ?_)
                      simp only [x_load, eX, ↓reduceIte, Nat.reduceEqDiff, Int.reduceToNat]
                      refine Lt_loadAll Try.underlying45 rfl sz45 hbA (by simp [Sec.h]) ?_
                      refine hK _ _ ?_; clear hK K
                      refine OW_mv rfl ?_
                      refine OW_opS (fun K hK r => ?_)
                      simp only [x_callF _ bd55, List.map_toArray, List.map_cons, List.map_nil, eX, ↓reduceIte, Nat.reduceEqDiff, Int.reduceToNat]
                      refine (Is_R _ (s.rd 0 (2 + ar * areaI (s.sz 0) + k)).1.b (gen * 8192 + k + 1) 4 (s.rd 0 (2 + ar * areaI (s.sz 0) + k)).1.h (hby k (by omega))).mono ?_
                      rintro v65 H65 ⟨x65, ⟨l65, rs65, ho65, hr65⟩, rfl⟩
                      obtain ⟨xa, xc, rfl⟩ := ho65.holds.form
                      have l65b : Le H_ H65 := Le.trans (le_upd _ _ _ hb15) l65
                      have hO65 := hO.le l65b
                      have lH65 : Le H H65 := Le.trans hlH l65b
                      try simp only [eX, ↓reduceIte, Nat.reduceEqDiff, Int.reduceToNat]
                      refine hK _ _ ?_; clear hK K
                      refine OW_mv rfl ?_
                      refine OW_opS (fun K hK r => ?_)
                      simp only [x_extract, i_extract, List.getElem?_toArray, List.getElem?_cons_zero, List.getElem?_cons_succ, orF_some, eX, ↓reduceIte, Nat.reduceEqDiff, Int.reduceToNat]
                      refine hK _ _ ?_; clear hK K
                      refine OW_opS (fun K hK r => ?_)
                      simp only [x_extract, i_extract, List.getElem?_toArray, List.getElem?_cons_zero, List.getElem?_cons_succ, orF_some, eX, ↓reduceIte, Nat.reduceEqDiff, Int.reduceToNat]
                      refine hK _ _ ?_; clear hK K
                      refine OW_as rfl ?_
                      refine OW_as rfl ?_
                      refine OW_nil ?_
                      try simp only [Ex.thnH, Ex.inBlockH, ↓reduceIte, Nat.reduceEqDiff]
                      refine hK24 _ _ ?_; try clear hK24 K24
                      refine CW_seq (fun K25 hK25 => ?_)
                      refine CW_seq (fun K26 hK26 => ?_)
                      refine CW_region ?_
                      refine OW_mv rfl ?_
                      refine OW_opS (fun K hK r => ?_)
                      simp only [x_un, u_not, eX, ↓reduceIte, Nat.reduceEqDiff, Int.reduceToNat]
                      refine hK _ _ ?_; clear hK K
                      refine OW_mv rfl ?_
                      (first | refine OW_split (d := 70) rfl (fun g70 => ?_) (fun g70 => ?_) | skip)
                      all_goals try (exfalso; exact cnA g70)
                      all_goals (try simp only [decide_eq_true_eq, decide_eq_false_iff_not, Bool.not_eq_true, Bool.not_eq_false, Bool.and_eq_true, Bool.or_eq_true, Bool.or_eq_false_iff, Bool.not_eq_true, Bool.not_eq_eq_eq_not, Bool.not_true, Bool.not_false] at g70)
                      all_goals
                        try simp only [eX, ↓reduceIte, Nat.reduceEqDiff, Int.reduceToNat]
                        first
                        | refine OW_guardT rfl (lt_some (by decide)) rfl (fun K hK r => ?_)
                          simp only [x_move, eX, ↓reduceIte, Nat.reduceEqDiff, Int.reduceToNat]
                          refine hK _ _ ?_; clear hK K
                        | refine OW_guardF rfl (lt_some (by decide)) rfl ?_
                          simp only [eX, ↓reduceIte, Nat.reduceEqDiff, Int.reduceToNat]
                        first
                        | refine OW_guardT rfl (lt_some (by decide)) rfl (fun K hK r => ?_)
                          simp only [x_builtin, l_len, List.map_toArray, List.map_cons, List.map_nil, i_len_slice _ _ Try.underlying22, eX, ↓reduceIte, Nat.reduceEqDiff, Int.reduceToNat]
                          refine hK _ _ ?_; clear hK K
                        | refine OW_guardF rfl (lt_some (by decide)) rfl ?_
                          simp only [eX, ↓reduceIte, Nat.reduceEqDiff, Int.reduceToNat]
                        first
                        | refine OW_guardT rfl (lt_some (by decide)) rfl (fun K hK r => ?_)
                          simp only [x_move, eX, ↓reduceIte, Nat.reduceEqDiff, Int.reduceToNat]
                          refine hK _ _ ?_; clear hK K
                        | refine OW_guardF rfl (lt_some (by decide)) rfl ?_
                          simp only [eX, ↓reduceIte, Nat.reduceEqDiff, Int.reduceToNat]
                        first
                        | refine OW_guardT rfl (lt_some (by decide)) rfl (fun K hK r => ?_)
                          simp only [x_move, eX, ↓reduceIte, Nat.reduceEqDiff, Int.reduceToNat]
                          refine hK _ _ ?_; clear hK K
                        | refine OW_guardF rfl (lt_some (by decide)) rfl ?_
                          simp only [eX, ↓reduceIte, Nat.reduceEqDiff, Int.reduceToNat]
                        first
                        | refine OW_guardT rfl (lt_some (by decide)) rfl (fun K hK r => ?_)
                          simp only [x_builtin, l_len, List.map_toArray, List.map_cons, List.map_nil, i_len_slice _ _ Try.underlying22, eX, ↓reduceIte, Nat.reduceEqDiff, Int.reduceToNat]
                          refine hK _ _ ?_; clear hK K
                        | refine OW_guardF rfl (lt_some (by decide)) rfl ?_
                          simp only [eX, ↓reduceIte, Nat.reduceEqDiff, Int.reduceToNat]
                        first
                        | refine OW_guardT rfl (lt_some (by decide)) rfl (fun K hK r => ?_)
                          simp (disch := (first | omega | decide)) only [x_bin, g_int, b_sub, wrap_i64, wrap_u64, wrap_u32, wrap_u8, eX, ↓reduceIte, Nat.reduceEqDiff, Int.reduceToNat]
                          refine hK _ _ ?_; clear hK K
                        | refine OW_guardF rfl (lt_some (by decide)) rfl ?_
                          simp only [eX, ↓reduceIte, Nat.reduceEqDiff, Int.reduceToNat]
                        first
                        | refine OW_guardT rfl (lt_some (by decide)) rfl (fun K hK r => ?_)
                          simp only [x_builtin, l_min, List.map_toArray, List.map_cons, List.map_nil, i_min2, eX, ↓reduceIte, Nat.reduceEqDiff, Int.reduceToNat]
                          refine hK _ _ ?_; clear hK K
                        | refine OW_guardF rfl (lt_some (by decide)) rfl ?_
                          simp only [eX, ↓reduceIte, Nat.reduceEqDiff, Int.reduceToNat]
                        first
                        | refine OW_guardT rfl (lt_some (by decide)) rfl (fun K hK r => ?_)
                          simp (disch := (first | omega | decide)) only [x_bin, g_int, b_neq, dec_lt_t, dec_lt_f, dec_le_t, dec_le_f, dec_eq_t, dec_eq_f, Bool.not_true, Bool.not_false, eX, ↓reduceIte, Nat.reduceEqDiff, Int.reduceToNat]
                          refine hK _ _ ?_; clear hK K
                        | refine OW_guardF rfl (lt_some (by decide)) rfl ?_
                          simp only [eX, ↓reduceIte, Nat.reduceEqDiff, Int.reduceToNat]
                        refine OW_opS (fun K hK r => ?_)
                        simp only [x_pick, l_asBool, HL.ite_bool, if_true, if_false, Bool.false_eq_true, eX, ↓reduceIte, Nat.reduceEqDiff, Int.reduceToNat]
                        refine hK _ _ ?_; clear hK K
                        refine OW_nil ?_
                        try simp only [Ex.thnH, Ex.inBlockH, ↓reduceIte, Nat.reduceEqDiff]
                        refine hK26 _ _ ?_; try clear hK26 K26
                        refine CW_cond (fun r => rfl) (fun c79 => ?_) (fun c79 => ?_)
                        · first
                          | (exfalso; exact cnA c79; done)
                          | skip
                            skip
                            refine CW_seq (fun K27 hK27 => ?_)
                            refine CW_region ?_
                            refine OW_opS (fun K hK r => ?_)
                            simp only [x_makeInterface, i_makeInterface, Try.underlying73, orF_some, eX, ↓reduceIte, Nat.reduceEqDiff, Int.reduceToNat]
                            refine hK _ _ ?_; clear hK K
                            refine OW_as rfl ?_
                            refine OW_as rfl ?_
                            refine OW_nil ?_
                            try simp only [Ex.thnH, Ex.inBlockH, ↓reduceIte, Nat.reduceEqDiff]
                            refine hK27 _ _ ?_; try clear hK27 K27
                            refine CW_ret ?_
                            try simp only [Ex.thnH, Ex.inBlockH, ↓reduceIte, Nat.reduceEqDiff]
                            have hno : ¬ (isB (s.rd 0 (2 + ar * areaI (s.sz 0) + k)).1.b (gen * 8192 + k + 1) 4 = true ∧ ((isD (s.rd 0 (2 + ar * areaI (s.sz 0) + k)).1.b (gen * 8192 + k + 1) 4).length : Int) = min 50 (l - out.length)) := fun hh => by
                              first
                              | (rw [g70] at hh; cases hh.1; done)
                              | (rw [min50, decide_eq_true hh.2] at c79; cases c79; done)
                            have h0 := loadN_no hN hno ((needI l).toNat - (k + 1))
                            rw [show k + 1 + ((needI l).toNat - (k + 1)) = (needI l).toNat from by omega] at h0
                            rw [load_none hask hln hgo hfit h0]
                            exact ⟨[_, _], ⟨rfl, rfl, trivial⟩, _, Le.refl _, lH65, _, none, rfl, OwnS.nil _ _ _, fun r hr => by cases hr⟩
                        · first
                          | (exfalso; exact cnA c79; done)
                          | skip
                            skip
                            refine CW_skip ?_
                            try simp only [Ex.thnH, Ex.inBlockH, ↓reduceIte, Nat.reduceEqDiff]
                            refine hK25 _ _ ?_; try clear hK25 K25
                            refine CW_region ?_
                            refine OW_mv rfl ?_
                            refine OW_mv rfl ?_
                            refine OW_opS (fun K hK r => ?_)
                            simp only [x_builtin, l_append, List.map_toArray, List.map_cons, List.map_nil, eX, ↓reduceIte, Nat.reduceEqDiff, Int.reduceToNat]
                            have hyes : isB (s.rd 0 (2 + ar * areaI (s.sz 0) + k)).1.b (gen * 8192 + k + 1) 4 = true ∧ ((isD (s.rd 0 (2 + ar * areaI (s.sz 0) + k)).1.b (gen * 8192 + k + 1) 4).length : Int) = min 50 (l - out.length) := by
                              refine ⟨g70, Classical.byContradiction fun hE => ?_⟩
                              rw [min50, decide_eq_false hE] at c79
                              cases c79
                            have hdl := isD_len (s.rd 0 (2 + ar * areaI (s.sz 0) + k)).1.b (gen * 8192 + k + 1) 4
                            refine Lt_append Try.underlying22 Try.underlying22 (by simp) sz5 by5 (by decide) zr5 rfl _ (n := out.length) (m := (isD (s.rd 0 (2 + ar * areaI (s.sz 0) + k)).1.b (gen * 8192 + k + 1) 4).length) (ds := u8s (isD (s.rd 0 (2 + ar * areaI (s.sz 0) + k)).1.b (gen * 8192 + k + 1) 4)) hO65 (fun Kx => len_holds ho65.holds Kx) (fun Kx => first_slice ho65.holds Kx) (by simp) (fun v hv => by obtain ⟨i, _, rfl⟩ := List.mem_map.1 hv; exact plain_int _ _) (by omega) ?_
                            intro v83 H83 rs83 hg83 ho83 hr83
                            have lH83 : Le H H83 := fun z o hz => hg83.known z o (lH65 z o hz) (fun e => by rw [hrs z e] at hz; cases hz)
                            have hrs83 : ∀ r, rs83 = some r → H r = none := fun r e => (hr83 r e).elim (hrs r) (fun hn => none_of_le lH65 hn)
                            refine hK _ _ ?_; clear hK K
                            refine OW_as rfl ?_
                            refine OW_nil ?_
                            try simp only [Ex.thnH, Ex.inBlockH, ↓reduceIte, Nat.reduceEqDiff]
                            refine hK18 _ _ ?_; try clear hK18 K18
                            refine CW_region ?_
                            refine OW_opS (fun K hK r => ?_)
                            simp (disch := (first | omega | decide)) only [x_bin, g_int, b_add, wrap_i64, wrap_u64, wrap_u32, wrap_u8, eX, ↓reduceIte, Nat.reduceEqDiff, Int.reduceToNat]
                            refine hK _ _ ?_; clear hK K
                            refine OW_mv rfl ?_
                            refine OW_nil ?_
                            try simp only [Ex.thnH, Ex.inBlockH, ↓reduceIte, Nat.reduceEqDiff]
                            exact ⟨(needI l).toNat - (k + 1), by omega, k + 1, _, rs83, _, by omega, rfl, loadN_some hN hyes.1 hyes.2, by rw [List.length_append, show u8s (out ++ isD (s.rd 0 (2 + ar * areaI (s.sz 0) + k)).1.b (gen * 8192 + k + 1) 4) = u8s out ++ u8s (isD (s.rd 0 (2 + ar * areaI (s.sz 0) + k)).1.b (gen * 8192 + k + 1) 4) from List.map_append]; exact ho83, hrs83, lH83, by rw [List.length_append]; omega, rfl, rfl, rfl, rfl, rfl, rfl, rfl, trivial⟩
                  · first
                    | (exfalso; exact cnA c43; done)
                    | skip
                      (try simp only [decide_eq_true_eq, decide_eq_false_iff_not, Bool.not_eq_true, Bool.not_eq_false, Bool.and_eq_true, Bool.or_eq_true, Bool.or_eq_false_iff, Bool.not_eq_true, Bool.not_eq_eq_eq_not, Bool.not_true, Bool.not_false] at c43)
                      have hkn : k = (needI l).toNat := by omega
                      refine CW_exit ?_
                      try simp only [Ex.thnH, Ex.inBlockH, ↓reduceIte, Nat.reduceEqDiff]
                      refine hK14 _ _ ?_; try clear hK14 K14
                      refine CW_seq (fun K28 hK28 => ?_)
                      refine CW_region ?_
                      refine OW_mv rfl ?_
                      refine OW_as rfl ?_
                      refine OW_as rfl ?_
                      refine OW_nil ?_
                      try simp only [Ex.thnH, Ex.inBlockH, ↓reduceIte, Nat.reduceEqDiff]
                      refine hK28 _ _ ?_; try clear hK28 K28
                      refine CW_ret ?_
                      try simp only [Ex.thnH, Ex.inBlockH, ↓reduceIte, Nat.reduceEqDiff]
                      rw [load_some hask hln hgo hfit (by rw [← hkn]; exact hN)]
                      exact ⟨[_, _], ⟨rfl, rfl, trivial⟩, _, Le.refl _, hlH, _, rs, rfl, hO, hrs⟩

end Go.Proofs.Ytcjdkfhmlnfedaa.HL
end
section
namespace Go.Proofs.Ytcjdkfhmlnfedaa.HL
open Go Go.Proofs
set_option linter.unusedSimpArgs false
set_option linter.unusedVariables false
attribute [local irreducible] Lt Lq CW OW TW CallH


theorem lastW_app (w : Wt) (i : Int) : ∀ l : List Wt, lastW (l ++ [w]) i = if w.at_ = i then some w.x else lastW l i
  | [] => by
    show (match lastW [] i with | some x => some x | none => if w.at_ = i then some w.x else none) = _
    rfl
  | v :: r => by
    show (match lastW (r ++ [w]) i with | some x => some x | none => if v.at_ = i then some v.x else none) = _
    rw [lastW_app w i r]
    by_cases h : w.at_ = i
    · simp only [if_pos h]
    · simp only [if_neg h]; rfl
theorem stN_all (ws : List Wt) (s : Int → Sec) : ∀ n, n ≤ ws.length → ∀ i, stN (fun _ => some 0) ws s n i = (lastW (ws.take n) i).getD (s i)
  | 0, _, i => rfl
  | n + 1, hn, i => by
    have e : ws.take (n + 1) = ws.take n ++ [ws.getD n default] := by
      rw [List.take_add_one, List.getElem?_eq_getElem (by omega), List.getD_eq_getElem?_getD, List.getElem?_eq_getElem (by omega)]; rfl
    rw [e, lastW_app]
    show (if i = (ws.getD n default).at_ then torn (ws.getD n default).x _ 0 else stN (fun _ => some 0) ws s n i) = _
    by_cases h : i = (ws.getD n default).at_
    · rw [if_pos h, if_pos h.symm]; simp [torn]
    · rw [if_neg h, if_neg (Ne.symm h)]; exact stN_all ws s n (by omega) i
/-- what the first device reads -/
abbrev St.r0 (s : St) (z : Int) : Sec := (s.dv.getD 0 default).read z
/-- a set whose power is there, with a first device of so many sectors -/
structure Up (s : St) (sz : Int) : Prop where
  ar : s.armed = false
  go : s.gone = false
  len : 1 ≤ s.dv.length
  sz : (s.dv.getD 0 default).size = sz
theorem Up.sz0 {s : St} {z : Int} (h : Up s z) : s.sz 0 = z := by
  have := h.len
  unfold St.sz
  rw [if_pos (by omega)]
  exact h.sz
theorem Up.step {s : St} {z : Int} (h : Up s z) : s.step.2 = true ∧ s.step.1.dv = s.dv ∧ s.step.1.armed = false ∧ s.step.1.gone = false := by
  unfold St.step
  rw [if_neg (by rw [h.ar, h.go]; simp)]
  exact ⟨rfl, rfl, h.ar, h.go⟩
theorem Up.wr {s : St} {sz : Int} (h : Up s sz) {i : Int} (h0 : 0 ≤ i) (h1 : i < sz) (x : Sec) : (s.wr 0 i x).2 = none ∧ Up (s.wr 0 i x).1 sz ∧ ∀ z, (s.wr 0 i x).1.r0 z = if z = i then x else s.r0 z := by
  obtain ⟨e1, e2, e3, e4⟩ := h.step
  have hl := h.len
  rcases wr_cases s 0 i x with ⟨_, _, hh⟩ | ⟨_, _, hh, _⟩ | ⟨a1, a2, _, _⟩
  · exfalso
    have : s.has 0 i = true := by
      unfold St.has
      rw [Bool.and_eq_true, decide_eq_true_eq, decide_eq_true_eq]
      exact ⟨⟨Int.le_refl _, by omega⟩, h0, by rw [show (0 : Int).toNat = 0 from rfl, h.sz]; exact h1⟩
    rw [hh] at this; cases this
  · rw [e1] at hh; cases hh
  · have hd : (s.wr 0 i x).1.dv.getD 0 default = (s.dv.getD 0 default).put ⟨i, x⟩ := by
      rw [a1]
      show (s.dv.set (0 : Int).toNat _).getD 0 default = _
      rw [getD_set, if_pos ⟨rfl, by show 0 < _; omega⟩]; rfl
    refine ⟨a2, ⟨by rw [a1]; exact e3, by rw [a1]; exact e4, by rw [a1]; simp; omega, by rw [hd]; exact h.sz⟩, fun z => ?_⟩
    show ((s.wr 0 i x).1.dv.getD 0 default).read z = _
    rw [hd]
    show (lastW ((s.dv.getD 0 default).wait ++ [⟨i, x⟩]) z).getD _ = _
    rw [lastW_app]
    by_cases e : z = i
    · rw [if_pos e, if_pos e.symm]; rfl
    · rw [if_neg e, if_neg (Ne.symm e)]; rfl
theorem Up.fl {s : St} {sz : Int} (h : Up s sz) : (s.fl 0).2 = none ∧ Up (s.fl 0).1 sz ∧ ((s.fl 0).1.dv.getD 0 default).wait = [] ∧ ∀ z, (s.fl 0).1.r0 z = s.r0 z := by
  obtain ⟨e1, e2, e3, e4⟩ := h.step
  have hl := h.len
  rcases fl_cases s 0 with ⟨_, _, hh⟩ | ⟨_, _, hh, _⟩ | ⟨a1, a2, _, _⟩
  · exact absurd ⟨Int.le_refl _, by omega⟩ hh
  · rw [e1] at hh; cases hh
  · have hd : (s.fl 0).1.dv.getD 0 default = (s.dv.getD 0 default).settle (fun _ => some 0) := by
      rw [a1]
      show (s.dv.set (0 : Int).toNat _).getD 0 default = _
      rw [getD_set, if_pos ⟨rfl, by show 0 < _; omega⟩]; rfl
    refine ⟨a2, ⟨by rw [a1]; exact e3, by rw [a1]; exact e4, by rw [a1]; simp; omega, by rw [hd]; exact h.sz⟩, by rw [hd]; rfl, fun z => ?_⟩
    show ((s.fl 0).1.dv.getD 0 default).read z = _
    rw [hd]
    show stN (fun _ => some 0) _ _ _ z = _
    rw [stN_all _ _ _ (Nat.le_refl _), List.take_of_length_le (Nat.le_refl _)]; rfl
theorem Up.rd {s : St} {sz : Int} (h : Up s sz) {z : Int} (h0 : 0 ≤ z) (h1 : z < sz) : s.rd 0 z = (s.r0 z, none) := by
  have hl := h.len
  unfold St.rd
  rw [if_neg (by rw [h.go]; simp), if_pos]
  · rfl
  · unfold St.has
    rw [Bool.and_eq_true, decide_eq_true_eq, decide_eq_true_eq]
    exact ⟨⟨Int.le_refl _, by omega⟩, h0, by rw [show (0 : Int).toNat = 0 from rfl, h.sz]; exact h1⟩
/-- what stands behind so many parts -/
def rdK (s : St) (gen at_ : Int) (b : List Int) : Nat → Int → Sec
  | 0, z => s.r0 z
  | k + 1, z => if z = at_ + k then secI gen b k else rdK s gen at_ b k z
theorem rdK_at (s : St) (gen at_ : Int) (b : List Int) {i : Nat} : ∀ {k : Nat}, i < k → rdK s gen at_ b k (at_ + i) = secI gen b i
  | k + 1, h => by
    unfold rdK
    by_cases e : i = k
    · rw [if_pos (by rw [e]), e]
    · rw [if_neg (by omega)]; exact rdK_at s gen at_ b (by omega)
theorem Up.saveN {s : St} {sz : Int} (h : Up s sz) {gen ar : Int} {b : List Int} (ha : 0 ≤ ar ∧ ar < 2) (hf : fitsI sz b.length = true) : ∀ k, k ≤ chN b → (s.saveN gen ar b k).2 = none ∧ Up (s.saveN gen ar b k).1 sz ∧ ∀ z, (s.saveN gen ar b k).1.r0 z = rdK s gen (2 + ar * areaI sz) b k z
  | 0, _ => ⟨rfl, h, fun z => rfl⟩
  | k + 1, hk => by
    obtain ⟨h1, h2, h3⟩ := Up.saveN h (gen := gen) ha hf k (by omega)
    have hat := at_fine ha hf (k := k) (by rw [needI_eq]; omega)
    rw [saveN_next h1, h.sz0]
    obtain ⟨q1, q2, q3⟩ := h2.wr hat.1 hat.2 (secI gen b k)
    refine ⟨q1, q2, fun z => ?_⟩
    rw [q3, h3]; rfl
theorem Up.save {s : St} {sz : Int} (h : Up s sz) {gen ar : Int} {b : List Int} (hk : askI gen ar = true) (hf : fitsI sz b.length = true) : (s.save gen ar b).2 = none ∧ Up (s.save gen ar b).1 sz ∧ ((s.save gen ar b).1.dv.getD 0 default).wait = [] ∧ ∀ z, (s.save gen ar b).1.r0 z = rdK s gen (2 + ar * areaI sz) b (chN b) z := by
  obtain ⟨h1, h2, h3⟩ := h.saveN (gen := gen) (ask_iff.1 hk).2 hf (chN b) (Nat.le_refl _)
  rw [save_all hk (by rw [h.sz0]; exact hf) h1]
  obtain ⟨q1, q2, q3, q4⟩ := h2.fl
  exact ⟨q1, q2, q3, fun z => by rw [q4, h3]⟩
/-- sealed sectors, and the empty one -/
theorem is_seal {st st' : Int} {d : List Int} (h : badI st 4 d = none) : isB (sealI st 4 d) st' 4 = decide (st = st') ∧ (st = st' → isD (sealI st 4 d) st' 4 = d) := by
  have ho := open_vals (by rw [sealI_eq h]; exact open_seal h : openI (sealI st 4 d) = some (st, 4, d))
  have e : isB (sealI st 4 d) st' 4 = decide (st = st') := by
    unfold isB; rw [ho.1, ho.2.1, ho.2.2.2]; simp
  refine ⟨e, fun hs => ?_⟩
  unfold isD
  rw [e, if_pos (by simp [hs]), ho.2.2.1]
theorem secI_fine {gen : Int} {b : List Int} {i : Nat} (hg : 1 ≤ gen ∧ gen ≤ 17179869183) (hi : i ≤ 100000) (st : Int) : isB (secI gen b i).b st 4 = decide (gen * 8192 + i + 1 = st) ∧ (gen * 8192 + i + 1 = st → isD (secI gen b i).b st 4 = chk b i) := is_seal (seal_fine hg hi)
/-- an image that stands is loaded -/
theorem Up.load {s : St} {sz : Int} (h : Up s sz) {gen ar : Int} {b : List Int} (hk : askI gen ar = true) (hf : fitsI sz b.length = true) (hb : b.length ≤ 100000) (hr : ∀ i : Nat, i < chN b → s.r0 (2 + ar * areaI sz + i) = secI gen b i) : s.load gen ar b.length = (b, none) := by
  have hak := ask_iff.1 hk
  have key : ∀ k, k ≤ chN b → s.loadN gen ar b.length k = some (b.take (50 * k)) := by
    intro k
    induction k with
    | zero => intro _; simp [St.loadN]
    | succ k ih =>
      intro hk'
      have hat := at_fine hak.2 hf (k := k) (by rw [needI_eq]; omega)
      have hread : (s.rd 0 (2 + ar * areaI (s.sz 0) + k)).1 = secI gen b k := by
        rw [h.sz0, h.rd hat.1 hat.2, hr k (by omega)]
      have hs := secI_fine (b := b) (i := k) hak.1 (by unfold chN at hk'; omega) (gen * 8192 + k + 1)
      have hcl := chk_len (l := b) (i := k) (by omega)
      rw [loadN_some (ih (by omega)) (by rw [hread, hs.1]; simp) (by rw [hread, hs.2 rfl, List.length_take]; unfold chN at hk'; omega), hread, hs.2 rfl, chk_step]
  rw [load_some hk (by omega) h.go (by rw [h.sz0]; exact hf) (by rw [needI_eq, Int.toNat_natCast]; exact key _ (Nat.le_refl _))]
  rw [List.take_of_length_le (by unfold chN; omega)]
end Go.Proofs.Ytcjdkfhmlnfedaa.HL
end
section
namespace Go.Proofs.Ytcjdkfhmlnfedaa.HL
open Go Go.Proofs
set_option linter.unusedSimpArgs false
set_option linter.unusedVariables false
attribute [local irreducible] Lt Lq CW OW TW CallH


theorem Up.loadN {s : St} {sz : Int} (h : Up s sz) {gen ar n : Int} {b : List Int} (hk : askI gen ar = true) (hf : fitsI sz b.length = true) (hb : b.length ≤ 100000) (hr : ∀ i : Nat, i < chN b → s.r0 (2 + ar * areaI sz + i) = secI gen b i) : ∀ k, k ≤ chN b → (∀ i : Nat, i < k → ((chk b i).length : Int) = min 50 (n - 50 * i)) → s.loadN gen ar n k = some (b.take (50 * k)) := by
  have hak := ask_iff.1 hk
  intro k
  induction k with
  | zero => intro _ _; simp [St.loadN]
  | succ k ih =>
    intro hk' hn
    have hat := at_fine hak.2 hf (k := k) (by rw [needI_eq]; omega)
    have hread : (s.rd 0 (2 + ar * areaI (s.sz 0) + k)).1 = secI gen b k := by
      rw [h.sz0, h.rd hat.1 hat.2, hr k (by omega)]
    have hs := secI_fine (b := b) (i := k) hak.1 (by unfold chN at hk'; omega) (gen * 8192 + k + 1)
    have hln := hn k (by omega)
    rw [loadN_some (ih (by omega) (fun i hi => hn i (by omega))) (by rw [hread, hs.1]; simp) (by rw [hread, hs.2 rfl, hln, List.length_take]; unfold chN at hk'; omega), hread, hs.2 rfl, chk_step]
def s60 (gen : Int) (b : List Int) : St := ((newSt [60]).save gen 0 b).1
theorem chk_byte' {l : List Int} (h : ByteL l) (k : Nat) : ByteL (chk l k) := fun x hx => h x (List.mem_of_mem_drop (List.mem_of_mem_take hx))
theorem rdK_byte {s : St} {gen at_ : Int} {b : List Int} (hb : ByteL b) (h0 : ∀ z, ByteL (s.r0 z).b) : ∀ k z, ByteL (rdK s gen at_ b k z).b
  | 0, z => h0 z
  | k + 1, z => by
    unfold rdK
    split
    · exact sealI_byte (chk_byte' hb k)
    · exact rdK_byte hb h0 k z
theorem zero_byte : ByteL Sec.zero.b := fun x hx => by
  have : x ∈ List.replicate 64 (0 : Int) := hx
  rw [List.mem_replicate] at this
  rw [this.2]; decide
theorem rd_byte {s : St} (h : ∀ z, ByteL (s.r0 z).b) (i : Int) : ByteL (s.rd 0 i).1.b := by
  unfold St.rd
  split
  · exact zero_byte
  split
  · exact h i
  · exact zero_byte
section
variable {gen : Int} {b : List Int}
end

end Go.Proofs.Ytcjdkfhmlnfedaa.HL
end
section
namespace Go.Proofs.Ytcjdkfhmlnfedaa.HL
open Go Go.Proofs
set_option linter.unusedSimpArgs false
set_option linter.unusedVariables false
attribute [local irreducible] Lt Lq CW OW TW CallH


/-- the first device: nothing waits in the first area, and it is sure of these sectors there -/
structure IS (s : St) (sz : Int) (V : Nat → Sec) (N : Nat) : Prop where
  len : 1 ≤ s.dv.length
  size : (s.dv.getD 0 default).size = sz
  sure : ∀ i : Nat, i < N → (s.dv.getD 0 default).sure (2 + i) = V i
  wait : ∀ w ∈ (s.dv.getD 0 default).wait, ∀ i : Nat, i < N → w.at_ ≠ 2 + i
theorem IS.congr {s t : St} {sz : Int} {V : Nat → Sec} {N : Nat} (h : IS s sz V N) (e : t.dv = s.dv) : IS t sz V N := ⟨by rw [e]; exact h.len, by rw [e]; exact h.size, by rw [e]; exact h.sure, by rw [e]; exact h.wait⟩
theorem IS.dev {s t : St} {sz : Int} {V : Nat → Sec} {N : Nat} (h : IS s sz V N) {d : Dv} (e : t.dv = s.dv.set 0 d) (h1 : d.size = sz) (h2 : ∀ i : Nat, i < N → d.sure (2 + i) = V i) (h3 : ∀ w ∈ d.wait, ∀ i : Nat, i < N → w.at_ ≠ 2 + i) : IS t sz V N := by
  have hl := h.len
  have hd : t.dv.getD 0 default = d := by rw [e, getD_set, if_pos ⟨rfl, by omega⟩]
  exact ⟨by rw [e]; simp; omega, by rw [hd]; exact h1, by rw [hd]; exact h2, by rw [hd]; exact h3⟩
theorem IS.wr {s : St} {sz : Int} {V : Nat → Sec} {N : Nat} (h : IS s sz V N) {z : Int} (hz : (N : Int) + 2 ≤ z) (x : Sec) : IS (s.wr 0 z x).1 sz V N := by
  rcases wr_cases s 0 z x with ⟨e, _⟩ | ⟨e, _⟩ | ⟨e, _⟩
  · rw [e]; exact h
  · rw [e]; exact h.congr (step_dv s)
  · rw [e]
    refine h.dev (d := (s.dv.getD 0 default).put ⟨z, x⟩) rfl h.size h.sure (fun w hw i hi => ?_)
    rcases List.mem_append.1 hw with hm | hm
    · exact h.wait w hm i hi
    · simp at hm; subst hm; show z ≠ _; omega
theorem IS.stN {ws : List Wt} {s0 : Int → Sec} {N : Nat} (hw : ∀ w ∈ ws, ∀ i : Nat, i < N → w.at_ ≠ 2 + i) (kept : Nat → Option Int) {i : Nat} (hi : i < N) : ∀ n, n ≤ ws.length → Go.Proofs.Ytcjdkfhmlnfedaa.HL.stN kept ws s0 n (2 + i) = s0 (2 + i)
  | 0, _ => rfl
  | n + 1, hn => by
    have ih := IS.stN (s0 := s0) hw kept hi n (by omega)
    have hm : ws.getD n default ∈ ws := by
      rw [List.getD_eq_getElem?_getD, List.getElem?_eq_getElem (by omega)]; exact List.getElem_mem _
    cases hk : kept n with
    | none =>
      show (match kept n with | none => Go.Proofs.Ytcjdkfhmlnfedaa.HL.stN kept ws s0 n | some t => _) _ = _
      rw [hk]; exact ih
    | some t =>
      show (match kept n with | none => Go.Proofs.Ytcjdkfhmlnfedaa.HL.stN kept ws s0 n | some t => _) _ = _
      rw [hk]
      simp only
      rw [if_neg (Ne.symm (hw _ hm i hi))]
      exact ih
theorem IS.settle {s : St} {sz : Int} {V : Nat → Sec} {N : Nat} (h : IS s sz V N) (kept : Nat → Option Int) : ((s.dv.getD 0 default).settle kept).size = sz ∧ (∀ i : Nat, i < N → ((s.dv.getD 0 default).settle kept).sure (2 + i) = V i) ∧ ∀ w ∈ ((s.dv.getD 0 default).settle kept).wait, ∀ i : Nat, i < N → w.at_ ≠ 2 + i :=
  ⟨h.size, fun i hi => (IS.stN h.wait kept hi _ (Nat.le_refl _)).trans (h.sure i hi), fun w hw => by simp [Dv.settle] at hw⟩
theorem IS.fl {s : St} {sz : Int} {V : Nat → Sec} {N : Nat} (h : IS s sz V N) : IS (s.fl 0).1 sz V N := by
  rcases fl_cases s 0 with ⟨e, _⟩ | ⟨e, _⟩ | ⟨e, _⟩
  · rw [e]; exact h
  · rw [e]; exact h.congr (step_dv s)
  · rw [e]
    obtain ⟨h1, h2, h3⟩ := h.settle (fun _ => some 0)
    exact h.dev rfl h1 h2 h3
theorem IS.cr {s : St} {sz : Int} {V : Nat → Sec} {N : Nat} (h : IS s sz V N) (l : List Kp) : IS (s.cr l) sz V N ∧ ((s.cr l).dv.getD 0 default).wait = [] := by
  have hl := h.len
  have hd : (s.cr l).dv.getD 0 default = (s.dv.getD 0 default).settle (fun n => keepOf l (0 : Nat) n) := by
    simp [St.cr, List.getD_eq_getElem?_getD, List.getElem?_mapIdx, List.getElem?_eq_getElem (show 0 < s.dv.length by omega)]
  obtain ⟨h1, h2, h3⟩ := h.settle (fun n => keepOf l (0 : Nat) n)
  exact ⟨⟨by simp [St.cr]; omega, by rw [hd]; exact h1, by rw [hd]; exact h2, by rw [hd]; exact h3⟩, by rw [hd]; rfl⟩
theorem IS.sz0 {s : St} {sz : Int} {V : Nat → Sec} {N : Nat} (h : IS s sz V N) : s.sz 0 = sz := by
  have := h.len
  unfold St.sz
  rw [if_pos (by omega)]
  exact h.size
theorem IS.saveN {s : St} {sz : Int} {V : Nat → Sec} {N : Nat} (h : IS s sz V N) (hN : (N : Int) ≤ areaI sz) (gen : Int) (b : List Int) : ∀ k, IS (s.saveN gen 1 b k).1 sz V N
  | 0 => h
  | k + 1 => by
    have ih := IS.saveN h hN gen b k
    unfold St.saveN
    split
    · rename_i t e
      rw [e] at ih
      exact ih.wr (by rw [h.sz0]; omega) _
    · rename_i t e2 e; rw [e] at ih; exact ih
theorem IS.save {s : St} {sz : Int} {V : Nat → Sec} {N : Nat} (h : IS s sz V N) (hN : (N : Int) ≤ areaI sz) (gen : Int) (b : List Int) : IS (s.save gen 1 b).1 sz V N := by
  unfold St.save
  split
  · exact h
  split
  · exact h
  have hk := h.saveN hN gen b (chN b)
  split
  · rename_i t e; rw [e] at hk; exact hk.fl
  · rename_i t e2 e; rw [e] at hk; exact hk
theorem Sm.save {n : Nat} {s : St} (h : Sm n s) (gen ar : Int) (b : List Int) : Sm (n + chN b) (s.save gen ar b).1 := by
  unfold St.save
  split
  · exact h.up (by omega)
  split
  · exact h.up (by omega)
  have hk := saveN_sm h gen ar b (chN b)
  split
  · rename_i t e; rw [e] at hk; exact hk.fl 0
  · rename_i t e2 e; rw [e] at hk; exact hk
/-- what was saved stands; behind a crash it is loaded -/
theorem IS.start {sz : Int} (hs : 4 ≤ sz ∧ sz ≤ 43) {gen : Int} {b : List Int} (hk : askI gen 0 = true) (hf : fitsI sz b.length = true) : IS ((newSt [sz]).save gen 0 b).1 sz (secI gen b) (chN b) ∧ ((newSt [sz]).save gen 0 b).2 = none := by
  have hu : Up (newSt [sz]) sz := ⟨rfl, rfl, Nat.le_refl 1, rfl⟩
  obtain ⟨q1, q2, q3, q4⟩ := hu.save hk hf
  refine ⟨⟨q2.len, q2.sz, fun i hi => ?_, fun w hw => by rw [q3] at hw; simp at hw⟩, q1⟩
  have h1 := q4 (2 + i)
  rw [show (2 + 0 * areaI sz : Int) = 2 from by omega, rdK_at _ _ _ _ hi] at h1
  rw [← h1]
  unfold St.r0 Dv.read
  rw [q3]; rfl
theorem IS.last {s : St} {sz : Int} {gen : Int} {b : List Int} (h : IS s sz (secI gen b) (chN b)) (l : List Kp) (hk : askI gen 0 = true) (hf : fitsI sz b.length = true) (hb : b.length ≤ 100000) : (s.cr l).load gen 0 b.length = (b, none) ∧ ∀ i : Nat, i < chN b → ((s.cr l).rd 0 (2 + 0 * areaI ((s.cr l).sz 0) + i)).1 = secI gen b i := by
  obtain ⟨h1, h2⟩ := h.cr l
  have hu : Up (s.cr l) sz := ⟨rfl, rfl, h1.len, h1.size⟩
  have hr : ∀ i : Nat, i < chN b → (s.cr l).r0 (2 + 0 * areaI sz + i) = secI gen b i := fun i hi => by
    rw [show (2 + 0 * areaI sz + (i : Int)) = 2 + i from by omega]
    unfold St.r0 Dv.read
    rw [h2]
    exact h1.sure i hi
  refine ⟨hu.load hk hf hb hr, fun i hi => ?_⟩
  have hat := at_fine (ask_iff.1 hk).2 hf (k := i) (by rw [needI_eq]; omega)
  rw [hu.sz0, hu.rd hat.1 hat.2]
  exact hr i hi
theorem fits_room {sz : Int} {b : List Int} (h : fitsI sz b.length = true) : (chN b : Int) ≤ areaI sz := by
  unfold fitsI at h
  simp only [Bool.and_eq_true, decide_eq_true_eq] at h
  rw [← needI_eq]; exact h.2
theorem save_unfit {s : St} {gen ar : Int} {b : List Int} {sz : Int} (hu : Up s sz) (hk : askI gen ar = true) (h : (s.save gen ar b).2 ≠ none) : fitsI sz b.length = false := by
  cases hf : fitsI sz b.length with
  | false => rfl
  | true => exact absurd (hu.save hk hf).1 h
theorem St.arm_dv {s : St} {n : Int} {sz : Int} {V : Nat → Sec} {N : Nat} (h : IS s sz V N) : IS (if n < 0 then s else { s with armed := true, left := n }) sz V N := by
  split
  · exact h
  · exact h.congr rfl
theorem St.arm_sm {s : St} {n : Int} {k : Nat} (h : Sm k s) : Sm k (if n < 0 then s else { s with armed := true, left := n }) := by
  split
  · exact h
  · exact h.of_dv rfl

end Go.Proofs.Ytcjdkfhmlnfedaa.HL
end
section
namespace Go.Proofs.Ytcjdkfhmlnfedaa.HL
open Go Go.Proofs
set_option linter.unusedSimpArgs false
set_option linter.unusedVariables false
attribute [local irreducible] Lt Lq CW OW TW CallH

end Go.Proofs.Ytcjdkfhmlnfedaa.HL
end
section
namespace Go.Proofs.Ytcjdkfhmlnfedaa.HL
open Go Go.Proofs
set_option linter.unusedSimpArgs false
set_option linter.unusedVariables false
attribute [local irreducible] Lt Lq CW OW TW CallH


def alB : List Int := [116, 101, 120, 116]
def alS : St := ((newSt [9]).save 1 1 alB).1
theorem al_up0 : Up (newSt [9]) 9 := ⟨rfl, rfl, by decide, rfl⟩
theorem al_ask : askI 1 1 = true := by decide
theorem al_fit : fitsI 9 alB.length = true := by decide
theorem al_up : ((newSt [9]).save 1 1 alB).2 = none ∧ Up alS 9 ∧ ∀ z, alS.r0 z = rdK (newSt [9]) 1 (2 + 1 * areaI 9) alB (chN alB) z := by
  obtain ⟨q1, q2, _, q4⟩ := al_up0.save al_ask al_fit
  exact ⟨q1, q2, q4⟩
theorem al_byte : ByteL alB := by
  intro x hx
  have : x = 116 ∨ x = 101 ∨ x = 120 ∨ x = 116 := by simpa [alB] using hx
  rcases this with rfl | rfl | rfl | rfl <;> decide
theorem al_load : alS.load 1 1 4 = (alB, none) :=
  al_up.2.1.load (b := alB) al_ask al_fit (by decide) (fun i hi => by rw [al_up.2.2]; exact rdK_at _ _ _ _ hi)
theorem al_rb (i : Int) : ByteL (alS.rd 0 i).1.b := rd_byte (fun z => by rw [al_up.2.2]; exact rdK_byte (s := newSt [9]) al_byte (fun z => by show ByteL Sec.zero.b; exact zero_byte) _ _) i
theorem al_sm : Sm 20 alS := by
  obtain ⟨k1, _, _⟩ := al_up0.saveN (gen := 1) (ask_iff.1 al_ask).2 al_fit (chN alB) (Nat.le_refl _)
  unfold alS
  rw [save_all al_ask (by rw [al_up0.sz0]; exact al_fit) k1]
  exact ((saveN_sm (Sm.new (l := [9]) (by decide)) 1 1 alB (chN alB)).fl 0).up (by decide)

set_option maxRecDepth 100000 in
set_option maxHeartbeats 4000000 in
theorem alive_ok (H : Hp) : CallH Try.prog 7 #[] H (fun v H' => v = .bool true ∧ H' = H) := by
  refine CallH_enter (l := []) (rl := [.tmp 0]) (n := 44) Try.func7 rfl rfl rfl rfl rfl ?_
  simp only [envOf, Nat.reduceAdd]
  refine CW_seq (fun K1 hK1 => ?_)
  refine CW_region ?_
  refine OW_as rfl ?_
  refine OW_nil ?_
  try simp only [Ex.thnH, Ex.inBlockH, ↓reduceIte, Nat.reduceEqDiff]
  refine hK1 _ _ ?_; try clear hK1 K1
  refine CW_seq (fun K2 hK2 => ?_)
  refine CW_region ?_
  refine OW_opS (fun K hK r => ?_)
  simp only [x_buildSlice, List.map_toArray, List.map_cons, List.map_nil, eX, ↓reduceIte, Nat.reduceEqDiff, Int.reduceToNat]
  refine Lt_buildSlice (vs := [_]) Try.underlying41 sz3 zr3 rfl bsA (by first | decide | (simp; done)) ?_
  simp only [List.flatMap_cons, List.flatMap_nil, Value.cells, List.append_nil, List.cons_append, List.nil_append, List.length_cons, List.length_nil, Nat.zero_add, Nat.reduceAdd]
  intro b5 hb5
  have f5_H : H b5 = none := none_of_le lhA hb5
  try simp only [eX, ↓reduceIte, Nat.reduceEqDiff, Int.reduceToNat]
  refine hK _ _ ?_; clear hK K
  refine OW_opS (fun K hK r => ?_)
  simp only [x_callF _ bd9, List.map_toArray, List.map_cons, List.map_nil, eX, ↓reduceIte, Nat.reduceEqDiff, Int.reduceToNat]
  refine (newL _ _ _ [9] ⟨rfl, .inr ⟨b5, 0, 1, _, _, _, rfl, hbA, by simp, by simp⟩⟩ rfl (by decide)).mono ?_
  rintro v6 H6 ⟨p, F6, rfl, hA6⟩
  have hO6 := hA6.old
  have lH6 : Le H H6 := Le.trans (le_upd _ _ _ hb5) hO6
  have hs0 := Sm.new (l := [9]) (by decide)
  try simp only [eX, ↓reduceIte, Nat.reduceEqDiff, Int.reduceToNat]
  refine hK _ _ ?_; clear hK K
  refine OW_mv rfl ?_
  refine OW_opS (fun K hK r => ?_)
  simp only [x_extract, i_extract, List.getElem?_toArray, List.getElem?_cons_zero, List.getElem?_cons_succ, orF_some, eX, ↓reduceIte, Nat.reduceEqDiff, Int.reduceToNat]
  refine hK _ _ ?_; clear hK K
  refine OW_opS (fun K hK r => ?_)
  simp only [x_extract, i_extract, List.getElem?_toArray, List.getElem?_cons_zero, List.getElem?_cons_succ, orF_some, eX, ↓reduceIte, Nat.reduceEqDiff, Int.reduceToNat]
  refine hK _ _ ?_; clear hK K
  refine OW_as rfl ?_
  refine OW_as rfl ?_
  refine OW_nil ?_
  try simp only [Ex.thnH, Ex.inBlockH, ↓reduceIte, Nat.reduceEqDiff]
  refine hK2 _ _ ?_; try clear hK2 K2
  refine CW_seq (fun K3 hK3 => ?_)
  refine CW_seq (fun K4 hK4 => ?_)
  refine CW_region ?_
  refine OW_mv rfl ?_
  refine OW_opS (fun K hK r => ?_)
  simp only [x_bin, g_int, g_bool, g_string, g_pointer, g_slice, g_map, g_func, g_nilFunc, g_err, g_iface, g_nil_iface, g_nil_r, g_nil_l, eX, ↓reduceIte, Nat.reduceEqDiff, Int.reduceToNat]
  first | rw [b_err_neq _ _ Try.underlying33] | (rw [e_neq _ _ _ _ (by simp), q_equal]; first | rw [q_iface_nil _ _ _ Try.underlying33] | rw [q_nil_iface _ _ _ Try.underlying33] | rw [q_nil_nil _ _ _ Try.underlying33])
  try simp only [eX, ↓reduceIte, Nat.reduceEqDiff, Int.reduceToNat]
  refine hK _ _ ?_; clear hK K
  refine OW_mv rfl ?_
  (first | refine OW_split (d := 11) rfl (fun g11 => ?_) (fun g11 => ?_) | skip)
  all_goals try (exfalso; exact cnA g11)
  all_goals (try simp only [decide_eq_true_eq, decide_eq_false_iff_not, Bool.not_eq_true, Bool.not_eq_false, Bool.and_eq_true, Bool.or_eq_true, Bool.or_eq_false_iff, Bool.not_eq_true, Bool.not_eq_eq_eq_not, Bool.not_true, Bool.not_false] at g11)
  all_goals
    try simp only [eX, ↓reduceIte, Nat.reduceEqDiff, Int.reduceToNat]
    first
    | refine OW_guardT rfl (lt_some (by decide)) rfl (fun K hK r => ?_)
      simp only [x_move, eX, ↓reduceIte, Nat.reduceEqDiff, Int.reduceToNat]
      refine hK _ _ ?_; clear hK K
    | refine OW_guardF rfl (lt_some (by decide)) rfl ?_
      simp only [eX, ↓reduceIte, Nat.reduceEqDiff, Int.reduceToNat]
    first
    | refine OW_guardT rfl (lt_some (by decide)) rfl (fun K hK r => ?_)
      simp only [x_callF _ bd11, List.map_toArray, List.map_cons, List.map_nil, eX, ↓reduceIte, Nat.reduceEqDiff, Int.reduceToNat]
      refine (area_ok hA6 hs0 (by decide) (by decide)).mono ?_
      rintro v H' ⟨rfl, hq⟩
      have hq := hq.symm
      subst hq
      rw [show areaI ((newSt [9]).sz 0) = 3 from by decide]
      try simp only [eX, ↓reduceIte, Nat.reduceEqDiff, Int.reduceToNat]
      refine hK _ _ ?_; clear hK K
    | refine OW_guardF rfl (lt_some (by decide)) rfl ?_
      simp only [eX, ↓reduceIte, Nat.reduceEqDiff, Int.reduceToNat]
    first
    | refine OW_guardT rfl (lt_some (by decide)) rfl (fun K hK r => ?_)
      simp (disch := (first | omega | decide)) only [x_bin, g_int, b_neq, dec_lt_t, dec_lt_f, dec_le_t, dec_le_f, dec_eq_t, dec_eq_f, Bool.not_true, Bool.not_false, eX, ↓reduceIte, Nat.reduceEqDiff, Int.reduceToNat]
      refine hK _ _ ?_; clear hK K
    | refine OW_guardF rfl (lt_some (by decide)) rfl ?_
      simp only [eX, ↓reduceIte, Nat.reduceEqDiff, Int.reduceToNat]
    refine OW_opS (fun K hK r => ?_)
    simp only [x_pick, l_asBool, HL.ite_bool, if_true, if_false, Bool.false_eq_true, eX, ↓reduceIte, Nat.reduceEqDiff, Int.reduceToNat]
    refine hK _ _ ?_; clear hK K
    refine OW_mv rfl ?_
    (first | refine OW_split (d := 16) rfl (fun g16 => ?_) (fun g16 => ?_) | skip)
    all_goals try (exfalso; exact cnA g16)
    all_goals (try simp only [decide_eq_true_eq, decide_eq_false_iff_not, Bool.not_eq_true, Bool.not_eq_false, Bool.and_eq_true, Bool.or_eq_true, Bool.or_eq_false_iff, Bool.not_eq_true, Bool.not_eq_eq_eq_not, Bool.not_true, Bool.not_false] at g16)
    all_goals
      try simp only [eX, ↓reduceIte, Nat.reduceEqDiff, Int.reduceToNat]
      first
      | refine OW_guardT rfl (lt_some (by decide)) rfl (fun K hK r => ?_)
        simp only [x_move, eX, ↓reduceIte, Nat.reduceEqDiff, Int.reduceToNat]
        refine hK _ _ ?_; clear hK K
      | refine OW_guardF rfl (lt_some (by decide)) rfl ?_
        simp only [eX, ↓reduceIte, Nat.reduceEqDiff, Int.reduceToNat]
      first
      | refine OW_guardT rfl (lt_some (by decide)) rfl (fun K hK r => ?_)
        simp only [x_callF _ bd26, List.map_toArray, List.map_cons, List.map_nil, eX, ↓reduceIte, Nat.reduceEqDiff, Int.reduceToNat]
        refine (fits_ok hA6 hs0 (by decide) (by decide) 150 (by omega) (by omega)).mono ?_
        rintro v H' ⟨rfl, hq⟩
        have hq := hq.symm
        subst hq
        rw [show fitsI ((newSt [9]).sz 0) 150 = true from by decide]
        try simp only [eX, ↓reduceIte, Nat.reduceEqDiff, Int.reduceToNat]
        refine hK _ _ ?_; clear hK K
      | refine OW_guardF rfl (lt_some (by decide)) rfl ?_
        simp only [eX, ↓reduceIte, Nat.reduceEqDiff, Int.reduceToNat]
      first
      | refine OW_guardT rfl (lt_some (by decide)) rfl (fun K hK r => ?_)
        simp only [x_un, u_not, eX, ↓reduceIte, Nat.reduceEqDiff, Int.reduceToNat]
        refine hK _ _ ?_; clear hK K
      | refine OW_guardF rfl (lt_some (by decide)) rfl ?_
        simp only [eX, ↓reduceIte, Nat.reduceEqDiff, Int.reduceToNat]
      refine OW_opS (fun K hK r => ?_)
      simp only [x_pick, l_asBool, HL.ite_bool, if_true, if_false, Bool.false_eq_true, eX, ↓reduceIte, Nat.reduceEqDiff, Int.reduceToNat]
      refine hK _ _ ?_; clear hK K
      refine OW_mv rfl ?_
      (first | refine OW_split (d := 21) rfl (fun g21 => ?_) (fun g21 => ?_) | skip)
      all_goals try (exfalso; exact cnA g21)
      all_goals (try simp only [decide_eq_true_eq, decide_eq_false_iff_not, Bool.not_eq_true, Bool.not_eq_false, Bool.and_eq_true, Bool.or_eq_true, Bool.or_eq_false_iff, Bool.not_eq_true, Bool.not_eq_eq_eq_not, Bool.not_true, Bool.not_false] at g21)
      all_goals
        try simp only [eX, ↓reduceIte, Nat.reduceEqDiff, Int.reduceToNat]
        first
        | refine OW_guardT rfl (lt_some (by decide)) rfl (fun K hK r => ?_)
          simp only [x_move, eX, ↓reduceIte, Nat.reduceEqDiff, Int.reduceToNat]
          refine hK _ _ ?_; clear hK K
        | refine OW_guardF rfl (lt_some (by decide)) rfl ?_
          simp only [eX, ↓reduceIte, Nat.reduceEqDiff, Int.reduceToNat]
        first
        | refine OW_guardT rfl (lt_some (by decide)) rfl (fun K hK r => ?_)
          simp only [x_callF _ bd26, List.map_toArray, List.map_cons, List.map_nil, eX, ↓reduceIte, Nat.reduceEqDiff, Int.reduceToNat]
          refine (fits_ok hA6 hs0 (by decide) (by decide) 151 (by omega) (by omega)).mono ?_
          rintro v H' ⟨rfl, hq⟩
          have hq := hq.symm
          subst hq
          rw [show fitsI ((newSt [9]).sz 0) 151 = false from by decide]
          try simp only [eX, ↓reduceIte, Nat.reduceEqDiff, Int.reduceToNat]
          refine hK _ _ ?_; clear hK K
        | refine OW_guardF rfl (lt_some (by decide)) rfl ?_
          simp only [eX, ↓reduceIte, Nat.reduceEqDiff, Int.reduceToNat]
        refine OW_opS (fun K hK r => ?_)
        simp only [x_pick, l_asBool, HL.ite_bool, if_true, if_false, Bool.false_eq_true, eX, ↓reduceIte, Nat.reduceEqDiff, Int.reduceToNat]
        refine hK _ _ ?_; clear hK K
        refine OW_mv rfl ?_
        (first | refine OW_split (d := 25) rfl (fun g25 => ?_) (fun g25 => ?_) | skip)
        all_goals try (exfalso; exact cnA g25)
        all_goals (try simp only [decide_eq_true_eq, decide_eq_false_iff_not, Bool.not_eq_true, Bool.not_eq_false, Bool.and_eq_true, Bool.or_eq_true, Bool.or_eq_false_iff, Bool.not_eq_true, Bool.not_eq_eq_eq_not, Bool.not_true, Bool.not_false] at g25)
        all_goals
          try simp only [eX, ↓reduceIte, Nat.reduceEqDiff, Int.reduceToNat]
          first
          | refine OW_guardT rfl (lt_some (by decide)) rfl (fun K hK r => ?_)
            simp only [x_move, eX, ↓reduceIte, Nat.reduceEqDiff, Int.reduceToNat]
            refine hK _ _ ?_; clear hK K
          | refine OW_guardF rfl (lt_some (by decide)) rfl ?_
            simp only [eX, ↓reduceIte, Nat.reduceEqDiff, Int.reduceToNat]
          first
          | refine OW_guardT rfl (lt_some (by decide)) rfl (fun K hK r => ?_)
            simp only [x_buildSlice, List.map_toArray, List.map_cons, List.map_nil, eX, ↓reduceIte, Nat.reduceEqDiff, Int.reduceToNat]
            refine Lt_buildSlice (vs := [_, _, _, _]) Try.underlying22 sz5 zr5 rfl bsA (by first | decide | (simp; done)) ?_
            simp only [List.flatMap_cons, List.flatMap_nil, Value.cells, List.append_nil, List.cons_append, List.nil_append, List.length_cons, List.length_nil, Nat.zero_add, Nat.reduceAdd]
            intro b27 hb27
            try have n27_b5 : b5 ≠ b27 := ne_of_none hbA hb27
            have f27_H : H b27 = none := none_of_le lhA hb27
            try simp only [eX, ↓reduceIte, Nat.reduceEqDiff, Int.reduceToNat]
            refine hK _ _ ?_; clear hK K
          | refine OW_guardF rfl (lt_some (by decide)) rfl ?_
            simp only [eX, ↓reduceIte, Nat.reduceEqDiff, Int.reduceToNat]
          first
          | refine OW_guardT rfl (lt_some (by decide)) rfl (fun K hK r => ?_)
            simp only [x_convert, eX, ↓reduceIte, Nat.reduceEqDiff, Int.reduceToNat]
            refine Lt_convSS Try.underlying22 Try.underlying5 hbA ?_
            try simp only [upd_upd]
            refine hK _ _ ?_; clear hK K
          | refine OW_guardF rfl (lt_some (by decide)) rfl ?_
            simp only [eX, ↓reduceIte, Nat.reduceEqDiff, Int.reduceToNat]
          first
          | refine OW_guardT rfl (lt_some (by decide)) rfl (fun K hK r => ?_)
            simp only [x_callF _ bd14, List.map_toArray, List.map_cons, List.map_nil, eX, ↓reduceIte, Nat.reduceEqDiff, Int.reduceToNat]
            have hA27 := hA6.put (hA6.fresh hb27) (.cells #[.int .u8 116, .int .u8 101, .int .u8 120, .int .u8 116] 5 (4, 5))
            refine (saveL hA27 hs0 (by omega) (by decide) (by decide) 1 1 (some ⟨b27, 0, none⟩) 4 alB ⟨rfl, .inr ⟨b27, 0, 4, _, _, _, rfl, upd_same _ _ _, by simp [alB], by simp [alB]⟩⟩ (by decide) (by decide)).mono ?_
            rintro v29 H29 ⟨rfl, F29, hS29⟩
            have hS29' : Stn _ H29 F29 p alS := hS29
            have lH29 : Le H H29 := Le.trans (Le.trans (le_upd _ _ _ hb5) (le_upd _ _ _ (none_of_le hO6 hb27))) hS29.old
            rw [al_up.1]
            try simp only [eX, ↓reduceIte, Nat.reduceEqDiff, Int.reduceToNat]
            refine hK _ _ ?_; clear hK K
          | refine OW_guardF rfl (lt_some (by decide)) rfl ?_
            simp only [eX, ↓reduceIte, Nat.reduceEqDiff, Int.reduceToNat]
          first
          | refine OW_guardT rfl (lt_some (by decide)) rfl (fun K hK r => ?_)
            simp only [x_bin, g_int, g_bool, g_string, g_pointer, g_slice, g_map, g_func, g_nilFunc, g_err, g_iface, g_nil_iface, g_nil_r, g_nil_l, eX, ↓reduceIte, Nat.reduceEqDiff, Int.reduceToNat]
            first | rw [b_err_neq _ _ Try.underlying33] | (rw [e_neq _ _ _ _ (by simp), q_equal]; first | rw [q_iface_nil _ _ _ Try.underlying33] | rw [q_nil_iface _ _ _ Try.underlying33] | rw [q_nil_nil _ _ _ Try.underlying33])
            try simp only [eX, ↓reduceIte, Nat.reduceEqDiff, Int.reduceToNat]
            refine hK _ _ ?_; clear hK K
          | refine OW_guardF rfl (lt_some (by decide)) rfl ?_
            simp only [eX, ↓reduceIte, Nat.reduceEqDiff, Int.reduceToNat]
          refine OW_opS (fun K hK r => ?_)
          simp only [x_pick, l_asBool, HL.ite_bool, if_true, if_false, Bool.false_eq_true, eX, ↓reduceIte, Nat.reduceEqDiff, Int.reduceToNat]
          refine hK _ _ ?_; clear hK K
          refine OW_nil ?_
          try simp only [Ex.thnH, Ex.inBlockH, ↓reduceIte, Nat.reduceEqDiff]
          refine hK4 _ _ ?_; try clear hK4 K4
          refine CW_cond (fun r => rfl) (fun c31 => ?_) (fun c31 => ?_)
          · exfalso; exact cnA c31
          refine CW_skip ?_
          try simp only [Ex.thnH, Ex.inBlockH, ↓reduceIte, Nat.reduceEqDiff]
          refine hK3 _ _ ?_; try clear hK3 K3
          refine CW_seq (fun K5 hK5 => ?_)
          refine CW_region ?_
          refine OW_mv rfl ?_
          refine OW_opS (fun K hK r => ?_)
          simp only [x_callF _ bd23, List.map_toArray, List.map_cons, List.map_nil, eX, ↓reduceIte, Nat.reduceEqDiff, Int.reduceToNat]
          refine (loadL hS29' al_sm (by omega) (by rw [al_up.2.1.sz0]; decide) (by rw [al_up.2.1.sz0]; decide) 1 1 4 (fun k _ => al_rb _) (by omega) (by omega)).mono ?_
          rintro v34 H34 ⟨l34, x34, rs34, rfl, ho34, _⟩
          rw [al_load] at ho34 ⊢
          obtain ⟨xa, xc, rfl⟩ := ho34.holds.form
          have lH34 : Le H H34 := Le.trans lH29 l34
          try simp only [eX, ↓reduceIte, Nat.reduceEqDiff, Int.reduceToNat]
          refine hK _ _ ?_; clear hK K
          refine OW_mv rfl ?_
          refine OW_opS (fun K hK r => ?_)
          simp only [x_extract, i_extract, List.getElem?_toArray, List.getElem?_cons_zero, List.getElem?_cons_succ, orF_some, eX, ↓reduceIte, Nat.reduceEqDiff, Int.reduceToNat]
          refine hK _ _ ?_; clear hK K
          refine OW_opS (fun K hK r => ?_)
          simp only [x_extract, i_extract, List.getElem?_toArray, List.getElem?_cons_zero, List.getElem?_cons_succ, orF_some, eX, ↓reduceIte, Nat.reduceEqDiff, Int.reduceToNat]
          refine hK _ _ ?_; clear hK K
          refine OW_as rfl ?_
          refine OW_as rfl ?_
          refine OW_nil ?_
          try simp only [Ex.thnH, Ex.inBlockH, ↓reduceIte, Nat.reduceEqDiff]
          refine hK5 _ _ ?_; try clear hK5 K5
          refine CW_seq (fun K6 hK6 => ?_)
          refine CW_region ?_
          refine OW_mv rfl ?_
          refine OW_opS (fun K hK r => ?_)
          simp only [x_bin, g_int, g_bool, g_string, g_pointer, g_slice, g_map, g_func, g_nilFunc, g_err, g_iface, g_nil_iface, g_nil_r, g_nil_l, eX, ↓reduceIte, Nat.reduceEqDiff, Int.reduceToNat]
          first | rw [b_err_eql _ _ Try.underlying33] | (rw [e_eql _ _ _ _ (by simp), q_equal]; first | rw [q_iface_nil _ _ _ Try.underlying33] | rw [q_nil_iface _ _ _ Try.underlying33] | rw [q_nil_nil _ _ _ Try.underlying33])
          try simp only [eX, ↓reduceIte, Nat.reduceEqDiff, Int.reduceToNat]
          refine hK _ _ ?_; clear hK K
          refine OW_mv rfl ?_
          (first | refine OW_split (d := 39) rfl (fun g39 => ?_) (fun g39 => ?_) | skip)
          all_goals try (exfalso; exact cnA g39)
          all_goals (try simp only [decide_eq_true_eq, decide_eq_false_iff_not, Bool.not_eq_true, Bool.not_eq_false, Bool.and_eq_true, Bool.or_eq_true, Bool.or_eq_false_iff, Bool.not_eq_true, Bool.not_eq_eq_eq_not, Bool.not_true, Bool.not_false] at g39)
          all_goals
            try simp only [eX, ↓reduceIte, Nat.reduceEqDiff, Int.reduceToNat]
            first
            | refine OW_guardT rfl (lt_some (by decide)) rfl (fun K hK r => ?_)
              simp only [x_move, eX, ↓reduceIte, Nat.reduceEqDiff, Int.reduceToNat]
              refine hK _ _ ?_; clear hK K
            | refine OW_guardF rfl (lt_some (by decide)) rfl ?_
              simp only [eX, ↓reduceIte, Nat.reduceEqDiff, Int.reduceToNat]
            first
            | refine OW_guardT rfl (lt_some (by decide)) rfl (fun K hK r => ?_)
              simp only [x_convert, eX, ↓reduceIte, Nat.reduceEqDiff, Int.reduceToNat]
              refine Lt_convBS Try.underlying22 Try.underlying5 Try.underlying9 (l := alB) ho34.holds ?_
              refine hK _ _ ?_; clear hK K
            | refine OW_guardF rfl (lt_some (by decide)) rfl ?_
              simp only [eX, ↓reduceIte, Nat.reduceEqDiff, Int.reduceToNat]
            first
            | refine OW_guardT rfl (lt_some (by decide)) rfl (fun K hK r => ?_)
              simp only [x_bin, g_string, b_seql, eX, ↓reduceIte, Nat.reduceEqDiff, Int.reduceToNat]
              rw [show ((strOf alB).toList == (ByteArray.mk #[116, 101, 120, 116]).toList) = true from by kernel_rfl]
              refine hK _ _ ?_; clear hK K
            | refine OW_guardF rfl (lt_some (by decide)) rfl ?_
              simp only [eX, ↓reduceIte, Nat.reduceEqDiff, Int.reduceToNat]
            refine OW_opS (fun K hK r => ?_)
            simp only [x_pick, l_asBool, HL.ite_bool, if_true, if_false, Bool.false_eq_true, eX, ↓reduceIte, Nat.reduceEqDiff, Int.reduceToNat]
            refine hK _ _ ?_; clear hK K
            refine OW_as rfl ?_
            refine OW_nil ?_
            try simp only [Ex.thnH, Ex.inBlockH, ↓reduceIte, Nat.reduceEqDiff]
            refine hK6 _ _ ?_; try clear hK6 K6
            refine CW_ret ?_
            try simp only [Ex.thnH, Ex.inBlockH, ↓reduceIte, Nat.reduceEqDiff]
            refine ⟨[_], ⟨rfl, trivial⟩, H, lH34, ?_, rfl⟩
            first | rfl | (simp; done)

end Go.Proofs.Ytcjdkfhmlnfedaa.HL
end
section
namespace Go.Proofs.Ytcjdkfhmlnfedaa.HL
open Go Go.Proofs
set_option linter.unusedSimpArgs false
set_option linter.unusedVariables false
attribute [local irreducible] Lt Lq CW OW TW CallH


theorem Kp.plain (k : Kp) : PlainL k.c := PlainL.cons (plain_int _ _) (PlainL.cons (plain_int _ _) (PlainL.cons (plain_int _ _) PlainL.nil))
theorem take_next {l : List Kp} {k : Nat} (hk : k < l.length) : kps (l.take (k + 1)) = kps (l.take k) ++ (l.getD k default).c := by
  rw [List.take_add_one, List.getElem?_eq_getElem hk, List.getD_eq_getElem?_getD, List.getElem?_eq_getElem hk]
  simp only [kps, List.flatMap_append, Option.toList_some, List.flatMap_cons, List.flatMap_nil, List.append_nil, Option.getD_some]

set_option maxRecDepth 100000 in
set_option maxHeartbeats 4000000 in
theorem keeps_ok (H : Hp) (a : Option Addr) (cap : Nat) (l : List Kp) (hv : Holds H 3 (.slice a l.length cap) l.length (kps l)) (hl : l.length ≤ 1000) : CallH Try.prog 18 #[.slice a l.length cap] H (fun v H' => Le H H' ∧ ∃ rs, OwnS H' 110 3 v l.length (kps l) rs ∧ ∀ r, rs = some r → H r = none) := by
  refine CallH_enter (l := [_]) (rl := [.tmp 2]) (n := 19) Try.func18 rfl rfl rfl rfl rfl ?_
  simp only [envOf, Nat.reduceAdd]
  refine CW_seq (fun K1 hK1 => ?_)
  refine CW_region ?_
  refine OW_as rfl ?_
  refine OW_nil ?_
  try simp only [Ex.thnH, Ex.inBlockH, ↓reduceIte, Nat.reduceEqDiff]
  refine hK1 _ _ ?_; try clear hK1 K1
  refine CW_seq (fun K2 hK2 => ?_)
  refine CW_region ?_
  refine OW_opS (fun K hK r => ?_)
  simp only [x_buildSlice, List.map_toArray, List.map_cons, List.map_nil, eX, ↓reduceIte, Nat.reduceEqDiff, Int.reduceToNat]
  refine Lt_buildSlice (vs := []) Try.underlying54 sz110 zr110 rfl bsA (by first | decide | (simp; done)) ?_
  simp only [List.flatMap_cons, List.flatMap_nil, Value.cells, List.append_nil, List.cons_append, List.nil_append, List.length_cons, List.length_nil, Nat.zero_add, Nat.reduceAdd]
  intro b6 hb6
  have f6_H : H b6 = none := none_of_le lhA hb6
  try simp only [eX, ↓reduceIte, Nat.reduceEqDiff, Int.reduceToNat]
  refine hK _ _ ?_; clear hK K
  refine OW_as rfl ?_
  refine OW_nil ?_
  try simp only [Ex.thnH, Ex.inBlockH, ↓reduceIte, Nat.reduceEqDiff]
  refine hK2 _ _ ?_; try clear hK2 K2
  refine CW_seq (fun K3 hK3 => ?_)
  refine CW_seq (fun K4 hK4 => ?_)
  refine CW_region ?_
  refine OW_mv rfl ?_
  refine OW_opS (fun K hK r => ?_)
  simp only [x_builtin, l_len, List.map_toArray, List.map_cons, List.map_nil, i_len_slice _ _ Try.underlying46, eX, ↓reduceIte, Nat.reduceEqDiff, Int.reduceToNat]
  refine hK _ _ ?_; clear hK K
  refine OW_mv rfl ?_
  refine OW_nil ?_
  try simp only [Ex.thnH, Ex.inBlockH, ↓reduceIte, Nat.reduceEqDiff]
  refine hK4 _ _ ?_; try clear hK4 K4
  refine CW_block ?_
  refine CW_loop (fun m e H_ => ∃ (k : Nat) (v : Value) (rs : Option Nat), k ≤ l.length ∧ m = l.length - k ∧ Le H H_ ∧ OwnS H_ 110 3 v k (kps (l.take k)) rs ∧ (∀ r, rs = some r → H r = none) ∧ Env.has [(3, v), (7, .slice a l.length cap), (8, .int .i64 l.length), (9, .int .i64 k)] e) (l.length) ?_ ?_
  · skip
    exact ⟨0, _, some b6, by omega, by omega, lhA, ⟨by simp, .inr ⟨b6, 0, #[], rfl, upd_same _ _ _, Nat.le_refl _, by simp, by simp, rfl⟩⟩, (fun r hr => by cases hr; exact f6_H), rfl, rfl, rfl, rfl, trivial⟩
  intro m_ e_ H_ hI_
  obtain ⟨k, v, rs, hk, rfl, hlH, hO, hrs, he⟩ := hI_
  refine CW_env he.sub ?_; clear he e_
  obtain ⟨va, vc, rfl⟩ := hO.holds.form
  refine CW_seq (fun K5 hK5 => ?_)
  refine CW_region ?_
  refine OW_opS (fun K hK r => ?_)
  simp (disch := (first | omega | decide)) only [x_bin, g_int, b_lss, dec_lt_t, dec_lt_f, dec_le_t, dec_le_f, dec_eq_t, dec_eq_f, Bool.not_true, Bool.not_false, eX, ↓reduceIte, Nat.reduceEqDiff, Int.reduceToNat]
  refine hK _ _ ?_; clear hK K
  refine OW_nil ?_
  try simp only [Ex.thnH, Ex.inBlockH, ↓reduceIte, Nat.reduceEqDiff]
  refine hK5 _ _ ?_; try clear hK5 K5
  refine CW_seq (fun K6 hK6 => ?_)
  refine CW_cond (fun r => rfl) (fun c10 => ?_) (fun c10 => ?_)
  · first
    | (exfalso; exact cnA c10; done)
    | skip
      (try simp only [decide_eq_true_eq, decide_eq_false_iff_not, Bool.not_eq_true, Bool.not_eq_false, Bool.and_eq_true, Bool.or_eq_true, Bool.or_eq_false_iff, Bool.not_eq_true, Bool.not_eq_eq_eq_not, Bool.not_true, Bool.not_false] at c10)
      obtain ⟨bw, ow, cw, Tw, Fw, ew, hbw, hsw, atw⟩ := hv.at (by omega)
      have mm := Nat.mul_le_mul_right 3 (show k + 1 ≤ l.length by omega)
      refine CW_skip ?_
      try simp only [Ex.thnH, Ex.inBlockH, ↓reduceIte, Nat.reduceEqDiff]
      refine hK6 _ _ ?_; try clear hK6 K6
      refine CW_seq (fun K7 hK7 => ?_)
      refine CW_block ?_
      refine CW_seq (fun K8 hK8 => ?_)
      refine CW_region ?_
      refine OW_opS (fun K hK r => ?_)
      simp only [x_indexAddr, eX, ↓reduceIte, Nat.reduceEqDiff, Int.reduceToNat]
      refine Lt_indexSof Try.underlying46 sz113 ew ixA ixA ?_
      try simp only [Int.toNat_natCast]
      refine hK _ _ ?_; clear hK K
      refine OW_opS (fun K hK r => ?_)
      simp only [x_load, eX, ↓reduceIte, Nat.reduceEqDiff, Int.reduceToNat]
      refine Lt_loadAtA Try.underlying113 rfl sz113 (hlH _ _ hbw) (by omega) ?_
      rw [ext_at Kp.len atw rfl k (by omega) hsw]
      refine hK _ _ ?_; clear hK K
      refine OW_opS (fun K hK r => ?_)
      simp only [x_alloc, zr113, orF_some, Value.cells, eX, ↓reduceIte, Nat.reduceEqDiff, Int.reduceToNat]
      intro b5 hb5
      try have n5_b6 : b6 ≠ b5 := ne_of_none hbA hb5
      have f5_H : H b5 = none := none_of_le lhA hb5
      try simp only [eX, ↓reduceIte, Nat.reduceEqDiff, Int.reduceToNat]
      refine hK _ _ ?_; clear hK K
      refine OW_op rfl (lt_none) (fun K hK r => ?_)
      simp only [x_store, eX, ↓reduceIte, Nat.reduceEqDiff, Int.reduceToNat]
      first | refine Lt_storeAll sz113 bdA hbA bdA plA (by decide) ?_ | refine Lt_storeAtA sz113 bdA hbA bdA plA (by decide) ?_
      try simp only [eX, ↓reduceIte, Nat.reduceEqDiff, Int.reduceToNat]
      refine hK _ _ ?_; clear hK K
      refine OW_nil ?_
      try simp only [Ex.thnH, Ex.inBlockH, ↓reduceIte, Nat.reduceEqDiff]
      refine hK8 _ _ ?_; try clear hK8 K8
      refine CW_region ?_
      refine OW_mv rfl ?_
      refine OW_opS (fun K hK r => ?_)
      simp only [x_load, eX, ↓reduceIte, Nat.reduceEqDiff, Int.reduceToNat]
      first | refine Lt_loadAll Try.underlying113 rfl sz113 hbA bdA ?_ | refine Lt_loadAtA Try.underlying113 rfl sz113 hbA bdA ?_
      try simp only [List.extract_toArray, List.extract_eq_take_drop, Nat.zero_add, Nat.reduceAdd, Nat.reduceSub, Nat.sub_zero, List.drop_succ_cons, List.drop_zero, List.take_succ_cons, List.take_zero, List.take_nil, List.drop_nil]
      try simp only [eX, ↓reduceIte, Nat.reduceEqDiff, Int.reduceToNat]
      refine hK _ _ ?_; clear hK K
      refine OW_opS (fun K hK r => ?_)
      simp only [x_buildSlice, List.map_toArray, List.map_cons, List.map_nil, eX, ↓reduceIte, Nat.reduceEqDiff, Int.reduceToNat]
      refine Lt_buildSlice (vs := [_]) Try.underlying54 sz110 zr110 rfl bsA (by first | decide | (simp; done)) ?_
      simp only [List.flatMap_cons, List.flatMap_nil, Value.cells, List.append_nil, List.cons_append, List.nil_append, List.length_cons, List.length_nil, Nat.zero_add, Nat.reduceAdd]
      intro b15 hb15
      try have n15_b6 : b6 ≠ b15 := ne_of_none hbA hb15
      try have n15_b5 : b5 ≠ b15 := ne_of_none hbA hb15
      have f15_H : H b15 = none := none_of_le lhA hb15
      try simp only [eX, ↓reduceIte, Nat.reduceEqDiff, Int.reduceToNat]
      refine hK _ _ ?_; clear hK K
      refine OW_opS (fun K hK r => ?_)
      simp only [x_builtin, l_append, List.map_toArray, List.map_cons, List.map_nil, eX, ↓reduceIte, Nat.reduceEqDiff, Int.reduceToNat]
      have h5 : H_ b5 = none := hb5
      have n515 : b5 ≠ b15 := ne_of_none hbA hb15
      have h15 : H_ b15 = none := none_of_le (le_upd _ _ _ h5) hb15
      refine Lt_append Try.underlying54 Try.underlying54 (by simp) sz110 by110 (by decide) zr110 rfl _ (n := k) (m := 1) (ds := (l.getD k default).c) ((hO.make h5).make hb15) (fun Kx => len_slice _ _ _ Kx) (fun Kx => first_slice (w := 3) (n := 1) (cs := (l.getD k default).c) ⟨rfl, .inr ⟨b15, 0, 1, _, _, _, rfl, hbA, by simp, by simp⟩⟩ Kx) rfl (Kp.plain _) (by omega) ?_
      intro v16 H16 rs16 hg16 ho16 hr16
      obtain ⟨wa16, wc16, rfl⟩ := ho16.holds.form
      rw [← take_next (by omega)] at ho16
      have l16 : Le H H16 := fun z o hz => hg16.known z o ((upd_ne _ _ (ne_of_none (hlH _ _ hz) h15)).trans ((upd_ne _ _ (ne_of_none (hlH _ _ hz) h5)).trans (hlH _ _ hz))) (fun e => by rw [hrs z e] at hz; cases hz)
      have hrs16 : ∀ r, rs16 = some r → H r = none := fun r e => (hr16 r e).elim (hrs r) (fun hn => none_of_le hlH (upd_none (upd_none hn)))
      refine hK _ _ ?_; clear hK K
      refine OW_as rfl ?_
      refine OW_nil ?_
      try simp only [Ex.thnH, Ex.inBlockH, ↓reduceIte, Nat.reduceEqDiff]
      refine hK7 _ _ ?_; try clear hK7 K7
      refine CW_region ?_
      refine OW_opS (fun K hK r => ?_)
      simp (disch := (first | omega | decide)) only [x_bin, g_int, b_add, wrap_i64, wrap_u64, wrap_u32, wrap_u8, eX, ↓reduceIte, Nat.reduceEqDiff, Int.reduceToNat]
      refine hK _ _ ?_; clear hK K
      refine OW_mv rfl ?_
      refine OW_nil ?_
      try simp only [Ex.thnH, Ex.inBlockH, ↓reduceIte, Nat.reduceEqDiff]
      exact ⟨l.length - (k + 1), by omega, k + 1, _, rs16, by omega, rfl, l16, ho16, hrs16, rfl, rfl, rfl, rfl, trivial⟩
  · first
    | (exfalso; exact cnA c10; done)
    | skip
      (try simp only [decide_eq_true_eq, decide_eq_false_iff_not, Bool.not_eq_true, Bool.not_eq_false, Bool.and_eq_true, Bool.or_eq_true, Bool.or_eq_false_iff, Bool.not_eq_true, Bool.not_eq_eq_eq_not, Bool.not_true, Bool.not_false] at c10)
      have hkn : k = l.length := by omega
      refine CW_exit ?_
      try simp only [Ex.thnH, Ex.inBlockH, ↓reduceIte, Nat.reduceEqDiff]
      refine hK3 _ _ ?_; try clear hK3 K3
      refine CW_seq (fun K9 hK9 => ?_)
      refine CW_region ?_
      refine OW_mv rfl ?_
      refine OW_as rfl ?_
      refine OW_nil ?_
      try simp only [Ex.thnH, Ex.inBlockH, ↓reduceIte, Nat.reduceEqDiff]
      refine hK9 _ _ ?_; try clear hK9 K9
      refine CW_ret ?_
      try simp only [Ex.thnH, Ex.inBlockH, ↓reduceIte, Nat.reduceEqDiff]
      subst hkn
      rw [List.take_of_length_le (Nat.le_refl _)] at hO
      exact ⟨[_], ⟨rfl, trivial⟩, _, Le.refl _, hlH, rs, hO, hrs⟩

end Go.Proofs.Ytcjdkfhmlnfedaa.HL
end
section
namespace Go.Proofs.Ytcjdkfhmlnfedaa.HL
open Go Go.Proofs
set_option linter.unusedSimpArgs false
set_option linter.unusedVariables false
attribute [local irreducible] Lt Lq CW OW TW CallH


theorem kp0 : Holds emptyHp 3 (.slice none 0 0) 0 (kps []) := ⟨rfl, .inl ⟨none, 0, rfl, rfl⟩⟩
theorem OwnS.part {H : Hp} {E : TypeId} {w : Nat} {v : Value} {n : Nat} {cs : List Value} {rs : Option Nat} (h : OwnS H E w v n cs rs) : ∃ G, Le G H ∧ Holds G w v n cs ∧ ∀ x, G x ≠ none → rs = some x := by
  obtain ⟨h1, ⟨h2, h3, h4⟩ | ⟨r, cap, c, h2, h3, h4, h5, h6, h7⟩⟩ := h
  · exact ⟨emptyHp, le_empty _, ⟨h1, .inl ⟨none, 0, h2, h3⟩⟩, fun x hx => absurd rfl hx⟩
  · refine ⟨emptyHp.upd r (.cells c E), le_put (le_empty _) h3, OwnS.holds (E := E) (rs := rs) ⟨h1, .inr ⟨r, cap, c, h2, upd_same _ _ _, h4, h5, h6, h7⟩⟩, fun x hx => ?_⟩
    by_cases e : x = r
    · rw [e]; exact h7
    · rw [upd_ne _ _ e] at hx; exact absurd rfl hx
/-- an act on an image -/
structure Op6 where
  kind : Int
  gen : Int
  area : Int
  n : Int
  ba : Option Addr
  bc : Nat
  b : List Int
  x : Sec
  ka : Option Addr
  kc : Nat
  keep : List Kp
instance : Inhabited Op6 := ⟨⟨0, 0, 0, 0, none, 0, [], Sec.zero, none, 0, []⟩⟩
abbrev Op6.c (o : Op6) : List Value := .int .i64 o.kind :: .int .i64 o.gen :: .int .i64 o.area :: .int .i64 o.n :: .slice o.ba o.b.length o.bc :: (o.x.c ++ [.slice o.ka o.keep.length o.kc])
theorem Op6.len (o : Op6) : o.c.length = 70 := by
  show (o.x.c ++ [_]).length + 5 = 70
  rw [List.length_append, Sec.len]; rfl
theorem Op6.plain (o : Op6) : PlainL o.c := PlainL.cons (plain_int _ _) (PlainL.cons (plain_int _ _) (PlainL.cons (plain_int _ _) (PlainL.cons (plain_int _ _) (PlainL.cons (plain_slice _ _ _) (fun v hv => by
  rcases List.mem_append.1 hv with h | h
  · exact PlainL.ints _ _ v h
  · simp at h; subst h; exact plain_slice _ _ _)))))
theorem Op6.keep_at (o : Op6) : o.c[69]? = some (.slice o.ka o.keep.length o.kc) := by
  show (o.x.c ++ [_])[64]? = _
  rw [List.getElem?_append_right (by rw [Sec.len]; exact Nat.le_refl _), Sec.len]; rfl
theorem Op6.keep' (o : Op6) : o.c.toArray[69]? = some (.slice o.ka o.keep.length o.kc) := by
  rw [List.getElem?_toArray]; exact o.keep_at
abbrev ops6 (l : List Op6) : List Value := l.flatMap Op6.c
structure Op6.ok (H : Hp) (o : Op6) : Prop where
  hk : Holds H 3 (.slice o.ka o.keep.length o.kc) o.keep.length (kps o.keep)
  hb : Holds H 1 (.slice o.ba o.b.length o.bc) o.b.length (u8s o.b)
  hc : o.b.length ≤ o.bc
  n1 : o.n ≤ 9223372036854775807
def short6 (l : List Op6) : Prop := l.length ≤ 41 ∧ ∀ j, j < l.length → (l.getD j default).keep.length ≤ 40 ∧ (l.getD j default).b.length ≤ 2000

set_option maxRecDepth 100000 in
set_option maxHeartbeats 4000000 in
theorem long_ok (H : Hp) (a : Option Addr) (cap : Nat) (l : List Op6) (hv : Holds H 70 (.slice a l.length cap) l.length (ops6 l)) : CallH Try.prog 8 #[.slice a l.length cap] H (fun v H' => ∃ t, v = .bool t ∧ (t = false → short6 l) ∧ H' = H) := by
  refine CallH_enter (l := [_]) (rl := [.tmp 2]) (n := 27) Try.func8 rfl rfl rfl rfl rfl ?_
  simp only [envOf, Nat.reduceAdd]
  refine CW_seq (fun K1 hK1 => ?_)
  refine CW_region ?_
  refine OW_as rfl ?_
  refine OW_nil ?_
  try simp only [Ex.thnH, Ex.inBlockH, ↓reduceIte, Nat.reduceEqDiff]
  refine hK1 _ _ ?_; try clear hK1 K1
  refine CW_seq (fun K2 hK2 => ?_)
  refine CW_seq (fun K3 hK3 => ?_)
  refine CW_region ?_
  refine OW_mv rfl ?_
  refine OW_opS (fun K hK r => ?_)
  simp only [x_builtin, l_len, List.map_toArray, List.map_cons, List.map_nil, i_len_slice _ _ Try.underlying27, eX, ↓reduceIte, Nat.reduceEqDiff, Int.reduceToNat]
  refine hK _ _ ?_; clear hK K
  refine OW_mv rfl ?_
  refine OW_nil ?_
  try simp only [Ex.thnH, Ex.inBlockH, ↓reduceIte, Nat.reduceEqDiff]
  refine hK3 _ _ ?_; try clear hK3 K3
  refine CW_block ?_
  refine CW_loop (fun m e H_ => ∃ k : Nat, k ≤ l.length ∧ k ≤ 41 ∧ m = 41 - k ∧ (∀ j, j < k → (l.getD j default).keep.length ≤ 40 ∧ (l.getD j default).b.length ≤ 2000) ∧ Le H H_ ∧ Env.has [(5, .slice a l.length cap), (6, .int .i64 l.length), (7, .int .i64 k)] e) (41) ?_ ?_
  · skip
    exact ⟨0, by omega, by omega, by omega, (fun j hj => absurd hj (by omega)), Le.refl _, rfl, rfl, rfl, trivial⟩
  intro m_ e_ H_ hI_
  obtain ⟨k, hk, hk81, rfl, hno, hlH, he⟩ := hI_
  refine CW_env he.sub ?_; clear he e_
  refine CW_seq (fun K4 hK4 => ?_)
  refine CW_region ?_
  refine OW_opS (fun K hK r => ?_)
  simp (disch := (first | omega | decide)) only [x_bin, g_int, b_lss, dec_lt_t, dec_lt_f, dec_le_t, dec_le_f, dec_eq_t, dec_eq_f, Bool.not_true, Bool.not_false, eX, ↓reduceIte, Nat.reduceEqDiff, Int.reduceToNat]
  refine hK _ _ ?_; clear hK K
  refine OW_nil ?_
  try simp only [Ex.thnH, Ex.inBlockH, ↓reduceIte, Nat.reduceEqDiff]
  refine hK4 _ _ ?_; try clear hK4 K4
  refine CW_seq (fun K5 hK5 => ?_)
  refine CW_cond (fun r => rfl) (fun c8 => ?_) (fun c8 => ?_)
  · first
    | (exfalso; exact cnA c8; done)
    | skip
      (try simp only [decide_eq_true_eq, decide_eq_false_iff_not, Bool.not_eq_true, Bool.not_eq_false, Bool.and_eq_true, Bool.or_eq_true, Bool.or_eq_false_iff, Bool.not_eq_true, Bool.not_eq_eq_eq_not, Bool.not_true, Bool.not_false] at c8)
      obtain ⟨bw, ow, cw, Tw, Fw, ew, hbw, hsw, atw⟩ := (hv.le hlH).at (by omega)
      have mo := Nat.mul_le_mul_right 70 (show k + 1 ≤ l.length by omega)
      refine CW_skip ?_
      try simp only [Ex.thnH, Ex.inBlockH, ↓reduceIte, Nat.reduceEqDiff]
      refine hK5 _ _ ?_; try clear hK5 K5
      refine CW_seq (fun K6 hK6 => ?_)
      refine CW_block ?_
      refine CW_seq (fun K7 hK7 => ?_)
      refine CW_region ?_
      refine OW_mv rfl ?_
      refine OW_opS (fun K hK r => ?_)
      simp only [x_indexAddr, eX, ↓reduceIte, Nat.reduceEqDiff, Int.reduceToNat]
      refine Lt_indexSof Try.underlying27 sz48 ew ixA ixA ?_
      try simp only [Int.toNat_natCast]
      refine hK _ _ ?_; clear hK K
      refine OW_opS (fun K hK r => ?_)
      simp only [x_load, eX, ↓reduceIte, Nat.reduceEqDiff, Int.reduceToNat]
      refine Lt_loadAtA Try.underlying48 rfl sz48 hbw (by omega) ?_
      rw [ext_at Op6.len atw rfl k (by omega) hsw]
      refine hK _ _ ?_; clear hK K
      refine OW_opS (fun K hK r => ?_)
      simp only [x_alloc, zr48, orF_some, Value.cells, eX, ↓reduceIte, Nat.reduceEqDiff, Int.reduceToNat]
      intro b4 hb4
      have f4_H : H b4 = none := none_of_le lhA hb4
      try simp only [eX, ↓reduceIte, Nat.reduceEqDiff, Int.reduceToNat]
      refine hK _ _ ?_; clear hK K
      refine OW_as rfl ?_
      refine OW_op rfl (lt_none) (fun K hK r => ?_)
      simp only [x_store, eX, ↓reduceIte, Nat.reduceEqDiff, Int.reduceToNat]
      refine Lt_storeAll sz48 (by rw [List.size_toArray, Op6.len]) hbA (by simp [Sec.h]) (Op6.plain _) (by decide) ?_
      try simp only [upd_upd]
      refine hK _ _ ?_; clear hK K
      refine OW_nil ?_
      try simp only [Ex.thnH, Ex.inBlockH, ↓reduceIte, Nat.reduceEqDiff]
      refine hK7 _ _ ?_; try clear hK7 K7
      refine CW_seq (fun K8 hK8 => ?_)
      refine CW_region ?_
      refine OW_mv rfl ?_
      refine OW_opS (fun K hK r => ?_)
      simp (disch := (first | omega | decide)) only [x_bin, g_int, b_gtr, dec_lt_t, dec_lt_f, dec_le_t, dec_le_f, dec_eq_t, dec_eq_f, Bool.not_true, Bool.not_false, eX, ↓reduceIte, Nat.reduceEqDiff, Int.reduceToNat]
      refine hK _ _ ?_; clear hK K
      refine OW_mv rfl ?_
      (first | refine OW_split (d := 14) rfl (fun g14 => ?_) (fun g14 => ?_) | skip)
      all_goals try (exfalso; exact cnA g14)
      all_goals (try simp only [decide_eq_true_eq, decide_eq_false_iff_not, Bool.not_eq_true, Bool.not_eq_false, Bool.and_eq_true, Bool.or_eq_true, Bool.or_eq_false_iff, Bool.not_eq_true, Bool.not_eq_eq_eq_not, Bool.not_true, Bool.not_false] at g14)
      all_goals
        try simp only [eX, ↓reduceIte, Nat.reduceEqDiff, Int.reduceToNat]
        first
        | refine OW_guardT rfl (lt_some (by decide)) rfl (fun K hK r => ?_)
          simp only [x_fieldAddr, fa48_4, add_mk, Nat.reduceAdd, Nat.zero_add, eX, ↓reduceIte, Nat.reduceEqDiff, Int.reduceToNat]
          refine hK _ _ ?_; clear hK K
        | refine OW_guardF rfl (lt_some (by decide)) rfl ?_
          simp only [eX, ↓reduceIte, Nat.reduceEqDiff, Int.reduceToNat]
        first
        | refine OW_guardT rfl (lt_some (by decide)) rfl (fun K hK r => ?_)
          simp only [x_load, eX, ↓reduceIte, Nat.reduceEqDiff, Int.reduceToNat]
          refine Lt_loadAt1 Try.underlying22 rfl hbA ldA ?_
          try simp only [eX, ↓reduceIte, Nat.reduceEqDiff, Int.reduceToNat]
          refine hK _ _ ?_; clear hK K
        | refine OW_guardF rfl (lt_some (by decide)) rfl ?_
          simp only [eX, ↓reduceIte, Nat.reduceEqDiff, Int.reduceToNat]
        first
        | refine OW_guardT rfl (lt_some (by decide)) rfl (fun K hK r => ?_)
          simp only [x_builtin, l_len, List.map_toArray, List.map_cons, List.map_nil, i_len_slice _ _ Try.underlying22, eX, ↓reduceIte, Nat.reduceEqDiff, Int.reduceToNat]
          refine hK _ _ ?_; clear hK K
        | refine OW_guardF rfl (lt_some (by decide)) rfl ?_
          simp only [eX, ↓reduceIte, Nat.reduceEqDiff, Int.reduceToNat]
        first
        | refine OW_guardT rfl (lt_some (by decide)) rfl (fun K hK r => ?_)
          simp (disch := (first | omega | decide)) only [x_bin, g_int, b_gtr, dec_lt_t, dec_lt_f, dec_le_t, dec_le_f, dec_eq_t, dec_eq_f, Bool.not_true, Bool.not_false, eX, ↓reduceIte, Nat.reduceEqDiff, Int.reduceToNat]
          refine hK _ _ ?_; clear hK K
        | refine OW_guardF rfl (lt_some (by decide)) rfl ?_
          simp only [eX, ↓reduceIte, Nat.reduceEqDiff, Int.reduceToNat]
        refine OW_opS (fun K hK r => ?_)
        simp only [x_pick, l_asBool, HL.ite_bool, if_true, if_false, Bool.false_eq_true, eX, ↓reduceIte, Nat.reduceEqDiff, Int.reduceToNat]
        refine hK _ _ ?_; clear hK K
        refine OW_mv rfl ?_
        (first | refine OW_split (d := 20) rfl (fun g20 => ?_) (fun g20 => ?_) | skip)
        all_goals try (exfalso; exact cnA g20)
        all_goals (try simp only [decide_eq_true_eq, decide_eq_false_iff_not, Bool.not_eq_true, Bool.not_eq_false, Bool.and_eq_true, Bool.or_eq_true, Bool.or_eq_false_iff, Bool.not_eq_true, Bool.not_eq_eq_eq_not, Bool.not_true, Bool.not_false] at g20)
        all_goals
          try simp only [eX, ↓reduceIte, Nat.reduceEqDiff, Int.reduceToNat]
          first
          | refine OW_guardT rfl (lt_some (by decide)) rfl (fun K hK r => ?_)
            simp only [x_fieldAddr, fa48_6, add_mk, Nat.reduceAdd, Nat.zero_add, eX, ↓reduceIte, Nat.reduceEqDiff, Int.reduceToNat]
            refine hK _ _ ?_; clear hK K
          | refine OW_guardF rfl (lt_some (by decide)) rfl ?_
            simp only [eX, ↓reduceIte, Nat.reduceEqDiff, Int.reduceToNat]
          first
          | refine OW_guardT rfl (lt_some (by decide)) rfl (fun K hK r => ?_)
            simp only [x_load, eX, ↓reduceIte, Nat.reduceEqDiff, Int.reduceToNat]
            refine Lt_loadAt1 Try.underlying46 rfl hbA (Op6.keep' _) ?_
            refine hK _ _ ?_; clear hK K
          | refine OW_guardF rfl (lt_some (by decide)) rfl ?_
            simp only [eX, ↓reduceIte, Nat.reduceEqDiff, Int.reduceToNat]
          first
          | refine OW_guardT rfl (lt_some (by decide)) rfl (fun K hK r => ?_)
            simp only [x_builtin, l_len, List.map_toArray, List.map_cons, List.map_nil, i_len_slice _ _ Try.underlying46, eX, ↓reduceIte, Nat.reduceEqDiff, Int.reduceToNat]
            refine hK _ _ ?_; clear hK K
          | refine OW_guardF rfl (lt_some (by decide)) rfl ?_
            simp only [eX, ↓reduceIte, Nat.reduceEqDiff, Int.reduceToNat]
          first
          | refine OW_guardT rfl (lt_some (by decide)) rfl (fun K hK r => ?_)
            simp (disch := (first | omega | decide)) only [x_bin, g_int, b_gtr, dec_lt_t, dec_lt_f, dec_le_t, dec_le_f, dec_eq_t, dec_eq_f, Bool.not_true, Bool.not_false, eX, ↓reduceIte, Nat.reduceEqDiff, Int.reduceToNat]
            refine hK _ _ ?_; clear hK K
          | refine OW_guardF rfl (lt_some (by decide)) rfl ?_
            simp only [eX, ↓reduceIte, Nat.reduceEqDiff, Int.reduceToNat]
          refine OW_opS (fun K hK r => ?_)
          simp only [x_pick, l_asBool, HL.ite_bool, if_true, if_false, Bool.false_eq_true, eX, ↓reduceIte, Nat.reduceEqDiff, Int.reduceToNat]
          refine hK _ _ ?_; clear hK K
          refine OW_nil ?_
          try simp only [Ex.thnH, Ex.inBlockH, ↓reduceIte, Nat.reduceEqDiff]
          refine hK8 _ _ ?_; try clear hK8 K8
          refine CW_cond (fun r => rfl) (fun c25 => ?_) (fun c25 => ?_)
          · first
            | (exfalso; exact cnA c25; done)
            | skip
              (try simp only [decide_eq_true_eq, decide_eq_false_iff_not, Bool.not_eq_true, Bool.not_eq_false, Bool.and_eq_true, Bool.or_eq_true, Bool.or_eq_false_iff, Bool.not_eq_true, Bool.not_eq_eq_eq_not, Bool.not_true, Bool.not_false] at c25)
              refine CW_seq (fun K9 hK9 => ?_)
              refine CW_region ?_
              refine OW_as rfl ?_
              refine OW_nil ?_
              try simp only [Ex.thnH, Ex.inBlockH, ↓reduceIte, Nat.reduceEqDiff]
              refine hK9 _ _ ?_; try clear hK9 K9
              refine CW_ret ?_
              try simp only [Ex.thnH, Ex.inBlockH, ↓reduceIte, Nat.reduceEqDiff]
              exact ⟨[_], ⟨rfl, trivial⟩, H, lhA, true, rfl, (fun h => by cases h), rfl⟩
          · first
            | (exfalso; exact cnA c25; done)
            | skip
              (try simp only [decide_eq_true_eq, decide_eq_false_iff_not, Bool.not_eq_true, Bool.not_eq_false, Bool.and_eq_true, Bool.or_eq_true, Bool.or_eq_false_iff, Bool.not_eq_true, Bool.not_eq_eq_eq_not, Bool.not_true, Bool.not_false] at c25)
              refine CW_skip ?_
              try simp only [Ex.thnH, Ex.inBlockH, ↓reduceIte, Nat.reduceEqDiff]
              refine hK6 _ _ ?_; try clear hK6 K6
              refine CW_region ?_
              refine OW_opS (fun K hK r => ?_)
              simp (disch := (first | omega | decide)) only [x_bin, g_int, b_add, wrap_i64, wrap_u64, wrap_u32, wrap_u8, eX, ↓reduceIte, Nat.reduceEqDiff, Int.reduceToNat]
              refine hK _ _ ?_; clear hK K
              refine OW_mv rfl ?_
              refine OW_nil ?_
              try simp only [Ex.thnH, Ex.inBlockH, ↓reduceIte, Nat.reduceEqDiff]
              refine ⟨41 - (k + 1), by omega, k + 1, by omega, by omega, rfl, (fun j hj => ?_), lhA, rfl, rfl, rfl, trivial⟩
              by_cases e : j = k
              · subst e; omega
              · exact hno j (by omega)
  · first
    | (exfalso; exact cnA c8; done)
    | skip
      (try simp only [decide_eq_true_eq, decide_eq_false_iff_not, Bool.not_eq_true, Bool.not_eq_false, Bool.and_eq_true, Bool.or_eq_true, Bool.or_eq_false_iff, Bool.not_eq_true, Bool.not_eq_eq_eq_not, Bool.not_true, Bool.not_false] at c8)
      have hkn : k = l.length := by omega
      refine CW_exit ?_
      try simp only [Ex.thnH, Ex.inBlockH, ↓reduceIte, Nat.reduceEqDiff]
      refine hK2 _ _ ?_; try clear hK2 K2
      refine CW_seq (fun K10 hK10 => ?_)
      refine CW_region ?_
      refine OW_as rfl ?_
      refine OW_nil ?_
      try simp only [Ex.thnH, Ex.inBlockH, ↓reduceIte, Nat.reduceEqDiff]
      refine hK10 _ _ ?_; try clear hK10 K10
      refine CW_ret ?_
      try simp only [Ex.thnH, Ex.inBlockH, ↓reduceIte, Nat.reduceEqDiff]
      subst hkn
      exact ⟨[_], ⟨rfl, trivial⟩, H, lhA, false, rfl, (fun _ => ⟨hk81, hno⟩), rfl⟩

end Go.Proofs.Ytcjdkfhmlnfedaa.HL
end
