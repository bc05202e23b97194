/- Parts of the proof, one behind the other: P20, Q54, Q55, Q56, MdPr6, P22, P23, P24, P26, P25, P14, P15, P30, P40, P27, P29. -/
import Derived.Test.YtlkopcgoaldpeaaX3
set_option linter.unusedSimpArgs false
set_option linter.unusedVariables false
section
namespace Go.Proofs.Ytlkopcgoaldpeaa.HL
open Go Go.Proofs
set_option linter.unusedSimpArgs false
set_option linter.unusedVariables false
attribute [local irreducible] Lt Lq CW OW TW CallH

set_option maxRecDepth 100000 in
set_option maxHeartbeats 4000000 in
theorem alive6_ok (H : Hp) : CallH Try.prog 7 #[] H (fun v H' => v = .bool true ∧ Le H H') := by
  refine CallH_enter (l := []) (rl := [.tmp 0]) (n := 22) Try.func7 rfl rfl rfl rfl rfl ?_
  simp only [envOf, Nat.reduceAdd]
  refine CW_seq (fun K1 hK1 => ?_)
  refine CW_region ?_
  refine OW_as rfl ?_
  refine OW_nil ?_
  try simp only [Ex.thnH, Ex.inBlockH, ↓reduceIte, Nat.reduceEqDiff]
  refine hK1 _ _ ?_; try clear hK1 K1
  refine CW_seq (fun K2 hK2 => ?_)
  refine CW_region ?_
  refine OW_opS (fun K hK r => ?_)
  simp only [x_build, bp47, List.map_toArray, List.map_cons, List.map_nil, eX, ↓reduceIte, Nat.reduceEqDiff, Int.reduceToNat]
  rw [fill_one rfl clA bdA]
  rw [fill_one rfl clA bdA]
  simp only [fill_nil, orF_some, List.setIfInBounds_toArray, List.set_cons_zero, List.set_cons_succ]
  try simp only [eX, ↓reduceIte, Nat.reduceEqDiff, Int.reduceToNat]
  refine hK _ _ ?_; clear hK K
  refine OW_opS (fun K hK r => ?_)
  simp only [x_buildSlice, List.map_toArray, List.map_cons, List.map_nil, eX, ↓reduceIte, Nat.reduceEqDiff, Int.reduceToNat]
  refine Lt_buildSlice (vs := [_]) Try.underlying22 sz47 zr47 rfl bsA (by first | decide | (simp; done)) ?_
  simp only [List.flatMap_cons, List.flatMap_nil, Value.cells, List.append_nil, List.cons_append, List.nil_append, List.length_cons, List.length_nil, Nat.zero_add, Nat.reduceAdd]
  intro b5 hb5
  have f5_H : H b5 = none := none_of_le lhA hb5
  try simp only [eX, ↓reduceIte, Nat.reduceEqDiff, Int.reduceToNat]
  refine hK _ _ ?_; clear hK K
  refine OW_opS (fun K hK r => ?_)
  simp only [x_build, bp24, List.map_toArray, List.map_cons, List.map_nil, eX, ↓reduceIte, Nat.reduceEqDiff, Int.reduceToNat]
  rw [fill_one rfl clA bdA]
  rw [fill_one rfl clA bdA]
  simp only [fill_nil, orF_some, List.setIfInBounds_toArray, List.set_cons_zero, List.set_cons_succ]
  try simp only [eX, ↓reduceIte, Nat.reduceEqDiff, Int.reduceToNat]
  refine hK _ _ ?_; clear hK K
  refine OW_opS (fun K hK r => ?_)
  simp only [x_callF _ bd14, List.map_toArray, List.map_cons, List.map_nil, eX, ↓reduceIte, Nat.reduceEqDiff, Int.reduceToNat]
  refine (encode_ok _ 5 _ [exC] ⟨rfl, .inr ⟨b5, 0, 1, _, _, _, rfl, hbA, by simp, by simp⟩⟩ (by decide) ex_ok).mono ?_
  rintro v7 H7 ⟨vb7, o7, rfl, hl7, ho7, hq7, rs7, hw7, hr7⟩
  obtain rfl := ho7.2 ex_check
  rw [show encB 5 [exC] = [5, 1, 15, 1] from by unfold encB; rw [if_pos ex_check, ex_bytes]] at hw7
  have hx7 : Holds H7 1 vb7 4 (u8s [5, 1, 15, 1]) := hw7.holds
  obtain ⟨a7, c7, rfl⟩ := hx7.form
  have lH7_H : Le H H7 := Le.trans lhA hl7
  try simp only [eX, ↓reduceIte, Nat.reduceEqDiff, Int.reduceToNat]
  refine hK _ _ ?_; clear hK K
  refine OW_mv rfl ?_
  refine OW_opS (fun K hK r => ?_)
  simp only [x_extract, i_extract, List.getElem?_toArray, List.getElem?_cons_zero, List.getElem?_cons_succ, orF_some, eX, ↓reduceIte, Nat.reduceEqDiff, Int.reduceToNat]
  refine hK _ _ ?_; clear hK K
  refine OW_opS (fun K hK r => ?_)
  simp only [x_extract, i_extract, List.getElem?_toArray, List.getElem?_cons_zero, List.getElem?_cons_succ, orF_some, eX, ↓reduceIte, Nat.reduceEqDiff, Int.reduceToNat]
  refine hK _ _ ?_; clear hK K
  refine OW_as rfl ?_
  refine OW_as rfl ?_
  refine OW_nil ?_
  try simp only [Ex.thnH, Ex.inBlockH, ↓reduceIte, Nat.reduceEqDiff]
  refine hK2 _ _ ?_; try clear hK2 K2
  refine CW_seq (fun K3 hK3 => ?_)
  refine CW_region ?_
  refine OW_mv rfl ?_
  refine OW_opS (fun K hK r => ?_)
  simp only [x_bin, g_int, g_bool, g_string, g_pointer, g_slice, g_map, g_func, g_nilFunc, g_err, g_ifv, g_iface, g_nil_iface, g_nil_r, g_nil_l, eX, ↓reduceIte, Nat.reduceEqDiff, Int.reduceToNat]
  first | rw [b_err_eql _ _ Try.underlying35] | rw [b_ifv_eql _ _ Try.underlying35] | (rw [e_eql _ _ _ _ (by simp), q_equal]; first | rw [q_iface_nil _ _ _ Try.underlying35] | rw [q_nil_iface _ _ _ Try.underlying35] | rw [q_nil_nil _ _ _ Try.underlying35])
  try simp only [eX, ↓reduceIte, Nat.reduceEqDiff, Int.reduceToNat]
  refine hK _ _ ?_; clear hK K
  refine OW_mv rfl ?_
  (first | refine OW_split (d := 12) rfl (fun g12 => ?_) (fun g12 => ?_) | skip)
  all_goals try (exfalso; exact cnA g12)
  all_goals (try simp only [decide_eq_true_eq, decide_eq_false_iff_not, Bool.not_eq_true, Bool.not_eq_false, Bool.and_eq_true, Bool.or_eq_true, Bool.or_eq_false_iff, Bool.not_eq_true, Bool.not_eq_eq_eq_not, Bool.not_true, Bool.not_false] at g12)
  all_goals
    try simp only [eX, ↓reduceIte, Nat.reduceEqDiff, Int.reduceToNat]
    first
    | refine OW_guardT rfl (lt_some (by decide)) rfl (fun K hK r => ?_)
      simp only [x_move, eX, ↓reduceIte, Nat.reduceEqDiff, Int.reduceToNat]
      refine hK _ _ ?_; clear hK K
    | refine OW_guardF rfl (lt_some (by decide)) rfl ?_
      simp only [eX, ↓reduceIte, Nat.reduceEqDiff, Int.reduceToNat]
    first
    | refine OW_guardT rfl (lt_some (by decide)) rfl (fun K hK r => ?_)
      simp only [x_convert, eX, ↓reduceIte, Nat.reduceEqDiff, Int.reduceToNat]
      refine Lt_convBS Try.underlying33 Try.underlying5 Try.underlying9 (l := [5, 1, 15, 1]) hx7 ?_
      refine hK _ _ ?_; clear hK K
    | refine OW_guardF rfl (lt_some (by decide)) rfl ?_
      simp only [eX, ↓reduceIte, Nat.reduceEqDiff, Int.reduceToNat]
    first
    | refine OW_guardT rfl (lt_some (by decide)) rfl (fun K hK r => ?_)
      simp only [x_bin, g_string, b_seql, eX, ↓reduceIte, Nat.reduceEqDiff, Int.reduceToNat]
      rw [show ((strOf [5, 1, 15, 1]).toList == (⟨#[5, 1, 15, 1]⟩ : ByteArray).toList) = true from strOf_beq (a := [5, 1, 15, 1]) (b := [5, 1, 15, 1]) (by intro x hx; simp at hx; omega) (by intro x hx; simp at hx; omega)]
      refine hK _ _ ?_; clear hK K
    | refine OW_guardF rfl (lt_some (by decide)) rfl ?_
      simp only [eX, ↓reduceIte, Nat.reduceEqDiff, Int.reduceToNat]
    refine OW_opS (fun K hK r => ?_)
    simp only [x_pick, l_asBool, HL.ite_bool, if_true, if_false, Bool.false_eq_true, eX, ↓reduceIte, Nat.reduceEqDiff, Int.reduceToNat]
    refine hK _ _ ?_; clear hK K
    refine OW_mv rfl ?_
    (first | refine OW_split (d := 17) rfl (fun g17 => ?_) (fun g17 => ?_) | skip)
    all_goals try (exfalso; exact cnA g17)
    all_goals (try simp only [decide_eq_true_eq, decide_eq_false_iff_not, Bool.not_eq_true, Bool.not_eq_false, Bool.and_eq_true, Bool.or_eq_true, Bool.or_eq_false_iff, Bool.not_eq_true, Bool.not_eq_eq_eq_not, Bool.not_true, Bool.not_false] at g17)
    all_goals
      try simp only [eX, ↓reduceIte, Nat.reduceEqDiff, Int.reduceToNat]
      first
      | refine OW_guardT rfl (lt_some (by decide)) rfl (fun K hK r => ?_)
        simp only [x_build, bp24, List.map_toArray, List.map_cons, List.map_nil, eX, ↓reduceIte, Nat.reduceEqDiff, Int.reduceToNat]
        simp only [fill_nil, orF_some, List.setIfInBounds_toArray, List.set_cons_zero, List.set_cons_succ]
        try simp only [eX, ↓reduceIte, Nat.reduceEqDiff, Int.reduceToNat]
        refine hK _ _ ?_; clear hK K
      | refine OW_guardF rfl (lt_some (by decide)) rfl ?_
        simp only [eX, ↓reduceIte, Nat.reduceEqDiff, Int.reduceToNat]
      first
      | refine OW_guardT rfl (lt_some (by decide)) rfl (fun K hK r => ?_)
        simp only [x_callF _ bd24, List.map_toArray, List.map_cons, List.map_nil, eX, ↓reduceIte, Nat.reduceEqDiff, Int.reduceToNat]
        refine (check_ok _ 0 _ [] ⟨rfl, .inl ⟨none, 0, rfl, rfl⟩⟩ (by decide)).mono ?_
        rintro v19 H19 ⟨o19, rfl, hl19, ho19, hq19⟩
        obtain ⟨b19, rfl⟩ : ∃ b, o19 = some b := by
          cases o19 with
          | none => exact absurd (ho19.1 rfl) (by decide)
          | some b => exact ⟨b, rfl⟩
        have hf19 := (hq19 b19 rfl).2
        have lH19_H : Le H H19 := Le.trans lH7_H hl19
        try simp only [eX, ↓reduceIte, Nat.reduceEqDiff, Int.reduceToNat]
        refine hK _ _ ?_; clear hK K
      | refine OW_guardF rfl (lt_some (by decide)) rfl ?_
        simp only [eX, ↓reduceIte, Nat.reduceEqDiff, Int.reduceToNat]
      first
      | refine OW_guardT rfl (lt_some (by decide)) rfl (fun K hK r => ?_)
        simp only [x_callF _ bd16, List.map_toArray, List.map_cons, List.map_nil, eX, ↓reduceIte, Nat.reduceEqDiff, Int.reduceToNat]
        refine (num_Is_flt _ b19 _ hf19 5).mono ?_
        rintro v H' ⟨rfl, rfl⟩
        try simp only [eX, ↓reduceIte, Nat.reduceEqDiff, Int.reduceToNat]
        refine hK _ _ ?_; clear hK K
      | refine OW_guardF rfl (lt_some (by decide)) rfl ?_
        simp only [eX, ↓reduceIte, Nat.reduceEqDiff, Int.reduceToNat]
      refine OW_opS (fun K hK r => ?_)
      simp only [x_pick, l_asBool, HL.ite_bool, if_true, if_false, Bool.false_eq_true, eX, ↓reduceIte, Nat.reduceEqDiff, Int.reduceToNat]
      refine hK _ _ ?_; clear hK K
      refine OW_as rfl ?_
      refine OW_nil ?_
      try simp only [Ex.thnH, Ex.inBlockH, ↓reduceIte, Nat.reduceEqDiff]
      refine hK3 _ _ ?_; try clear hK3 K3
      refine CW_ret ?_
      try simp only [Ex.thnH, Ex.inBlockH, ↓reduceIte, Nat.reduceEqDiff]
      exact ⟨[_], ⟨rfl, trivial⟩, _, Le.refl _, rfl, lhA⟩

end Go.Proofs.Ytlkopcgoaldpeaa.HL
end
section
namespace Go.Proofs.Ytlkopcgoaldpeaa.HL
open Go Go.Proofs
set_option linter.unusedSimpArgs false
set_option linter.unusedVariables false
attribute [local irreducible] Lt Lq CW OW TW CallH


def KeepBut (H : Hp) (p : Nat) (H' : Hp) : Prop := ∀ b o, H b = some o → b ≠ p → H' b = some o
theorem KeepBut.refl (H : Hp) (p : Nat) : KeepBut H p H := fun _ _ h _ => h
theorem KeepBut.trans {H H1 H2 : Hp} {p : Nat} (h : KeepBut H p H1) (k : KeepBut H1 p H2) : KeepBut H p H2 := fun b o hb hn => k b o (h b o hb hn) hn
theorem KeepBut.upd (H : Hp) (p : Nat) (o : Obj) : KeepBut H p (H.upd p o) := fun b o' hb hn => by rw [upd_ne _ _ hn]; exact hb
theorem KeepBut.of_le {H H' : Hp} (p : Nat) (h : Le H H') : KeepBut H p H' := fun b o hb _ => h b o hb
theorem KeepBut.le {H0 H H' : Hp} {p : Nat} (h : KeepBut H p H') (hl : Le H0 H) (hp : H0 p = none) : Le H0 H' := fun b o hb => h b o (hl b o hb) (fun e => by rw [e, hp] at hb; cases hb)
/-- The document's reader at p: what it has not read, whether it is bad. -/
def RM (H0 H : Hp) (p : Nat) (l : List Int) (bad : Bool) : Prop := ∃ a cap, H p = some (.cells #[.slice a l.length cap, .bool bad] 83) ∧ l.length ≤ cap ∧ Holds H0 1 (.slice a l.length cap) l.length (u8s l) ∧ (bad = true → l = [])
theorem RM.bad (H0 H : Hp) (p : Nat) : RM H0 (H.upd p (.cells #[.slice none 0 0, .bool true] 83)) p [] true := ⟨none, 0, upd_same _ _ _, Nat.le_refl _, ⟨rfl, .inl ⟨_, _, rfl, rfl⟩⟩, fun _ => rfl⟩
theorem RM.of {H0 H : Hp} {p : Nat} {a : Option Addr} {n cap : Nat} {l' : List Int} (hu : H p = some (.cells #[.slice a n cap, .bool false] 83)) (hn : n = l'.length) (hc : n ≤ cap) (hh : Holds H0 1 (.slice a n cap) n (u8s l')) : RM H0 H p l' false := by
  subst hn; exact ⟨a, cap, hu, hc, hh, fun h => by cases h⟩
theorem RM.keep {H0 H H' : Hp} {p : Nat} {l : List Int} {bad : Bool} (h : RM H0 H p l bad) (k : ∀ o, H p = some o → H' p = some o) : RM H0 H' p l bad := by
  obtain ⟨a, cap, h1, h2⟩ := h; exact ⟨a, cap, k _ h1, h2⟩

end Go.Proofs.Ytlkopcgoaldpeaa.HL
end
section
namespace Go.Proofs.Ytlkopcgoaldpeaa.HL
open Go Go.Proofs
set_option linter.unusedSimpArgs false
set_option linter.unusedVariables false
attribute [local irreducible] Lt Lq CW OW TW CallH


/-- a byte: what is read, what is left, whether it is bad then -/
def byV (l : List Int) : Int := l.getD 0 0
def byL (l : List Int) : List Int := l.drop 1
def byB (l : List Int) : Bool := decide (l = [])
/-- a flag -/
def flV (l : List Int) : Bool := decide (l.getD 0 0 = 1)
def flL (l : List Int) : List Int := if l.getD 0 0 > 1 then [] else l.drop 1
def flB (l : List Int) : Bool := decide (l = []) || decide (l.getD 0 0 > 1)
/-- bytes, behind a count -/
def bsV (r : Option (Nat × List Int)) : List Int := match r with | some (u, l) => if u ≤ l.length then l.take u else [] | none => []
def bsL (r : Option (Nat × List Int)) : List Int := match r with | some (u, l) => if u ≤ l.length then l.drop u else [] | none => []
def bsB (r : Option (Nat × List Int)) : Bool := match r with | some (u, l) => !decide (u ≤ l.length) | none => true

end Go.Proofs.Ytlkopcgoaldpeaa.HL
end
section
namespace Go.Proofs.Ytlkopcgoaldpeaa.HL
open Go Go.Proofs
set_option linter.unusedSimpArgs false
set_option linter.unusedVariables false
attribute [local irreducible] Lt Lq CW OW TW CallH


theorem rcN_some (u : Nat) (l : List Int) : rcN (some (u, l)) = u := rfl
theorem rcL_some (u : Nat) (l : List Int) : rcL (some (u, l)) = l := rfl
theorem RCb.uniq {bad : Bool} {l : List Int} {a b : Option (Nat × List Int)} (h : RCb bad l a) (k : RCb bad l b) : a = b := by
  cases bad with
  | true => rw [h.1 rfl, k.1 rfl]
  | false => exact (h.2 rfl).uniq (k.2 rfl)
theorem RCb.part {bad : Bool} {l : List Int} {r : Option (Nat × List Int)} (h : RCb bad l r) : ∃ n, rcL r = l.drop n := by
  cases r with
  | none => exact ⟨l.length, by rw [List.drop_eq_nil_of_le (Nat.le_refl _)]; rfl⟩
  | some x =>
    cases bad with
    | true => have := h.1 rfl; cases this
    | false =>
      have e := (h.2 rfl).1
      exact ⟨(cnt x.1).length, by rw [e, List.drop_left]; rfl⟩
theorem take_gen (H : Hp) (p : Nat) (a : Option Addr) (cap : Nat) (l : List Int) (bad : Bool) (hr : RD H p a cap l bad) (n : Nat) (hl : l.length ≤ 10000000) : CallH Try.prog 60 #[.pointer (some ⟨p, 0, none⟩), .int .u64 n] H (fun v H' => ∃ w ok, v = .tuple #[w, .bool ok] ∧ (ok = false → (bad = true ∨ l.length < n) ∧ w = .slice none 0 0 ∧ (∃ o, H' = H.upd p o) ∧ ∃ a1 c1, RD H' p a1 c1 [] true ∧ SameB a a1) ∧ (ok = true → bad = false ∧ n ≤ l.length ∧ ∃ a0 a1, w = .slice a0 n n ∧ H' = rst H p a1 (l.length - n) (cap - n) false ∧ RD H' p a1 (cap - n) (l.drop n) false ∧ Holds H' 1 (.slice a0 n n) n (u8s (l.take n)) ∧ (∀ B o, a = some ⟨B, o, none⟩ → a0 = some ⟨B, o, none⟩ ∧ (n < l.length → a1 = some ⟨B, o + n, none⟩)) ∧ SameB a a1)) := by
  cases bad with
  | true =>
    obtain rfl := hr.nil
    refine (take_bad H p a cap [] hr n).mono ?_
    rintro v H' ⟨rfl, rfl⟩
    exact ⟨_, false, rfl, (fun _ => ⟨.inl rfl, rfl, ⟨_, (upd_id hr.1).symm⟩, a, cap, hr, SameB.refl _⟩), (fun h => by cases h)⟩
  | false =>
    refine (take_all H p a cap l hr n hl).mono ?_
    rintro v H' ⟨w, ok, rfl, h1, h2⟩
    refine ⟨w, ok, rfl, fun h => ?_, fun h => ⟨rfl, h2 h⟩⟩
    obtain ⟨h3, rfl, rfl⟩ := h1 h
    exact ⟨.inr h3, rfl, ⟨_, rfl⟩, none, 0, RD.bad _ _, SameB.none _⟩

set_option maxRecDepth 100000 in
set_option maxHeartbeats 1000000 in
theorem rByte_ok (H : Hp) (p : Nat) (a : Option Addr) (cap : Nat) (l : List Int) (bad : Bool) (hr : RD H p a cap l bad) (hB : ByteL l) (hl : l.length ≤ 10000000) : CallH Try.prog 54 #[.pointer (some ⟨p, 0, none⟩)] H (fun v H' => v = .int .u8 (byV l) ∧ (∃ o, H' = H.upd p o) ∧ ∃ a' cap', RD H' p a' cap' (byL l) (byB l) ∧ SameB a a') := by
  refine CallH_enter (l := [_]) (rl := [.tmp 2]) (n := 15) Try.func54 rfl rfl rfl rfl rfl ?_
  simp only [envOf, Nat.reduceAdd]
  refine CW_seq (fun K1 hK1 => ?_)
  refine CW_region ?_
  refine OW_as rfl ?_
  refine OW_nil ?_
  try simp only [Ex.thnH, Ex.inBlockH, ↓reduceIte, Nat.reduceEqDiff]
  refine hK1 _ _ ?_; try clear hK1 K1
  refine CW_seq (fun K2 hK2 => ?_)
  refine CW_region ?_
  refine OW_mv rfl ?_
  refine OW_opS (fun K hK r => ?_)
  simp only [x_callF _ bd60, List.map_toArray, List.map_cons, List.map_nil, eX, ↓reduceIte, Nat.reduceEqDiff, Int.reduceToNat]
  refine (take_gen _ p a cap l bad hr 1 hl).mono ?_
  rintro v7 H7 ⟨w7, ok, rfl, hno, hyes⟩
  try simp only [eX, ↓reduceIte, Nat.reduceEqDiff, Int.reduceToNat]
  refine hK _ _ ?_; clear hK K
  refine OW_mv rfl ?_
  refine OW_opS (fun K hK r => ?_)
  simp only [x_extract, i_extract, List.getElem?_toArray, List.getElem?_cons_zero, List.getElem?_cons_succ, orF_some, eX, ↓reduceIte, Nat.reduceEqDiff, Int.reduceToNat]
  refine hK _ _ ?_; clear hK K
  refine OW_opS (fun K hK r => ?_)
  simp only [x_extract, i_extract, List.getElem?_toArray, List.getElem?_cons_zero, List.getElem?_cons_succ, orF_some, eX, ↓reduceIte, Nat.reduceEqDiff, Int.reduceToNat]
  refine hK _ _ ?_; clear hK K
  refine OW_as rfl ?_
  refine OW_as rfl ?_
  refine OW_nil ?_
  try simp only [Ex.thnH, Ex.inBlockH, ↓reduceIte, Nat.reduceEqDiff]
  refine hK2 _ _ ?_; try clear hK2 K2
  refine CW_seq (fun K3 hK3 => ?_)
  refine CW_seq (fun K4 hK4 => ?_)
  refine CW_region ?_
  refine OW_mv rfl ?_
  refine OW_opS (fun K hK r => ?_)
  simp only [x_un, u_not, eX, ↓reduceIte, Nat.reduceEqDiff, Int.reduceToNat]
  refine hK _ _ ?_; clear hK K
  refine OW_nil ?_
  try simp only [Ex.thnH, Ex.inBlockH, ↓reduceIte, Nat.reduceEqDiff]
  refine hK4 _ _ ?_; try clear hK4 K4
  refine CW_cond (fun r => rfl) (fun c11 => ?_) (fun c11 => ?_)
  · first
    | (exfalso; exact cnA c11; done)
    | skip
      (try simp only [decide_eq_true_eq, decide_eq_false_iff_not, Bool.not_eq_true, Bool.not_eq_false, Bool.and_eq_true, Bool.or_eq_true, Bool.or_eq_false_iff, Bool.not_eq_true, Bool.not_eq_eq_eq_not, Bool.not_true, Bool.not_false] at c11)
      obtain ⟨hfew, rfl, hu7, a1, c1, hr7, hs7⟩ := hno (by first | assumption | simp_all)
      have hl0 : l = [] := by
        rcases hfew with h | h
        · exact hr.2.2.2 h
        · exact List.eq_nil_of_length_eq_zero (by omega)
      subst hl0
      refine CW_seq (fun K5 hK5 => ?_)
      refine CW_region ?_
      refine OW_as rfl ?_
      refine OW_nil ?_
      try simp only [Ex.thnH, Ex.inBlockH, ↓reduceIte, Nat.reduceEqDiff]
      refine hK5 _ _ ?_; try clear hK5 K5
      refine CW_ret ?_
      try simp only [Ex.thnH, Ex.inBlockH, ↓reduceIte, Nat.reduceEqDiff]
      exact ⟨[_], ⟨rfl, trivial⟩, _, Le.refl _, rfl, hu7, a1, c1, hr7, hs7⟩
  · first
    | (exfalso; exact cnA c11; done)
    | skip
      (try simp only [decide_eq_true_eq, decide_eq_false_iff_not, Bool.not_eq_true, Bool.not_eq_false, Bool.and_eq_true, Bool.or_eq_true, Bool.or_eq_false_iff, Bool.not_eq_true, Bool.not_eq_eq_eq_not, Bool.not_true, Bool.not_false] at c11)
      obtain ⟨rfl, hge, a0, a1, rfl, hH7, hr7, hx7, hpos, hs7⟩ := hyes (by first | assumption | simp_all)
      obtain ⟨c, t, rfl⟩ : ∃ c t, l = c :: t := by
        cases l with
        | nil => simp at hge
        | cons c t => exact ⟨c, t, rfl⟩
      simp only [List.drop_succ_cons, List.drop_zero, List.take_succ_cons, List.take_zero] at hr7 hx7
      obtain ⟨bI, oI, qI, TI, FI, rfl, hbI, hsI, atI⟩ := hx7.at (by omega)
      refine CW_skip ?_
      try simp only [Ex.thnH, Ex.inBlockH, ↓reduceIte, Nat.reduceEqDiff]
      refine hK3 _ _ ?_; try clear hK3 K3
      refine CW_seq (fun K6 hK6 => ?_)
      refine CW_region ?_
      refine OW_mv rfl ?_
      refine OW_opS (fun K hK r => ?_)
      simp only [x_indexAddr, eX, ↓reduceIte, Nat.reduceEqDiff, Int.reduceToNat]
      refine Lt_indexS Try.underlying33 sz5 ixA ixA ?_
      try simp only [add_mk, Nat.mul_one, Nat.zero_add, Int.reduceToNat]
      try simp only [eX, ↓reduceIte, Nat.reduceEqDiff, Int.reduceToNat]
      refine hK _ _ ?_; clear hK K
      refine OW_opS (fun K hK r => ?_)
      simp only [x_load, eX, ↓reduceIte, Nat.reduceEqDiff, Int.reduceToNat]
      refine Lt_loadAt1 Try.underlying5 rfl hbI (v := .int .u8 c) (by have := atI 0 (by simp); simpa using this) ?_
      refine hK _ _ ?_; clear hK K
      refine OW_as rfl ?_
      refine OW_nil ?_
      try simp only [Ex.thnH, Ex.inBlockH, ↓reduceIte, Nat.reduceEqDiff]
      refine hK6 _ _ ?_; try clear hK6 K6
      refine CW_ret ?_
      try simp only [Ex.thnH, Ex.inBlockH, ↓reduceIte, Nat.reduceEqDiff]
      refine ⟨[_], ⟨rfl, trivial⟩, _, Le.refl _, rfl, ⟨_, hH7⟩, a1, cap - 1, ?_, hs7⟩
      have e : byB (c :: t) = false := by simp [byB]
      rw [e]; exact hr7

end Go.Proofs.Ytlkopcgoaldpeaa.HL
end
section
namespace Go.Proofs.Ytlkopcgoaldpeaa.HL
open Go
set_option linter.unusedSimpArgs false
def Cd.part (x : Cd) (ls : List Int) : Cd := ls.foldl (fun y l => y.setf l (x.fld l)) ⟨x.op, 0, 0, 0, 0, 0⟩
theorem part_step (x : Cd) {l : List Int} {k : Nat} (h : k < l.length) : (x.part (l.take k)).setf (l.getD k 0) (x.fld (l.getD k 0)) = x.part (l.take (k + 1)) := by
  rw [take_letter h]; simp [Cd.part, List.foldl_append]
theorem goodC_spec {x : Cd} {b : Int} (h : goodC x b = true) : shp x.op ≠ [] ∧ (∀ l ∈ shp x.op, sound l (x.fld l) b = true) ∧ x.zero (shp x.op) = ⟨x.op, 0, 0, 0, 0, 0⟩ := by
  unfold goodC at h
  simp only [Bool.and_eq_true, decide_eq_true_eq, List.all_eq_true] at h
  exact ⟨h.1.1, h.1.2, h.2⟩
theorem shp_op {op : Int} (h : shp op ≠ []) : 0 ≤ op ∧ op ≤ 15 := by
  unfold shp at h
  repeat' (split at h <;> try omega)
  exact absurd rfl h
theorem part_all {x : Cd} {b : Int} (h : goodC x b = true) : x.part (shp x.op) = x := by
  obtain ⟨h1, _, h3⟩ := goodC_spec h
  obtain ⟨op, a, b, c, t, n⟩ := x
  simp only at *
  have h3' := h3
  unfold Cd.part
  unfold shp at h3 h1 ⊢
  simp only [Cd.zero] at h3
  repeat' (split at h3)
  all_goals (simp only [*, if_true, if_false, List.foldl_cons, List.foldl_nil] at *)
  all_goals (first | (simp [Cd.setf, Cd.fld] at h3 ⊢; done) | (simp [Cd.setf, Cd.fld] at h3 ⊢; simp_all; done) | skip)
  all_goals (exact absurd rfl h1)
theorem setf_ok {y : Cd} (h : y.ok) (l : Int) {v : Int} (h1 : -9223372036854775808 ≤ v) (h2 : v ≤ 9223372036854775807) : (y.setf l v).ok := by
  unfold Cd.setf
  repeat' split
  all_goals (constructor <;> first | exact h.op1 | exact h.op2 | exact h.a1 | exact h.a2 | exact h.b1 | exact h.b2 | exact h.c1 | exact h.c2 | exact h.t1 | exact h.t2 | exact h.n1 | exact h.n2 | exact h1 | exact h2)
theorem sound_rng {l n b : Int} (h : sound l n b = true) (hb : b ≤ 1000) (hl : l ≠ 110) (hm : ∃ op, l ∈ shp op) : 0 ≤ n ∧ n ≤ 1000 := by
  have hl2 : l = 97 ∨ l = 98 ∨ l = 99 ∨ l = 116 ∨ l = 107 ∨ l = 115 ∨ l = 106 := by
    obtain ⟨op, hm⟩ := hm
    unfold shp at hm
    repeat' (split at hm)
    all_goals (simp at hm; try omega)
  unfold sound at h
  repeat' (split at h)
  all_goals (first | (simp at h; omega) | omega)
theorem fld_good {x : Cd} {b : Int} (h : goodC x b = true) (hb : b ≤ 1000) {l : Int} (hl : l ∈ shp x.op) (hn : l ≠ 110) : 0 ≤ x.fld l ∧ x.fld l ≤ 1000 :=
  sound_rng ((goodC_spec h).2.1 l hl) hb hn ⟨_, hl⟩
theorem encF_good {x : Cd} {b : Int} (h : goodC x b = true) (hb : b ≤ 1000) {l : Int} (hl : l ∈ shp x.op) (hn : l ≠ 110) : encF x l = cnt (x.fld l).toNat := by
  have := fld_good h hb hl hn
  rw [encF_o hn, wrap_u64 _ (by omega) (by omega)]
theorem flat_head {α β : Type} (f : α → List β) (l : List α) (k : Nat) (d : α) (h : k < l.length) : (l.drop k).flatMap f = f (l.getD k d) ++ (l.drop (k + 1)).flatMap f := by
  rw [List.drop_eq_getElem_cons h, List.flatMap_cons]
  simp [List.getD_eq_getElem?_getD, List.getElem?_eq_getElem h]
theorem badAt_all (cs : List Cd) : ∀ k : Nat, k ≤ cs.length → badAt cs k = -2 → ∀ j, j < k → goodC (cs.getD (cs.length - (j + 1)) default) j = true
  | 0, _, _, j, hj => by omega
  | k + 1, h, hb, j, hj => by
    rw [badAt] at hb
    split at hb
    · rcases Nat.lt_succ_iff_lt_or_eq.1 hj with h' | rfl
      · exact badAt_all cs k (by omega) hb j h'
      · assumption
    · omega
def GoodP (f : Int) (cs : List Cd) : Prop := checkP f cs = -2
theorem GoodP.spec {f : Int} {cs : List Cd} (h : GoodP f cs) : 1 ≤ f ∧ f ≤ 1000 ∧ 1 ≤ cs.length ∧ cs.length ≤ 32 := by
  unfold GoodP checkP at h
  split at h
  · assumption
  · omega
theorem GoodP.at {f : Int} {cs : List Cd} (h : GoodP f cs) {k : Nat} (hk : k < cs.length) : ∃ b : Int, b ≤ 1000 ∧ goodC (cs.getD k default) b = true := by
  have hs := h.spec
  have h' := h
  unfold GoodP checkP at h'
  rw [if_pos hs] at h'
  have := badAt_all cs cs.length (Nat.le_refl _) h' (cs.length - (k + 1)) (by omega)
  rw [show cs.length - (cs.length - (k + 1) + 1) = k from by omega] at this
  exact ⟨_, by omega, this⟩
theorem GoodP.op {f : Int} {cs : List Cd} (h : GoodP f cs) {k : Nat} (hk : k < cs.length) : 0 ≤ (cs.getD k default).op ∧ (cs.getD k default).op ≤ 15 := by
  obtain ⟨b, _, hg⟩ := h.at hk
  exact shp_op (goodC_spec hg).1
/-- a field of a program's instruction: as it is read -/
theorem encF_pref {x y : Cd} {b b' : Int} (hx : goodC x b = true) (hy : goodC y b' = true) (hb : b ≤ 1000) (hb' : b' ≤ 1000) {l : Int} (hl : l ∈ shp x.op) (hl' : l ∈ shp y.op) {r s : List Int}
    (h : encF x l ++ r = encF y l ++ s) : x.fld l = y.fld l ∧ r = s := by
  by_cases hn : l = 110
  · subst hn
    rw [encF_n rfl, encF_n rfl] at h
    obtain ⟨h1, h2⟩ := cnt_pref h
    exact ⟨zig_inj h1, h2⟩
  · rw [encF_good hx hb hl hn, encF_good hy hb' hl' hn] at h
    obtain ⟨h1, h2⟩ := cnt_pref h
    have := fld_good hx hb hl hn
    have := fld_good hy hb' hl' hn
    exact ⟨by omega, h2⟩
theorem flds_pref {x y : Cd} {b b' : Int} (hx : goodC x b = true) (hy : goodC y b' = true) (hb : b ≤ 1000) (hb' : b' ≤ 1000) : ∀ (ls : List Int), (∀ l ∈ ls, l ∈ shp x.op ∧ l ∈ shp y.op) → ∀ {r s : List Int},
    ls.flatMap (encF x) ++ r = ls.flatMap (encF y) ++ s → (∀ l ∈ ls, x.fld l = y.fld l) ∧ r = s
  | [], _, _, _, h => ⟨fun _ h => by simp at h, by simpa using h⟩
  | l :: ls, hm, r, s, h => by
    rw [List.flatMap_cons, List.flatMap_cons, List.append_assoc, List.append_assoc] at h
    obtain ⟨h1, h2⟩ := encF_pref hx hy hb hb' (hm l (by simp)).1 (hm l (by simp)).2 h
    obtain ⟨h3, h4⟩ := flds_pref hx hy hb hb' ls (fun l hl => hm l (by simp [hl])) h2
    refine ⟨fun l' hl => ?_, h4⟩
    rcases List.mem_cons.1 hl with rfl | hl
    · exact h1
    · exact h3 _ hl
theorem part_eq {x y : Cd} (ho : x.op = y.op) : ∀ {ls : List Int}, (∀ l ∈ ls, x.fld l = y.fld l) → x.part ls = y.part ls := by
  intro ls h
  unfold Cd.part
  rw [ho]
  generalize (⟨y.op, 0, 0, 0, 0, 0⟩ : Cd) = z
  induction ls generalizing z with
  | nil => rfl
  | cons l ls ih => rw [List.foldl_cons, List.foldl_cons, h l (by simp)]; exact ih (fun l hl => h l (by simp [hl])) _
theorem encC_pref {x y : Cd} {b b' : Int} (hx : goodC x b = true) (hy : goodC y b' = true) (hb : b ≤ 1000) (hb' : b' ≤ 1000) {r s : List Int} (h : encC x ++ r = encC y ++ s) : x = y ∧ r = s := by
  unfold encC at h
  rw [List.cons_append, List.cons_append, List.cons.injEq] at h
  have h1 := shp_op (goodC_spec hx).1
  have h2 := shp_op (goodC_spec hy).1
  have ho : x.op = y.op := by omega
  obtain ⟨h3, h4⟩ := flds_pref hx hy hb hb' (shp x.op) (fun l hl => ⟨hl, ho ▸ hl⟩) (by rw [← ho] at h; exact h.2)
  refine ⟨?_, h4⟩
  rw [← part_all hx, ← part_all hy, ← ho]
  exact part_eq ho h3
theorem codes_pref : ∀ {cs ds : List Cd} {r s : List Int}, cs.length = ds.length → (∀ x ∈ cs, ∃ b : Int, b ≤ 1000 ∧ goodC x b = true) → (∀ x ∈ ds, ∃ b : Int, b ≤ 1000 ∧ goodC x b = true) →
    cs.flatMap encC ++ r = ds.flatMap encC ++ s → cs = ds ∧ r = s
  | [], [], _, _, _, _, _, h => ⟨rfl, by simpa using h⟩
  | [], _ :: _, _, _, h, _, _, _ => by simp at h
  | _ :: _, [], _, _, h, _, _, _ => by simp at h
  | x :: cs, y :: ds, r, s, hl, hc, hd, h => by
    rw [List.flatMap_cons, List.flatMap_cons, List.append_assoc, List.append_assoc] at h
    obtain ⟨b, hb, hx⟩ := hc x (by simp)
    obtain ⟨b', hb', hy⟩ := hd y (by simp)
    obtain ⟨h1, h2⟩ := encC_pref hx hy hb hb' h
    obtain ⟨h3, h4⟩ := codes_pref (by simpa using hl) (fun x hx => hc x (by simp [hx])) (fun x hx => hd x (by simp [hx])) h2
    exact ⟨by rw [h1, h3], h4⟩
theorem getD_of_mem {l : List Cd} {x : Cd} (h : x ∈ l) : ∃ k, k < l.length ∧ l.getD k default = x := by
  obtain ⟨k, hk, he⟩ := List.getElem_of_mem h
  exact ⟨k, hk, by simp [List.getD_eq_getElem?_getD, List.getElem?_eq_getElem hk, he]⟩
theorem GoodP.all {f : Int} {cs : List Cd} (h : GoodP f cs) : ∀ x ∈ cs, ∃ b : Int, b ≤ 1000 ∧ goodC x b = true := fun x hx => by
  obtain ⟨k, hk, rfl⟩ := getD_of_mem hx
  exact h.at hk
theorem encP_good {f : Int} {cs : List Cd} (h : GoodP f cs) : encP f cs = cnt f.toNat ++ cnt cs.length ++ cs.flatMap encC := by
  have := h.spec
  unfold encP
  rw [wrap_u64 _ (by omega) (by omega)]
theorem encP_pref {f g : Int} {cs ds : List Cd} (h : GoodP f cs) (k : GoodP g ds) {r s : List Int} (he : encP f cs ++ r = encP g ds ++ s) : f = g ∧ cs = ds ∧ r = s := by
  rw [encP_good h, encP_good k] at he
  simp only [List.append_assoc] at he
  obtain ⟨h1, h2⟩ := cnt_pref he
  obtain ⟨h3, h4⟩ := cnt_pref h2
  obtain ⟨h5, h6⟩ := codes_pref h3 h.all k.all h4
  have := h.spec; have := k.spec
  exact ⟨by omega, h5, h6⟩
theorem encP_inj {f g : Int} {cs ds : List Cd} (h : GoodP f cs) (k : GoodP g ds) (he : encP f cs = encP g ds) : f = g ∧ cs = ds := by
  obtain ⟨h1, h2, _⟩ := encP_pref h k (r := []) (s := []) (by rw [he])
  exact ⟨h1, h2⟩
theorem encP_pos {f : Int} {cs : List Cd} : 0 < (encP f cs).length := by
  unfold encP
  have := cnt_ne (IntKind.u64.wrap f).toNat
  cases hh : cnt (IntKind.u64.wrap f).toNat with
  | nil => exact absurd hh this
  | cons a l => simp
theorem encF_bytes (x : Cd) (l : Int) : ByteL (encF x l) := by
  unfold encF; split <;> exact cnt_bytes _
theorem byteL_append {a b : List Int} (h : ByteL a) (k : ByteL b) : ByteL (a ++ b) := fun x hx => by
  rcases List.mem_append.1 hx with hx | hx
  · exact h x hx
  · exact k x hx
theorem byteL_flat {α : Type} {f : α → List Int} (h : ∀ x, ByteL (f x)) (l : List α) : ByteL (l.flatMap f) := fun x hx => by
  obtain ⟨a, _, ha⟩ := List.mem_flatMap.1 hx
  exact h a x ha
theorem encC_bytes (x : Cd) : ByteL (encC x) := fun z hz => by
  unfold encC at hz
  rcases List.mem_cons.1 hz with rfl | hz
  · omega
  · exact byteL_flat (encF_bytes x) _ z hz
theorem encP_bytes (f : Int) (cs : List Cd) : ByteL (encP f cs) :=
  byteL_append (byteL_append (cnt_bytes _) (cnt_bytes _)) (byteL_flat encC_bytes _)
theorem encC_len1 (x : Cd) : 1 ≤ (encC x).length := by unfold encC; simp
/-- No beginning of a program's bytes is another one's, nor they with more behind. -/
theorem encP_cut {f g : Int} {cs ds : List Cd} (h : GoodP f cs) (k : GoodP g ds) {n : Nat} (hn : n < (encP f cs).length) (he : encP g ds = (encP f cs).take n) : False := by
  have h1 : encP f cs ++ [] = encP g ds ++ (encP f cs).drop n := by rw [he, List.take_append_drop, List.append_nil]
  obtain ⟨_, _, h2⟩ := encP_pref h k h1
  have := congrArg List.length h2
  simp at this; omega
theorem encP_more {f g : Int} {cs ds : List Cd} (h : GoodP f cs) (k : GoodP g ds) {z : Int} (he : encP g ds = encP f cs ++ [z]) : False := by
  have h1 : encP f cs ++ [z] = encP g ds ++ [] := by rw [he, List.append_nil]
  obtain ⟨_, _, h2⟩ := encP_pref h k h1
  simp at h2
end Go.Proofs.Ytlkopcgoaldpeaa.HL
end
section
namespace Go.Proofs.Ytlkopcgoaldpeaa.HL
open Go Go.Proofs
set_option linter.unusedSimpArgs false
set_option linter.unusedVariables false
attribute [local irreducible] Lt Lq CW OW TW CallH


theorem RD.le {H H' : Hp} {p : Nat} {a : Option Addr} {cap : Nat} {l : List Int} {bad : Bool} (h : RD H p a cap l bad) (k : Le H H') : RD H' p a cap l bad := ⟨k _ _ h.1, h.2.1, h.2.2.1.le k, h.2.2.2⟩
theorem cd_no {y : Cd} : ∀ (i : Nat) (z : Int), (y.cells.toArray)[i]? ≠ some (.int .u8 z)
  | 0, z => by simp
  | 1, z => by simp
  | 2, z => by simp
  | 3, z => by simp
  | 4, z => by simp
  | 5, z => by simp
  | i + 6, z => by simp
theorem RD.other {H : Hp} {p b : Nat} {a : Option Addr} {cap : Nat} {l : List Int} {bad : Bool} (h : RD H p a cap l bad) (hne : p ≠ b) {y : Cd} {T : TypeId} {f : Nat × Nat} (hb : H b = some (.cells y.cells.toArray T f)) (o : Obj) : RD (H.upd b o) p a cap l bad :=
  ⟨(upd_ne _ _ hne).trans h.1, h.2.1, h.2.2.1.upd_no hb cd_no o, h.2.2.2⟩
theorem KeepBut.put {H H1 : Hp} {p b : Nat} (h : KeepBut H p H1) (hb : H b = none) (o : Obj) : KeepBut H p (H1.upd b o) := fun x o' hx hn => by
  rw [upd_ne _ _ (by intro e; subst e; rw [hb] at hx; cases hx)]; exact h x o' hx hn
theorem KeepBut.none {H H1 : Hp} {p b : Nat} (h : KeepBut H p H1) (hb : H1 b = none) {o : Obj} (hp : H1 p = some o) : H b = none := by
  cases hc : H b with
  | none => rfl
  | some x =>
    by_cases e : b = p
    · subst e; rw [hp] at hb; cases hb
    · rw [h b x hc e] at hb; cases hb
theorem and62 {n : Nat} (h : n < 18446744073709551616) : IntKind.u64.wrap (BitVec.ofInt IntKind.u64.bits (n : Int) &&& BitVec.ofInt IntKind.u64.bits 4611686018427387903).toNat = ((n % 4611686018427387904 : Nat) : Int) := by
  have e : (BitVec.ofInt IntKind.u64.bits (n : Int) &&& BitVec.ofInt IntKind.u64.bits 4611686018427387903).toNat = n % 4611686018427387904 := by
    rw [show (IntKind.u64.bits) = 64 from rfl]
    have h1 : BitVec.ofInt 64 (n : Int) = BitVec.ofNat 64 n := by simp
    have h2 : BitVec.ofInt 64 4611686018427387903 = BitVec.ofNat 64 (2 ^ 62 - 1) := by decide
    rw [h1, h2, BitVec.toNat_and, BitVec.toNat_ofNat, BitVec.toNat_ofNat, Nat.mod_eq_of_lt (a := n) (by omega), Nat.mod_eq_of_lt (a := 2 ^ 62 - 1) (by decide), Nat.and_two_pow_sub_one_eq_mod]
  rw [e, wrap_u64 _ (by omega) (by omega)]
theorem spec_cnt6 {u : Nat} {rest : List Int} (h : u < 18446744073709551616) {res : Option (Nat × List Int)} (k : RCb false (cnt u ++ rest) res) : res = some (u, rest) := RC.uniq (k.2 rfl) (RC.cnt rest h)
theorem unzig_rng {u : Nat} (h : u < 18446744073709551616) : -9223372036854775808 ≤ unzig u ∧ unzig u ≤ 9223372036854775807 := by
  unfold unzig; split <;> omega
/-- what is read of an instruction's bytes, as far as they are a good one's -/
def PS (bad : Bool) (l : List Int) (op : Int) (j : Nat) (y : Cd) (l1 : List Int) (bad1 : Bool) : Prop := ∀ (x : Cd) (b : Int) (r : List Int), x.ok → goodC x b = true → b ≤ 1000 → bad = false → l = encC x ++ r →
  x.op = op ∧ y = x.part ((shp op).take j) ∧ l1 = ((shp op).drop j).flatMap (encF x) ++ r ∧ bad1 = false
theorem PS.start {bad : Bool} {l : List Int} : PS bad l (byV l) 0 ⟨byV l, 0, 0, 0, 0, 0⟩ (byL l) (byB l) := by
  intro x b r _ hg _ _ hl
  have ho := shp_op (goodC_spec hg).1
  subst hl
  have e : byV (encC x ++ r) = x.op := by unfold encC byV; simp; omega
  refine ⟨e.symm, ?_, ?_, ?_⟩
  · rw [e]; rfl
  · unfold encC byL
    have e' : byV ((x.op % 256 :: (shp x.op).flatMap (encF x)) ++ r) = x.op := e
    rw [e']; simp
  · unfold encC byB; simp
theorem PS.num {bad bad1 : Bool} {l l1 : List Int} {op : Int} {j : Nat} {y : Cd} (h : PS bad l op j y l1 bad1) (hj : j < (shp op).length) (he : (shp op).getD j 0 = 110) {res : Option (Nat × List Int)} (hres : RCb bad1 l1 res) :
    PS bad l op (j + 1) (y.setf 110 (unzig (rcN res))) (rcL res) res.isNone := by
  intro x b r hxo hg hb hbad hl
  obtain ⟨h1, rfl, h3, rfl⟩ := h x b r hxo hg hb hbad hl
  subst h1
  rw [flat_head _ _ j 0 hj, he, encF_n rfl, List.append_assoc] at h3
  subst h3
  obtain rfl := spec_cnt6 (zig_lt hxo.n1 hxo.n2) hres
  refine ⟨rfl, ?_, rfl, rfl⟩
  rw [rcN_some, unzig_zig, ← part_step x hj, he]; rfl
theorem PS.oth {bad bad1 : Bool} {l l1 : List Int} {op : Int} {j : Nat} {y : Cd} (h : PS bad l op j y l1 bad1) (hj : j < (shp op).length) (he : (shp op).getD j 0 ≠ 110) {res : Option (Nat × List Int)} (hres : RCb bad1 l1 res) :
    PS bad l op (j + 1) (y.setf ((shp op).getD j 0) ((rcN res % 4611686018427387904 : Nat) : Int)) (rcL res) res.isNone := by
  intro x b r hxo hg hb hbad hl
  obtain ⟨h1, rfl, h3, rfl⟩ := h x b r hxo hg hb hbad hl
  subst h1
  have hm : (shp x.op).getD j 0 ∈ shp x.op := mem_of_getD hj rfl
  have hf := fld_good hg hb hm he
  rw [flat_head _ _ j 0 hj, encF_good hg hb hm he, List.append_assoc] at h3
  subst h3
  obtain rfl := spec_cnt6 (by omega) hres
  refine ⟨rfl, ?_, rfl, rfl⟩
  rw [rcN_some, ← part_step x hj, Nat.mod_eq_of_lt (by omega), Int.toNat_of_nonneg hf.1]
theorem PS.done {bad bad1 : Bool} {l l1 : List Int} {op : Int} {j : Nat} {y : Cd} (h : PS bad l op j y l1 bad1) (hj : j = (shp op).length) :
    ∀ (x : Cd) (b : Int) (r : List Int), x.ok → goodC x b = true → b ≤ 1000 → bad = false → l = encC x ++ r → y = x ∧ l1 = r ∧ bad1 = false := by
  intro x b r hxo hg hb hbad hl
  obtain ⟨h1, rfl, h3, rfl⟩ := h x b r hxo hg hb hbad hl
  subst h1; subst hj
  rw [List.drop_length] at h3
  exact ⟨by rw [List.take_length, part_all hg], by simpa using h3, rfl⟩
theorem byV_rng {l : List Int} (h : ByteL l) : 0 ≤ byV l ∧ byV l ≤ 255 := h.at 0
theorem part_len {bad : Bool} {l : List Int} {r : Option (Nat × List Int)} (h : RCb bad l r) : (rcL r).length ≤ l.length := by
  obtain ⟨n, hn⟩ := h.part; rw [hn]; simp
theorem part_byte {bad : Bool} {l : List Int} {r : Option (Nat × List Int)} (h : RCb bad l r) (hB : ByteL l) : ByteL (rcL r) := by
  obtain ⟨n, hn⟩ := h.part; rw [hn]; exact hB.drop n

set_option maxRecDepth 100000 in
set_option maxHeartbeats 1000000 in
theorem small_ok (H : Hp) (p : Nat) (a : Option Addr) (cap : Nat) (l : List Int) (bad : Bool) (hr : RD H p a cap l bad) (hB : ByteL l) (hl : l.length ≤ 100000) : CallH Try.prog 34 #[.pointer (some ⟨p, 0, none⟩)] H (fun v H' => ∃ res, RCb bad l res ∧ v = .int .i64 ((rcN res % 4611686018427387904 : Nat) : Int) ∧ ∃ a' cap', RD H' p a' cap' (rcL res) res.isNone ∧ (∃ o, H' = H.upd p o) ∧ SameB a a') := by
  refine CallH_enter (l := [_]) (rl := [.tmp 2]) (n := 7) Try.func34 rfl rfl rfl rfl rfl ?_
  simp only [envOf, Nat.reduceAdd]
  refine CW_seq (fun K1 hK1 => ?_)
  refine CW_region ?_
  refine OW_as rfl ?_
  refine OW_nil ?_
  try simp only [Ex.thnH, Ex.inBlockH, ↓reduceIte, Nat.reduceEqDiff]
  refine hK1 _ _ ?_; try clear hK1 K1
  refine CW_seq (fun K2 hK2 => ?_)
  refine CW_region ?_
  refine OW_mv rfl ?_
  refine OW_opS (fun K hK r => ?_)
  simp only [x_callF _ bd53, List.map_toArray, List.map_cons, List.map_nil, eX, ↓reduceIte, Nat.reduceEqDiff, Int.reduceToNat]
  refine (rCount_all _ p a cap l bad hr hB (by omega)).mono ?_
  rintro v4 H4 ⟨res, hres, rfl, a4, c4, hr4, ⟨o4, rfl⟩, hs4⟩
  have hlt := hres.lt
  try simp only [eX, ↓reduceIte, Nat.reduceEqDiff, Int.reduceToNat]
  refine hK _ _ ?_; clear hK K
  refine OW_opS (fun K hK r => ?_)
  simp only [x_bin, g_int, b_and, eX, ↓reduceIte, Nat.reduceEqDiff, Int.reduceToNat]
  rw [and62 hlt]
  refine hK _ _ ?_; clear hK K
  refine OW_opS (fun K hK r => ?_)
  simp (disch := (first | omega | decide)) only [x_convert, c_int _ _ _ _ Try.underlying60 Try.underlying3, wrap_i64, wrap_u64, wrap_u32, wrap_u8, eX, ↓reduceIte, Nat.reduceEqDiff, Int.reduceToNat]
  refine hK _ _ ?_; clear hK K
  refine OW_as rfl ?_
  refine OW_nil ?_
  try simp only [Ex.thnH, Ex.inBlockH, ↓reduceIte, Nat.reduceEqDiff]
  refine hK2 _ _ ?_; try clear hK2 K2
  refine CW_ret ?_
  try simp only [Ex.thnH, Ex.inBlockH, ↓reduceIte, Nat.reduceEqDiff]
  exact ⟨[_], ⟨rfl, trivial⟩, _, Le.refl _, res, hres, rfl, a4, c4, hr4, ⟨_, rfl⟩, hs4⟩

end Go.Proofs.Ytlkopcgoaldpeaa.HL
end
section
namespace Go.Proofs.Ytlkopcgoaldpeaa.HL
open Go Go.Proofs
set_option linter.unusedSimpArgs false
set_option linter.unusedVariables false
attribute [local irreducible] Lt Lq CW OW TW CallH

set_option maxRecDepth 100000 in
set_option maxHeartbeats 4000000 in
theorem code_ok (H : Hp) (p : Nat) (a : Option Addr) (cap : Nat) (l : List Int) (bad : Bool) (hr : RD H p a cap l bad) (hB : ByteL l) (hl : l.length ≤ 100000) : CallH Try.prog 36 #[.pointer (some ⟨p, 0, none⟩)] H (fun v H' => ∃ (x : Cd) (l' : List Int) (bad' : Bool) (a' : Option Addr) (cap' : Nat), v = .agg x.cells.toArray ∧ x.ok ∧ RD H' p a' cap' l' bad' ∧ ByteL l' ∧ l'.length ≤ l.length - 1 ∧ KeepBut H p H' ∧ SameB a a' ∧ ∀ (x0 : Cd) (b : Int) (r : List Int), x0.ok → goodC x0 b = true → b ≤ 1000 → bad = false → l = encC x0 ++ r → x = x0 ∧ l' = r ∧ bad' = false) := by
  refine CallH_enter (l := [_]) (rl := [.cell 2 47]) (n := 38) Try.func36 rfl rfl rfl rfl rfl ?_
  simp only [envOf, Nat.reduceAdd]
  have hp := hr.1
  have hv := byV_rng hB
  refine CW_seq (fun K1 hK1 => ?_)
  refine CW_region ?_
  refine OW_opS (fun K hK r => ?_)
  simp only [x_alloc, zr47, orF_some, Value.cells, eX, ↓reduceIte, Nat.reduceEqDiff, Int.reduceToNat]
  intro b2 hb2
  try have n2_p : p ≠ b2 := ne_of_none hbA hb2
  try simp only [eX, ↓reduceIte, Nat.reduceEqDiff, Int.reduceToNat]
  refine hK _ _ ?_; clear hK K
  refine OW_nil ?_
  try simp only [Ex.thnH, Ex.inBlockH, ↓reduceIte, Nat.reduceEqDiff]
  refine hK1 _ _ ?_; try clear hK1 K1
  refine CW_seq (fun K2 hK2 => ?_)
  refine CW_region ?_
  refine OW_mv rfl ?_
  refine OW_opS (fun K hK r => ?_)
  simp only [x_callF _ bd54, List.map_toArray, List.map_cons, List.map_nil, eX, ↓reduceIte, Nat.reduceEqDiff, Int.reduceToNat]
  refine (rByte_ok _ p a cap l bad (hr.le (le_upd _ _ _ hb2)) hB (by omega)).mono ?_
  rintro v8 H8 ⟨rfl, ⟨o8, rfl⟩, a8, c8, hr8, hs8⟩
  have hp8 := hr8.1
  have hkb8 := ((KeepBut.refl H p).put hb2 (.cells #[.int .i64 0, .int .i64 0, .int .i64 0, .int .i64 0, .int .i64 0, .int .i64 0] 47)).trans (KeepBut.upd _ p o8)
  try simp only [eX, ↓reduceIte, Nat.reduceEqDiff, Int.reduceToNat]
  refine hK _ _ ?_; clear hK K
  refine OW_opS (fun K hK r => ?_)
  simp (disch := (first | omega | decide)) only [x_convert, c_int _ _ _ _ Try.underlying5 Try.underlying3, wrap_i64, wrap_u64, wrap_u32, wrap_u8, eX, ↓reduceIte, Nat.reduceEqDiff, Int.reduceToNat]
  refine hK _ _ ?_; clear hK K
  refine OW_opS (fun K hK r => ?_)
  simp only [x_build, bp47, List.map_toArray, List.map_cons, List.map_nil, eX, ↓reduceIte, Nat.reduceEqDiff, Int.reduceToNat]
  rw [fill_one rfl clA bdA]
  simp only [fill_nil, orF_some, List.setIfInBounds_toArray, List.set_cons_zero, List.set_cons_succ]
  try simp only [eX, ↓reduceIte, Nat.reduceEqDiff, Int.reduceToNat]
  refine hK _ _ ?_; clear hK K
  refine OW_opS (fun K hK r => ?_)
  simp only [x_alloc, zr47, orF_some, Value.cells, eX, ↓reduceIte, Nat.reduceEqDiff, Int.reduceToNat]
  intro b3 hb3
  try have n3_p : p ≠ b3 := ne_of_none hbA hb3
  try have n3_b2 : b2 ≠ b3 := ne_of_none hbA hb3
  have f3_H := KeepBut.none hkb8 hb3 hp8
  try simp only [eX, ↓reduceIte, Nat.reduceEqDiff, Int.reduceToNat]
  refine hK _ _ ?_; clear hK K
  refine OW_op rfl (lt_none) (fun K hK r => ?_)
  simp only [x_store, eX, ↓reduceIte, Nat.reduceEqDiff, Int.reduceToNat]
  first | refine Lt_storeAll sz47 bdA hbA bdA plA (by decide) ?_ | refine Lt_storeAtA sz47 bdA hbA bdA plA (by decide) ?_
  try simp only [eX, ↓reduceIte, Nat.reduceEqDiff, Int.reduceToNat]
  refine hK _ _ ?_; clear hK K
  refine OW_nil ?_
  try simp only [Ex.thnH, Ex.inBlockH, ↓reduceIte, Nat.reduceEqDiff]
  refine hK2 _ _ ?_; try clear hK2 K2
  refine CW_seq (fun K3 hK3 => ?_)
  refine CW_region ?_
  refine OW_opS (fun K hK r => ?_)
  simp only [x_fieldAddr, fa47_0, add_mk, Nat.reduceAdd, Nat.zero_add, eX, ↓reduceIte, Nat.reduceEqDiff, Int.reduceToNat]
  refine hK _ _ ?_; clear hK K
  refine OW_opS (fun K hK r => ?_)
  simp only [x_load, eX, ↓reduceIte, Nat.reduceEqDiff, Int.reduceToNat]
  refine Lt_loadAt1 Try.underlying3 rfl hbA ldA ?_
  try simp only [eX, ↓reduceIte, Nat.reduceEqDiff, Int.reduceToNat]
  refine hK _ _ ?_; clear hK K
  refine OW_opS (fun K hK r => ?_)
  simp only [x_callF _ bd9, List.map_toArray, List.map_cons, List.map_nil, eX, ↓reduceIte, Nat.reduceEqDiff, Int.reduceToNat]
  refine (shape_ok _ (byV l)).mono ?_
  rintro v H' ⟨rfl, rfl⟩
  try simp only [eX, ↓reduceIte, Nat.reduceEqDiff, Int.reduceToNat]
  refine hK _ _ ?_; clear hK K
  refine OW_mv rfl ?_
  refine OW_opS (fun K hK r => ?_)
  simp only [x_extract, i_extract, List.getElem?_toArray, List.getElem?_cons_zero, List.getElem?_cons_succ, orF_some, eX, ↓reduceIte, Nat.reduceEqDiff, Int.reduceToNat]
  refine hK _ _ ?_; clear hK K
  refine OW_opS (fun K hK r => ?_)
  simp only [x_extract, i_extract, List.getElem?_toArray, List.getElem?_cons_zero, List.getElem?_cons_succ, orF_some, eX, ↓reduceIte, Nat.reduceEqDiff, Int.reduceToNat]
  refine hK _ _ ?_; clear hK K
  refine OW_as rfl ?_
  refine OW_as rfl ?_
  refine OW_nil ?_
  try simp only [Ex.thnH, Ex.inBlockH, ↓reduceIte, Nat.reduceEqDiff]
  refine hK3 _ _ ?_; try clear hK3 K3
  refine CW_seq (fun K4 hK4 => ?_)
  refine CW_seq (fun K5 hK5 => ?_)
  refine CW_region ?_
  refine OW_mv rfl ?_
  refine OW_opS (fun K hK r => ?_)
  simp only [x_builtin, l_len, List.map_toArray, List.map_cons, List.map_nil, i_len_string _ Try.underlying9, eX, ↓reduceIte, Nat.reduceEqDiff, Int.reduceToNat]
  try simp only [strOf_size]
  refine hK _ _ ?_; clear hK K
  refine OW_mv rfl ?_
  refine OW_nil ?_
  try simp only [Ex.thnH, Ex.inBlockH, ↓reduceIte, Nat.reduceEqDiff]
  refine hK5 _ _ ?_; try clear hK5 K5
  refine CW_block ?_
  refine CW_loop (fun m e H_ => ∃ (j : Nat) (y : Cd) (l1 : List Int) (bad1 : Bool) (a1 : Option Addr) (c1 : Nat), j ≤ (shp (byV l)).length ∧ m = (shp (byV l)).length - j ∧ y.ok ∧ RD H_ p a1 c1 l1 bad1 ∧ ByteL l1 ∧ l1.length ≤ l.length - 1 ∧ KeepBut H p H_ ∧ SameB a a1 ∧ PS bad l (byV l) j y l1 bad1 ∧ H_ b2 = some (.cells #[.int .i64 0, .int .i64 0, .int .i64 0, .int .i64 0, .int .i64 0, .int .i64 0] 47) ∧ H_ b3 = some (.cells y.cells.toArray 47) ∧ Env.has [(0, .pointer (some ⟨p, 0, none⟩)), (2, .pointer (some ⟨b2, 0, none⟩)), (3, .pointer (some ⟨b3, 0, none⟩)), (4, .string (strOf (shp (byV l)))), (18, .int .i64 (shp (byV l)).length), (19, .int .i64 j)] e) ((shp (byV l)).length) ?_ ?_
  · skip
    exact ⟨0, ⟨byV l, 0, 0, 0, 0, 0⟩, byL l, byB l, a8, c8, by omega, by omega, by constructor <;> simp only <;> omega, hr8.le (le_upd _ _ _ hb3), hB.drop 1, by simp [byL], hkb8.put f3_H _, hs8, PS.start, hbA, hbA, rfl, rfl, rfl, rfl, rfl, rfl, trivial⟩
  intro m_ e_ H_ hI_
  obtain ⟨j, y, l1, bad1, a1, c1, hj, rfl, hyo, hr1, hB1, hl1, hkb, hsb, hps, hk2, hk3, he⟩ := hI_
  have hp1 := hr1.1
  have hl5 := shp_len (byV l)
  refine CW_env he.sub ?_; clear he e_
  refine CW_seq (fun K6 hK6 => ?_)
  refine CW_region ?_
  refine OW_opS (fun K hK r => ?_)
  simp (disch := (first | omega | decide)) only [x_bin, g_int, b_lss, dec_lt_t, dec_lt_f, dec_le_t, dec_le_f, dec_eq_t, dec_eq_f, Bool.not_true, Bool.not_false, eX, ↓reduceIte, Nat.reduceEqDiff, Int.reduceToNat]
  refine hK _ _ ?_; clear hK K
  refine OW_nil ?_
  try simp only [Ex.thnH, Ex.inBlockH, ↓reduceIte, Nat.reduceEqDiff]
  refine hK6 _ _ ?_; try clear hK6 K6
  refine CW_seq (fun K7 hK7 => ?_)
  refine CW_cond (fun r => rfl) (fun c20 => ?_) (fun c20 => ?_)
  · first
    | (exfalso; exact cnA c20; done)
    | skip
      (try simp only [decide_eq_true_eq, decide_eq_false_iff_not, Bool.not_eq_true, Bool.not_eq_false, Bool.and_eq_true, Bool.or_eq_true, Bool.or_eq_false_iff, Bool.not_eq_true, Bool.not_eq_eq_eq_not, Bool.not_true, Bool.not_false] at c20)
      refine CW_skip ?_
      try simp only [Ex.thnH, Ex.inBlockH, ↓reduceIte, Nat.reduceEqDiff]
      refine hK7 _ _ ?_; try clear hK7 K7
      refine CW_seq (fun K8 hK8 => ?_)
      refine CW_block ?_
      refine CW_seq (fun K9 hK9 => ?_)
      refine CW_region ?_
      refine OW_mv rfl ?_
      refine OW_as rfl ?_
      refine OW_nil ?_
      try simp only [Ex.thnH, Ex.inBlockH, ↓reduceIte, Nat.reduceEqDiff]
      refine hK9 _ _ ?_; try clear hK9 K9
      refine CW_seq (fun K10 hK10 => ?_)
      refine CW_region ?_
      refine OW_mv rfl ?_
      refine OW_mv rfl ?_
      refine OW_opS (fun K hK r => ?_)
      simp only [x_index, eX, ↓reduceIte, Nat.reduceEqDiff, Int.reduceToNat]
      refine Lt_letter Try.underlying9 (shp_bytes _) (by omega) ?_
      refine hK _ _ ?_; clear hK K
      refine OW_opS (fun K hK r => ?_)
      simp (disch := (first | omega | decide)) only [x_bin, g_int, b_eql, dec_lt_t, dec_lt_f, dec_le_t, dec_le_f, dec_eq_t, dec_eq_f, Bool.not_true, Bool.not_false, eX, ↓reduceIte, Nat.reduceEqDiff, Int.reduceToNat]
      refine hK _ _ ?_; clear hK K
      refine OW_nil ?_
      try simp only [Ex.thnH, Ex.inBlockH, ↓reduceIte, Nat.reduceEqDiff]
      refine hK10 _ _ ?_; try clear hK10 K10
      refine CW_cond (fun r => rfl) (fun c25 => ?_) (fun c25 => ?_)
      · first
        | (exfalso; exact cnA c25; done)
        | skip
          (try simp only [decide_eq_true_eq, decide_eq_false_iff_not, Bool.not_eq_true, Bool.not_eq_false, Bool.and_eq_true, Bool.or_eq_true, Bool.or_eq_false_iff, Bool.not_eq_true, Bool.not_eq_eq_eq_not, Bool.not_true, Bool.not_false] at c25)
          refine CW_region ?_
          refine OW_mv rfl ?_
          refine OW_opS (fun K hK r => ?_)
          simp only [x_callF _ bd55, List.map_toArray, List.map_cons, List.map_nil, eX, ↓reduceIte, Nat.reduceEqDiff, Int.reduceToNat]
          refine (rNum_all _ p a1 c1 l1 bad1 hr1 hB1 (by omega)).mono ?_
          rintro v27 H27 ⟨res, hres, rfl, a27, c27, hr27, ⟨o27, rfl⟩, hs27⟩
          have hu := unzig_rng hres.lt
          have hp27 := hr27.1
          try simp only [eX, ↓reduceIte, Nat.reduceEqDiff, Int.reduceToNat]
          refine hK _ _ ?_; clear hK K
          refine OW_opS (fun K hK r => ?_)
          simp only [x_fieldAddr, fa47_5, add_mk, Nat.reduceAdd, Nat.zero_add, eX, ↓reduceIte, Nat.reduceEqDiff, Int.reduceToNat]
          refine hK _ _ ?_; clear hK K
          refine OW_op rfl (lt_none) (fun K hK r => ?_)
          simp only [x_store, eX, ↓reduceIte, Nat.reduceEqDiff, Int.reduceToNat]
          refine Lt_storeAt1 sz3 hbA (show 5 < 6 by decide) plA fzA ?_
          rw [show (y.cells.toArray).setIfInBounds 5 (Value.int .i64 (unzig (rcN res))) = (y.setf 110 (unzig (rcN res))).cells.toArray from foff_setA y 110 _]
          refine hK _ _ ?_; clear hK K
          refine OW_nil ?_
          try simp only [Ex.thnH, Ex.inBlockH, ↓reduceIte, Nat.reduceEqDiff]
          refine hK8 _ _ ?_; try clear hK8 K8
          refine CW_region ?_
          refine OW_opS (fun K hK r => ?_)
          simp (disch := (first | omega | decide)) only [x_bin, g_int, b_add, wrap_i64, wrap_u64, wrap_u32, wrap_u8, eX, ↓reduceIte, Nat.reduceEqDiff, Int.reduceToNat]
          refine hK _ _ ?_; clear hK K
          refine OW_mv rfl ?_
          refine OW_nil ?_
          try simp only [Ex.thnH, Ex.inBlockH, ↓reduceIte, Nat.reduceEqDiff]
          first
          | exact ⟨(shp (byV l)).length - (j + 1), by omega, j + 1, y.setf 110 (unzig (rcN res)), rcL res, res.isNone, a27, c27, by omega, rfl, setf_ok hyo _ hu.1 hu.2, hr27.other n3_p (y := y) hbA _, part_byte hres hB1, Nat.le_trans (part_len hres) hl1, (hkb.trans (KeepBut.upd _ _ _)).put f3_H _, hsb.trans hs27, hps.num (by omega) (by assumption) hres, hbA, hbA, rfl, rfl, rfl, rfl, rfl, rfl, trivial⟩
          | exact ⟨(shp (byV l)).length - (j + 1), by omega, j + 1, y.setf ((shp (byV l)).getD j 0) ((rcN res % 4611686018427387904 : Nat) : Int), rcL res, res.isNone, a34, c34, by omega, rfl, setf_ok hyo _ (by omega) (by omega), hr34.other n3_p (y := y) hbA _, part_byte hres hB1, Nat.le_trans (part_len hres) hl1, (hkb.trans (KeepBut.upd _ _ _)).put f3_H _, hsb.trans hs34, hps.oth (by omega) (by assumption) hres, hbA, hbA, rfl, rfl, rfl, rfl, rfl, rfl, trivial⟩
      · first
        | (exfalso; exact cnA c25; done)
        | skip
          (try simp only [decide_eq_true_eq, decide_eq_false_iff_not, Bool.not_eq_true, Bool.not_eq_false, Bool.and_eq_true, Bool.or_eq_true, Bool.or_eq_false_iff, Bool.not_eq_true, Bool.not_eq_eq_eq_not, Bool.not_true, Bool.not_false] at c25)
          refine CW_region ?_
          refine OW_mv rfl ?_
          refine OW_mv rfl ?_
          refine OW_opS (fun K hK r => ?_)
          simp only [x_index, eX, ↓reduceIte, Nat.reduceEqDiff, Int.reduceToNat]
          refine Lt_letter Try.underlying9 (shp_bytes _) (by omega) ?_
          refine hK _ _ ?_; clear hK K
          refine OW_opS (fun K hK r => ?_)
          simp only [x_callF _ bd28, List.map_toArray, List.map_cons, List.map_nil, eX, ↓reduceIte, Nat.reduceEqDiff, Int.reduceToNat]
          refine (field_ok _ b3 y ((shp (byV l)).getD j 0) hbA).mono ?_
          rintro v H' ⟨rfl, rfl⟩
          try simp only [eX, ↓reduceIte, Nat.reduceEqDiff, Int.reduceToNat]
          refine hK _ _ ?_; clear hK K
          refine OW_mv rfl ?_
          refine OW_opS (fun K hK r => ?_)
          simp only [x_callF _ bd34, List.map_toArray, List.map_cons, List.map_nil, eX, ↓reduceIte, Nat.reduceEqDiff, Int.reduceToNat]
          refine (small_ok _ p a1 c1 l1 bad1 hr1 hB1 (by omega)).mono ?_
          rintro v34 H34 ⟨res, hres, rfl, a34, c34, hr34, ⟨o34, rfl⟩, hs34⟩
          have hp34 := hr34.1
          try simp only [eX, ↓reduceIte, Nat.reduceEqDiff, Int.reduceToNat]
          refine hK _ _ ?_; clear hK K
          refine OW_opS (fun K hK r => ?_)
          rw [x_nilCheck _ _ rfl]
          simp only [eX, ↓reduceIte, Nat.reduceEqDiff, Int.reduceToNat]
          refine hK _ _ ?_; clear hK K
          refine OW_op rfl (lt_none) (fun K hK r => ?_)
          simp only [x_store, eX, ↓reduceIte, Nat.reduceEqDiff, Int.reduceToNat]
          refine Lt_storeAt1 sz3 hbA (by show foff _ < 6; exact foff_lt _) plA fzA ?_
          rw [foff_setA]
          refine hK _ _ ?_; clear hK K
          refine OW_nil ?_
          try simp only [Ex.thnH, Ex.inBlockH, ↓reduceIte, Nat.reduceEqDiff]
          refine hK8 _ _ ?_; try clear hK8 K8
          refine CW_region ?_
          refine OW_opS (fun K hK r => ?_)
          simp (disch := (first | omega | decide)) only [x_bin, g_int, b_add, wrap_i64, wrap_u64, wrap_u32, wrap_u8, eX, ↓reduceIte, Nat.reduceEqDiff, Int.reduceToNat]
          refine hK _ _ ?_; clear hK K
          refine OW_mv rfl ?_
          refine OW_nil ?_
          try simp only [Ex.thnH, Ex.inBlockH, ↓reduceIte, Nat.reduceEqDiff]
          first
          | exact ⟨(shp (byV l)).length - (j + 1), by omega, j + 1, y.setf 110 (unzig (rcN res)), rcL res, res.isNone, a27, c27, by omega, rfl, setf_ok hyo _ hu.1 hu.2, hr27.other n3_p (y := y) hbA _, part_byte hres hB1, Nat.le_trans (part_len hres) hl1, (hkb.trans (KeepBut.upd _ _ _)).put f3_H _, hsb.trans hs27, hps.num (by omega) (by assumption) hres, hbA, hbA, rfl, rfl, rfl, rfl, rfl, rfl, trivial⟩
          | exact ⟨(shp (byV l)).length - (j + 1), by omega, j + 1, y.setf ((shp (byV l)).getD j 0) ((rcN res % 4611686018427387904 : Nat) : Int), rcL res, res.isNone, a34, c34, by omega, rfl, setf_ok hyo _ (by omega) (by omega), hr34.other n3_p (y := y) hbA _, part_byte hres hB1, Nat.le_trans (part_len hres) hl1, (hkb.trans (KeepBut.upd _ _ _)).put f3_H _, hsb.trans hs34, hps.oth (by omega) (by assumption) hres, hbA, hbA, rfl, rfl, rfl, rfl, rfl, rfl, trivial⟩
  · first
    | (exfalso; exact cnA c20; done)
    | skip
      (try simp only [decide_eq_true_eq, decide_eq_false_iff_not, Bool.not_eq_true, Bool.not_eq_false, Bool.and_eq_true, Bool.or_eq_true, Bool.or_eq_false_iff, Bool.not_eq_true, Bool.not_eq_eq_eq_not, Bool.not_true, Bool.not_false] at c20)
      refine CW_exit ?_
      try simp only [Ex.thnH, Ex.inBlockH, ↓reduceIte, Nat.reduceEqDiff]
      refine hK4 _ _ ?_; try clear hK4 K4
      refine CW_seq (fun K11 hK11 => ?_)
      refine CW_region ?_
      refine OW_opS (fun K hK r => ?_)
      simp only [x_load, eX, ↓reduceIte, Nat.reduceEqDiff, Int.reduceToNat]
      first | refine Lt_loadAll Try.underlying47 rfl sz47 hbA bdA ?_ | refine Lt_loadAtA Try.underlying47 rfl sz47 hbA bdA ?_
      try simp only [List.extract_toArray, List.extract_eq_take_drop, Nat.zero_add, Nat.reduceAdd, Nat.reduceSub, Nat.sub_zero, List.drop_succ_cons, List.drop_zero, List.take_succ_cons, List.take_zero, List.take_nil, List.drop_nil]
      try simp only [eX, ↓reduceIte, Nat.reduceEqDiff, Int.reduceToNat]
      refine hK _ _ ?_; clear hK K
      refine OW_op rfl (lt_none) (fun K hK r => ?_)
      simp only [x_store, eX, ↓reduceIte, Nat.reduceEqDiff, Int.reduceToNat]
      first | refine Lt_storeAll sz47 bdA hbA bdA plA (by decide) ?_ | refine Lt_storeAtA sz47 bdA hbA bdA plA (by decide) ?_
      try simp only [eX, ↓reduceIte, Nat.reduceEqDiff, Int.reduceToNat]
      refine hK _ _ ?_; clear hK K
      refine OW_nil ?_
      try simp only [Ex.thnH, Ex.inBlockH, ↓reduceIte, Nat.reduceEqDiff]
      refine hK11 _ _ ?_; try clear hK11 K11
      refine CW_ret ?_
      try simp only [Ex.thnH, Ex.inBlockH, ↓reduceIte, Nat.reduceEqDiff]
      refine ⟨[_], ⟨⟨_, rfl, Lq_loadAll Try.underlying47 rfl sz47 hbA bdA⟩, trivial⟩, _, Le.refl _, y, l1, bad1, a1, c1, rfl, hyo, (hr1.other n2_p (y := ⟨0, 0, 0, 0, 0, 0⟩) hbA _), hB1, hl1, hkb.put hb2 _, hsb, hps.done (by omega)⟩

end Go.Proofs.Ytlkopcgoaldpeaa.HL
end
section
namespace Go.Proofs.Ytlkopcgoaldpeaa.HL
open Go Go.Proofs
set_option linter.unusedSimpArgs false
set_option linter.unusedVariables false
attribute [local irreducible] Lt Lq CW OW TW CallH


/-- what is read of a program's bytes, as far as they are a good one's -/
def DSP (B : List Int) (f n : Int) (cs : List Cd) (l1 : List Int) (bad1 : Bool) : Prop := ∀ (g : Int) (ds : List Cd), (∀ x ∈ ds, x.ok) → GoodP g ds → encP g ds = B →
  f = g ∧ n = ds.length ∧ cs = ds.take cs.length ∧ l1 = (ds.drop cs.length).flatMap encC ∧ bad1 = false
theorem DSP.start {B : List Int} {r1 r2 : Option (Nat × List Int)} (h1 : RCb false B r1) (h2 : RCb r1.isNone (rcL r1) r2) : DSP B ((rcN r1 % 4611686018427387904 : Nat) : Int) ((rcN r2 % 4611686018427387904 : Nat) : Int) [] (rcL r2) r2.isNone := by
  intro g ds hd hg he
  have hs := hg.spec
  rw [encP_good hg, List.append_assoc] at he
  subst he
  obtain rfl := spec_cnt6 (by omega) h1
  simp only [rcL_some, Option.isNone_some] at h2
  obtain rfl := spec_cnt6 (by omega) h2
  simp only [rcN_some, rcL_some, Option.isNone_some, List.length_nil, List.take_zero, List.drop_zero, and_true]
  refine ⟨by omega, by omega⟩
theorem DSP.step {B : List Int} {f n : Int} {cs : List Cd} {l1 l' : List Int} {bad1 bad' : Bool} {x : Cd} (h : DSP B f n cs l1 bad1) (hn : (cs.length : Int) < n)
    (hx : ∀ (x0 : Cd) (b : Int) (r : List Int), x0.ok → goodC x0 b = true → b ≤ 1000 → bad1 = false → l1 = encC x0 ++ r → x = x0 ∧ l' = r ∧ bad' = false) : DSP B f n (cs ++ [x]) l' bad' := by
  intro g ds hd hg he
  obtain ⟨h1, h2, h3, h4, h5⟩ := h g ds hd hg he
  have hlt : cs.length < ds.length := by omega
  obtain ⟨b, hb, hgx⟩ := hg.at hlt
  rw [flat_head _ _ _ default hlt] at h4
  obtain ⟨rfl, rfl, rfl⟩ := hx _ b _ (hd _ (cd_mem hlt)) hgx hb h5 h4
  refine ⟨h1, h2, ?_, by simp, rfl⟩
  rw [List.length_append, List.length_singleton, List.take_succ_eq_append_getElem hlt, ← h3]
  simp [List.getD_eq_getElem?_getD, List.getElem?_eq_getElem hlt]
theorem DSP.done {B : List Int} {f n : Int} {cs : List Cd} {l1 : List Int} {bad1 : Bool} (h : DSP B f n cs l1 bad1) (hc : ¬ ((cs.length : Int) < n) ∨ l1.length = 0) {g : Int} {ds : List Cd} (hd : ∀ x ∈ ds, x.ok) (hg : GoodP g ds) (he : encP g ds = B) : f = g ∧ cs = ds ∧ l1 = [] ∧ bad1 = false := by
  obtain ⟨h1, h2, h3, h4, h5⟩ := h g ds hd hg he
  have hlt : ¬ cs.length < ds.length := by
    intro hlt
    rcases hc with hc | hc
    · omega
    · have := List.eq_nil_of_length_eq_zero hc
      rw [this, flat_head _ _ _ default hlt] at h4
      have := congrArg List.length h4
      have := encC_len1 (ds.getD cs.length default)
      simp at this; rw [List.length_append] at *; simp at *; omega
  refine ⟨h1, ?_, ?_, h5⟩
  · rw [h3, List.take_of_length_le (by omega)]
  · rw [h4, List.drop_of_length_le (by omega)]; rfl
theorem encB_len {f : Int} {cs : List Cd} (hc : ∀ x ∈ cs, x.ok) (h : cs.length ≤ 10000) : (encB f cs).length ≤ 1000000 := by
  unfold encB
  split
  · have h1 := cnt_wrap_len f
    have h2 := cnt_len10 (n := cs.length) (by omega)
    have h3 := fm_len hc
    unfold encP
    simp only [List.length_append]; omega
  · simp
theorem Holds.keepA {H H' : Hp} {w n cap : Nat} {a : Option Addr} {cs : List Value} (h : Holds H w (.slice a n cap) n cs) (k : ∀ A o, a = some A → H A.block = some o → H' A.block = some o) : Holds H' w (.slice a n cap) n cs := by
  obtain ⟨h1, h2 | ⟨b, o, cap', c, T, f, e, h4, h5⟩⟩ := h
  · exact ⟨h1, .inl h2⟩
  · cases e
    exact ⟨h1, .inr ⟨b, o, _, c, T, f, rfl, k _ _ rfl h4, h5⟩⟩
theorem RD.keep {H H' : Hp} {p : Nat} {a : Option Addr} {cap : Nat} {l : List Int} {bad : Bool} (h : RD H p a cap l bad) (hp : ∀ o, H p = some o → H' p = some o) (hA : ∀ A o, a = some A → H A.block = some o → H' A.block = some o) : RD H' p a cap l bad :=
  ⟨hp _ h.1, h.2.1, h.2.2.1.keepA hA, h.2.2.2⟩

set_option maxRecDepth 100000 in
set_option maxHeartbeats 8000000 in
theorem decode_ok (H : Hp) (v : Value) (B : List Int) (hv : Holds H 1 v B.length (u8s B)) (hB : ByteL B) (hl : B.length ≤ 10000) : CallH Try.prog 18 #[v] H (fun v' H' => Le H H' ∧ ∃ (f : Int) (cs : List Cd) (vc : Value) (o : Option Int), v' = .tuple #[.agg #[.int .i64 f, vc], errV o] ∧ ((o = none ∧ GoodP f cs ∧ encP f cs = B) ∨ (o = some 2 ∧ f = 0 ∧ cs = [] ∧ (∀ (g : Int) (ds : List Cd), (∀ x ∈ ds, x.ok) → GoodP g ds → encP g ds ≠ B))) ∧ (∀ x ∈ cs, x.ok) ∧ ∃ rs, OwnS H' 47 6 vc cs.length (cds cs) rs ∧ ∀ r, rs = some r → H r = none) := by
  refine CallH_enter (l := [_]) (rl := [.cell 2 24, .tmp 3]) (n := 54) Try.func18 rfl rfl rfl rfl rfl ?_
  simp only [envOf, Nat.reduceAdd]
  obtain ⟨av, kv, rfl⟩ := hv.form
  refine CW_seq (fun K1 hK1 => ?_)
  refine CW_region ?_
  refine OW_opS (fun K hK r => ?_)
  simp only [x_alloc, zr24, orF_some, Value.cells, eX, ↓reduceIte, Nat.reduceEqDiff, Int.reduceToNat]
  intro b2 hb2
  have f2_H : H b2 = none := none_of_le lhA hb2
  try simp only [eX, ↓reduceIte, Nat.reduceEqDiff, Int.reduceToNat]
  refine hK _ _ ?_; clear hK K
  refine OW_as rfl ?_
  refine OW_nil ?_
  try simp only [Ex.thnH, Ex.inBlockH, ↓reduceIte, Nat.reduceEqDiff]
  refine hK1 _ _ ?_; try clear hK1 K1
  refine CW_seq (fun K2 hK2 => ?_)
  refine CW_region ?_
  refine OW_mv rfl ?_
  refine OW_opS (fun K hK r => ?_)
  simp only [x_callF _ bd33, List.map_toArray, List.map_cons, List.map_nil, eX, ↓reduceIte, Nat.reduceEqDiff, Int.reduceToNat]
  refine (newReader_ok _ _ B (hv.le lhA) (by omega)).mono ?_
  rintro v10 H10 ⟨hl10, p, a10, c10, rfl, hp0, hr10, hA10⟩
  have kH10_b2 := hl10 b2 _ hbA
  have lH10_H : Le H H10 := Le.trans lhA hl10
  have np_b2 : b2 ≠ p := ne_of_none (upd_same _ _ _) hp0
  have fp_H : H p = none := none_of_le lhA hp0
  have hpk := hr10.1
  try simp only [eX, ↓reduceIte, Nat.reduceEqDiff, Int.reduceToNat]
  refine hK _ _ ?_; clear hK K
  refine OW_as rfl ?_
  refine OW_nil ?_
  try simp only [Ex.thnH, Ex.inBlockH, ↓reduceIte, Nat.reduceEqDiff]
  refine hK2 _ _ ?_; try clear hK2 K2
  refine CW_seq (fun K3 hK3 => ?_)
  refine CW_region ?_
  refine OW_mv rfl ?_
  refine OW_opS (fun K hK r => ?_)
  simp only [x_callF _ bd34, List.map_toArray, List.map_cons, List.map_nil, eX, ↓reduceIte, Nat.reduceEqDiff, Int.reduceToNat]
  refine (small_ok _ p a10 c10 B false hr10 hB (by omega)).mono ?_
  rintro v12 H12 ⟨r12, hres12, rfl, a12, c12, hr12, ⟨o12, rfl⟩, hs12⟩
  have hp12 := hr12.1
  have hkb12 : KeepBut H10 p _ := KeepBut.upd H10 p o12
  try simp only [eX, ↓reduceIte, Nat.reduceEqDiff, Int.reduceToNat]
  refine hK _ _ ?_; clear hK K
  refine OW_opS (fun K hK r => ?_)
  simp only [x_build, bp24, List.map_toArray, List.map_cons, List.map_nil, eX, ↓reduceIte, Nat.reduceEqDiff, Int.reduceToNat]
  rw [fill_one rfl clA bdA]
  simp only [fill_nil, orF_some, List.setIfInBounds_toArray, List.set_cons_zero, List.set_cons_succ]
  try simp only [eX, ↓reduceIte, Nat.reduceEqDiff, Int.reduceToNat]
  refine hK _ _ ?_; clear hK K
  refine OW_opS (fun K hK r => ?_)
  simp only [x_alloc, zr24, orF_some, Value.cells, eX, ↓reduceIte, Nat.reduceEqDiff, Int.reduceToNat]
  intro b5 hb5
  try have n5_b2 : b2 ≠ b5 := ne_of_none hbA hb5
  have f5_H : H b5 = none := none_of_le lhA hb5
  have f5_H10 := KeepBut.none hkb12 hb5 hp12
  have np_b5 : b5 ≠ p := fun e => by subst e; rw [hp12] at hb5; cases hb5
  have n25 : b2 ≠ b5 := fun e => by subst e; rw [kH10_b2] at f5_H10; cases f5_H10
  have f5_H : H b5 = none := none_of_le lH10_H f5_H10
  try simp only [eX, ↓reduceIte, Nat.reduceEqDiff, Int.reduceToNat]
  refine hK _ _ ?_; clear hK K
  refine OW_op rfl (lt_none) (fun K hK r => ?_)
  simp only [x_store, eX, ↓reduceIte, Nat.reduceEqDiff, Int.reduceToNat]
  first | refine Lt_storeAll sz24 bdA hbA bdA plA (by decide) ?_ | refine Lt_storeAtA sz24 bdA hbA bdA plA (by decide) ?_
  try simp only [eX, ↓reduceIte, Nat.reduceEqDiff, Int.reduceToNat]
  refine hK _ _ ?_; clear hK K
  refine OW_nil ?_
  try simp only [Ex.thnH, Ex.inBlockH, ↓reduceIte, Nat.reduceEqDiff]
  refine hK3 _ _ ?_; try clear hK3 K3
  refine CW_seq (fun K4 hK4 => ?_)
  refine CW_seq (fun K5 hK5 => ?_)
  refine CW_region ?_
  refine OW_mv rfl ?_
  refine OW_opS (fun K hK r => ?_)
  simp only [x_callF _ bd34, List.map_toArray, List.map_cons, List.map_nil, eX, ↓reduceIte, Nat.reduceEqDiff, Int.reduceToNat]
  refine (small_ok _ p a12 c12 (rcL r12) r12.isNone ((hr12.le (le_upd _ _ _ hb5))) (part_byte hres12 hB) (Nat.le_trans (part_len hres12) (by omega))).mono ?_
  rintro v15 H15 ⟨r15, hres15, rfl, a15, c15, hr15, ⟨o15, rfl⟩, hs15⟩
  have hp15 := hr15.1
  have hkb15 := (hkb12.put f5_H10 (.cells #[.int .i64 ((rcN r12 % 4611686018427387904 : Nat) : Int), .slice none 0 0] 24)).trans (KeepBut.upd _ p o15)
  try simp only [eX, ↓reduceIte, Nat.reduceEqDiff, Int.reduceToNat]
  refine hK _ _ ?_; clear hK K
  refine OW_as rfl ?_
  refine OW_nil ?_
  try simp only [Ex.thnH, Ex.inBlockH, ↓reduceIte, Nat.reduceEqDiff]
  refine hK5 _ _ ?_; try clear hK5 K5
  refine CW_block ?_
  refine CW_loop (fun m e H_ => ∃ (cs : List Cd) (vc : Value) (rs : Option Nat) (l1 : List Int) (bad1 : Bool) (a1 : Option Addr) (c1 : Nat), m = l1.length ∧ (∀ x ∈ cs, x.ok) ∧ cs.length + l1.length ≤ B.length ∧ OwnS H_ 47 6 vc cs.length (cds cs) rs ∧ (∀ r, rs = some r → H10 r = none ∧ r ≠ b5) ∧ RD H_ p a1 c1 l1 bad1 ∧ ByteL l1 ∧ KeepBut H10 p H_ ∧ SameB a10 a1 ∧ H_ b5 = some (.cells #[.int .i64 ((rcN r12 % 4611686018427387904 : Nat) : Int), vc] 24) ∧ DSP B ((rcN r12 % 4611686018427387904 : Nat) : Int) ((rcN r15 % 4611686018427387904 : Nat) : Int) cs l1 bad1 ∧ Env.has [(0, .slice av B.length kv), (2, .pointer (some ⟨b2, 0, none⟩)), (4, .pointer (some ⟨p, 0, none⟩)), (5, .pointer (some ⟨b5, 0, none⟩)), (6, .int .i64 ((rcN r15 % 4611686018427387904 : Nat) : Int))] e) ((rcL r15).length) ?_ ?_
  · skip
    exact ⟨[], _, none, rcL r15, r15.isNone, a15, c15, rfl, (fun x hx => by simp at hx), (by have h1 := part_len hres12; have h2 := part_len hres15; simp only [List.length_nil]; omega), OwnS.nil _ _ _, (fun r hr => by cases hr), hr15, part_byte hres15 (part_byte hres12 hB), hkb15, hs12.trans hs15, hbA, DSP.start hres12 hres15, rfl, rfl, rfl, rfl, rfl, trivial⟩
  intro m_ e_ H_ hI_
  obtain ⟨cs, vc, rs, l1, bad1, a1, c1, rfl, hcs, hcl, hox, hrs, hr1, hB1, hkb, hsb, hk5, hdsp, he⟩ := hI_
  obtain ⟨ac, cc, rfl⟩ := hox.holds.form
  have hk2 := hkb b2 _ kH10_b2 np_b2
  have lH__H : Le H H_ := hkb.le lH10_H fp_H
  refine CW_env he.sub ?_; clear he e_
  refine CW_seq (fun K6 hK6 => ?_)
  refine CW_seq (fun K7 hK7 => ?_)
  refine CW_region ?_
  refine OW_opS (fun K hK r => ?_)
  simp only [x_fieldAddr, fa24_1, add_mk, Nat.reduceAdd, Nat.zero_add, eX, ↓reduceIte, Nat.reduceEqDiff, Int.reduceToNat]
  refine hK _ _ ?_; clear hK K
  refine OW_opS (fun K hK r => ?_)
  simp only [x_load, eX, ↓reduceIte, Nat.reduceEqDiff, Int.reduceToNat]
  refine Lt_loadAt1 Try.underlying22 rfl hbA ldA ?_
  try simp only [eX, ↓reduceIte, Nat.reduceEqDiff, Int.reduceToNat]
  refine hK _ _ ?_; clear hK K
  refine OW_opS (fun K hK r => ?_)
  simp only [x_builtin, l_len, List.map_toArray, List.map_cons, List.map_nil, i_len_slice _ _ Try.underlying22, eX, ↓reduceIte, Nat.reduceEqDiff, Int.reduceToNat]
  refine hK _ _ ?_; clear hK K
  refine OW_mv rfl ?_
  refine OW_opS (fun K hK r => ?_)
  simp (disch := (first | omega | decide)) only [x_bin, g_int, b_lss, dec_lt_t, dec_lt_f, dec_le_t, dec_le_f, dec_eq_t, dec_eq_f, Bool.not_true, Bool.not_false, eX, ↓reduceIte, Nat.reduceEqDiff, Int.reduceToNat]
  refine hK _ _ ?_; clear hK K
  refine OW_mv rfl ?_
  (first | refine OW_split (d := 21) rfl (fun g21 => ?_) (fun g21 => ?_) | skip)
  all_goals try (exfalso; exact cnA g21)
  all_goals (try simp only [decide_eq_true_eq, decide_eq_false_iff_not, Bool.not_eq_true, Bool.not_eq_false, Bool.and_eq_true, Bool.or_eq_true, Bool.or_eq_false_iff, Bool.not_eq_true, Bool.not_eq_eq_eq_not, Bool.not_true, Bool.not_false] at g21)
  all_goals
    try simp only [eX, ↓reduceIte, Nat.reduceEqDiff, Int.reduceToNat]
    first
    | refine OW_guardT rfl (lt_some (by decide)) rfl (fun K hK r => ?_)
      simp only [x_move, eX, ↓reduceIte, Nat.reduceEqDiff, Int.reduceToNat]
      refine hK _ _ ?_; clear hK K
    | refine OW_guardF rfl (lt_some (by decide)) rfl ?_
      simp only [eX, ↓reduceIte, Nat.reduceEqDiff, Int.reduceToNat]
    first
    | refine OW_guardT rfl (lt_some (by decide)) rfl (fun K hK r => ?_)
      simp only [x_callF _ bd35, List.map_toArray, List.map_cons, List.map_nil, eX, ↓reduceIte, Nat.reduceEqDiff, Int.reduceToNat]
      refine (rLeft_ok _ p a1 c1 l1 bad1 hr1).mono ?_
      rintro v H' ⟨rfl, rfl⟩
      try simp only [eX, ↓reduceIte, Nat.reduceEqDiff, Int.reduceToNat]
      refine hK _ _ ?_; clear hK K
    | refine OW_guardF rfl (lt_some (by decide)) rfl ?_
      simp only [eX, ↓reduceIte, Nat.reduceEqDiff, Int.reduceToNat]
    first
    | refine OW_guardT rfl (lt_some (by decide)) rfl (fun K hK r => ?_)
      simp (disch := (first | omega | decide)) only [x_bin, g_int, b_gtr, dec_lt_t, dec_lt_f, dec_le_t, dec_le_f, dec_eq_t, dec_eq_f, Bool.not_true, Bool.not_false, eX, ↓reduceIte, Nat.reduceEqDiff, Int.reduceToNat]
      refine hK _ _ ?_; clear hK K
    | refine OW_guardF rfl (lt_some (by decide)) rfl ?_
      simp only [eX, ↓reduceIte, Nat.reduceEqDiff, Int.reduceToNat]
    refine OW_opS (fun K hK r => ?_)
    simp only [x_pick, l_asBool, HL.ite_bool, if_true, if_false, Bool.false_eq_true, eX, ↓reduceIte, Nat.reduceEqDiff, Int.reduceToNat]
    refine hK _ _ ?_; clear hK K
    refine OW_nil ?_
    try simp only [Ex.thnH, Ex.inBlockH, ↓reduceIte, Nat.reduceEqDiff]
    refine hK7 _ _ ?_; try clear hK7 K7
    refine CW_cond (fun r => rfl) (fun c25 => ?_) (fun c25 => ?_)
    · first
      | (exfalso; exact cnA c25; done)
      | skip
        (try simp only [decide_eq_true_eq, decide_eq_false_iff_not, Bool.not_eq_true, Bool.not_eq_false, Bool.and_eq_true, Bool.or_eq_true, Bool.or_eq_false_iff, Bool.not_eq_true, Bool.not_eq_eq_eq_not, Bool.not_true, Bool.not_false] at c25)
        refine CW_skip ?_
        try simp only [Ex.thnH, Ex.inBlockH, ↓reduceIte, Nat.reduceEqDiff]
        refine hK6 _ _ ?_; try clear hK6 K6
        refine CW_block ?_
        obtain ⟨R5, hR5⟩ : ∃ R : Hp, R = emptyHp.upd b5 (.cells #[.int .i64 ((rcN r12 % 4611686018427387904 : Nat) : Int), .slice ac cs.length cc] 24) := ⟨_, rfl⟩
        refine CW_drawR [0, 1, 0, 2, 2, 3, 0, 3] [0, 1, 2, 3, 4, 5, 6, 7] R5 (by kernel_rfl) (by kernel_rfl) (by subst hR5; exact le_put (le_empty _) hk5) (fun lR5 => ?_)
        apply TW_pure rfl (lt_some (by decide)) rfl
        · intro r
          simp only [x_fieldAddr, fa24_1, add_mk, Nat.reduceAdd, Nat.zero_add, eX, ↓reduceIte, Nat.reduceEqDiff]
          exact ⟨rfl, Le.refl _⟩
        simp only [eX, ↓reduceIte, Nat.reduceEqDiff, Int.reduceToNat]
        apply TW_look rfl (lt_some (by decide)) rfl
        · intro r
          simp only [x_load, eX, ↓reduceIte, Nat.reduceEqDiff]
          refine Lt_loadAt1 Try.underlying22 rfl hbA ldA ?_
          exact ⟨rfl, Le.refl _⟩
        simp only [eX, ↓reduceIte, Nat.reduceEqDiff, Int.reduceToNat]
        apply TW_pure rfl (lt_some (by decide)) rfl
        · intro r
          simp only [x_move, eX, ↓reduceIte, Nat.reduceEqDiff]
          exact ⟨rfl, Le.refl _⟩
        simp only [eX, ↓reduceIte, Nat.reduceEqDiff, Int.reduceToNat]
        refine TW_chain rfl (lt_some (by decide)) rfl (fun K hK r => ?_)
        simp only [x_callF _ bd36, List.map_toArray, List.map_cons, List.map_nil, eX, ↓reduceIte, Nat.reduceEqDiff, Int.reduceToNat]
        refine (code_ok _ p a1 c1 l1 bad1 hr1 hB1 (by omega)).mono ?_
        rintro v29 H29 ⟨x, l2, bad2, a2, c2, rfl, hxo, hr2, hB2, hl2, hkb2, hsb2, hps2⟩
        have kH29_b5 := hkb2 b5 _ hk5 np_b5
        have hkb29 := hkb.trans hkb2
        have lH29_H : Le H H29 := hkb29.le lH10_H fp_H
        have hp29 := hr2.1
        have ho29 : OwnS H29 47 6 (.slice ac cs.length cc) cs.length (cds cs) rs := hox.stay (fun b o hb ho => hkb2 b o ho (fun e => by have h1 := (hrs b hb).1; rw [e, hpk] at h1; cases h1))
        have lR29 : Le R5 H29 := by rw [hR5]; exact le_put (le_empty _) kH29_b5
        try simp only [eX, ↓reduceIte, Nat.reduceEqDiff, Int.reduceToNat]
        refine hK _ _ leA ?_; clear hK K
        refine TW_chain rfl (lt_some (by decide)) rfl (fun K hK r => ?_)
        simp only [x_buildSlice, List.map_toArray, List.map_cons, List.map_nil, eX, ↓reduceIte, Nat.reduceEqDiff, Int.reduceToNat]
        refine Lt_buildSlice (vs := [_]) Try.underlying22 sz47 zr47 rfl bsA (by first | decide | (simp; done)) ?_
        simp only [List.flatMap_cons, List.flatMap_nil, Value.cells, List.append_nil, List.cons_append, List.nil_append, List.length_cons, List.length_nil, Nat.zero_add, Nat.reduceAdd]
        intro b30 hb30
        try have n30_b2 : b2 ≠ b30 := ne_of_none hbA hb30
        try have n30_b5 : b5 ≠ b30 := ne_of_none hbA hb30
        have f30_H : H b30 = none := none_of_le lhA hb30
        have f30_R5 : R5 b30 = none := none_of_le lhA hb30
        try simp only [eX, ↓reduceIte, Nat.reduceEqDiff, Int.reduceToNat]
        refine hK _ _ leA ?_; clear hK K
        refine TW_last rfl (lt_some (by decide)) rfl (fun K hK r => ?_)
        simp only [x_builtin, l_append, List.map_toArray, List.map_cons, List.map_nil, eX, ↓reduceIte, Nat.reduceEqDiff, Int.reduceToNat]
        refine Lt_append Try.underlying22 Try.underlying22 (by simp) sz47 by47 (by decide) zr47 rfl _ (n := cs.length) (m := 1) (cs := cds cs) (ds := x.cells) (ho29.make hb30) (fun K => len_slice _ _ _ K) (fun K => first_slice (w := 6) (n := 1) (cs := x.cells) ⟨rfl, .inr ⟨b30, 0, 1, _, _, _, rfl, hbA, by simp, by simp⟩⟩ K) rfl (by show PlainL x.cells; exact plA) (by omega) ?_
        intro v31 H31 rs31 hg31 ho31 hr31
        have nr5 : rs ≠ some b5 := fun e => (hrs b5 e).2 rfl
        have nrp : rs ≠ some p := fun e => by have h1 := (hrs p e).1; rw [hpk] at h1; cases h1
        have k31_b5 := hg31.known b5 _ hbA nr5
        have hkb31 : KeepBut H10 p H31 := fun b o hb hn => hg31.known b o (hkb29.put (KeepBut.none hkb29 hb30 hp29) _ b o hb hn) (fun e => by have h1 := (hrs b e).1; rw [hb] at h1; cases h1)
        have f31 : ∀ r, rs31 = some r → H10 r = none ∧ r ≠ b5 := fun r hr => by
          rcases hr31 r hr with h | h
          · exact hrs r h
          · have hn30 : H29 r = none := by
              by_cases e : r = b30
              · subst e; exact hb30
              · rwa [upd_ne _ _ e] at h
            exact ⟨KeepBut.none hkb29 hn30 hp29, fun e => by subst e; rw [kH29_b5] at hn30; cases hn30⟩
        have hr31_ : RD H31 p a2 c2 l2 bad2 := hr2.keep (fun o ho => hg31.known p o (by rw [upd_ne _ _ (ne_of_none hp29 hb30)]; exact ho) nrp) (fun A o hA ho => hg31.known A.block o (by rw [upd_ne _ _ (ne_of_none ho hb30)]; exact ho) (fun e => by
          obtain ⟨A0, hA0, hbl⟩ := (hsb.trans hsb2) A hA
          obtain ⟨_, _, cc0, hc0, _⟩ := hA10 A0 hA0
          have h1 := (hrs _ e).1
          rw [← hbl, hc0] at h1; cases h1))
        have lR31 : Le R5 H31 := by rw [hR5]; exact le_put (le_empty _) k31_b5
        obtain ⟨a31, c31, rfl⟩ := ho31.holds.form
        refine hK _ _ ?_; clear hK K
        apply TW_pure rfl (lt_some (by decide)) rfl
        · intro r
          simp only [x_fieldAddr, fa24_1, add_mk, Nat.reduceAdd, Nat.zero_add, eX, ↓reduceIte, Nat.reduceEqDiff]
          exact ⟨rfl, Le.refl _⟩
        simp only [eX, ↓reduceIte, Nat.reduceEqDiff, Int.reduceToNat]
        refine TW_last rfl (lt_none) rfl (fun K hK r => ?_)
        simp only [x_store, eX, ↓reduceIte, Nat.reduceEqDiff, Int.reduceToNat]
        refine Lt_storeAt1 sz22 hbA bdA plA fzA ?_
        try simp only [setL0, setL1, setL2, setL3, setL4, setL5, setL6, setL7, setL8, setL9]
        try simp only [eX, ↓reduceIte, Nat.reduceEqDiff, Int.reduceToNat]
        refine hK _ _ ?_; clear hK K
        refine TW_nil ?_
        try simp only [Ex.thnH, Ex.inBlockH, ↓reduceIte, Nat.reduceEqDiff]
        refine ⟨l2.length, by omega, cs ++ [x], .slice a31 _ c31, rs31, l2, bad2, a2, c2, rfl, ?_, by simp only [List.length_append, List.length_singleton]; omega, ?_, f31, ?_, hB2, ?_, hsb.trans hsb2, hbA, hdsp.step (by omega) hps2, rfl, rfl, rfl, rfl, rfl, trivial⟩
        · intro z hz
          rcases List.mem_append.1 hz with hz | hz
          · exact hcs z hz
          · rw [List.mem_singleton.1 hz]; exact hxo
        · rw [List.length_append, List.length_singleton, cds, List.flatMap_append]; simpa using ho31.upd (fun e => (f31 b5 e).2 rfl)
        · refine hr31_.keep (fun o ho => by rw [upd_ne _ _ (Ne.symm np_b5)]; exact ho) (fun A o hA ho => ?_)
          rw [upd_ne]; exact ho
          intro e
          obtain ⟨A0, hA0, hbl⟩ := (hsb.trans hsb2) A hA
          obtain ⟨_, _, cc0, hc0, _⟩ := hA10 A0 hA0
          rw [hbl, e, f5_H10] at hc0; cases hc0
        · exact hkb31.put f5_H10 _
    · first
      | (exfalso; exact cnA c25; done)
      | skip
        (try simp only [decide_eq_true_eq, decide_eq_false_iff_not, Bool.not_eq_true, Bool.not_eq_false, Bool.and_eq_true, Bool.or_eq_true, Bool.or_eq_false_iff, Bool.not_eq_true, Bool.not_eq_eq_eq_not, Bool.not_true, Bool.not_false] at c25)
        have hend : ¬ ((cs.length : Int) < ((rcN r15 % 4611686018427387904 : Nat) : Int)) ∨ l1.length = 0 := by first | (left; omega) | (right; omega)
        refine CW_exit ?_
        try simp only [Ex.thnH, Ex.inBlockH, ↓reduceIte, Nat.reduceEqDiff]
        refine hK4 _ _ ?_; try clear hK4 K4
        refine CW_seq (fun K8 hK8 => ?_)
        refine CW_seq (fun K9 hK9 => ?_)
        refine CW_region ?_
        refine OW_opS (fun K hK r => ?_)
        simp only [x_load, eX, ↓reduceIte, Nat.reduceEqDiff, Int.reduceToNat]
        first | refine Lt_loadAll Try.underlying24 rfl sz24 hbA bdA ?_ | refine Lt_loadAtA Try.underlying24 rfl sz24 hbA bdA ?_
        try simp only [List.extract_toArray, List.extract_eq_take_drop, Nat.zero_add, Nat.reduceAdd, Nat.reduceSub, Nat.sub_zero, List.drop_succ_cons, List.drop_zero, List.take_succ_cons, List.take_zero, List.take_nil, List.drop_nil]
        try simp only [eX, ↓reduceIte, Nat.reduceEqDiff, Int.reduceToNat]
        refine hK _ _ ?_; clear hK K
        refine OW_opS (fun K hK r => ?_)
        simp only [x_callF _ bd14, List.map_toArray, List.map_cons, List.map_nil, eX, ↓reduceIte, Nat.reduceEqDiff, Int.reduceToNat]
        refine (encode_ok _ _ _ cs (hox.holds) (by omega) hcs).mono ?_
        rintro v35 H35 ⟨vb35, o35, rfl, hl35, ho35, hq35, rs35, hw35, hr35⟩
        have kH35_b5 := hl35 b5 _ hk5
        have kH35_b2 := hl35 b2 _ hk2
        have lH35_H : Le H H35 := Le.trans lH__H hl35
        have hr35_ : RD H35 p a1 c1 l1 bad1 := hr1.le hl35
        obtain ⟨a35, c35, rfl⟩ := hw35.holds.form
        have hlb35 := encB_len (f := ((rcN r12 % 4611686018427387904 : Nat) : Int)) hcs (by omega)
        try simp only [eX, ↓reduceIte, Nat.reduceEqDiff, Int.reduceToNat]
        refine hK _ _ ?_; clear hK K
        refine OW_mv rfl ?_
        refine OW_opS (fun K hK r => ?_)
        simp only [x_extract, i_extract, List.getElem?_toArray, List.getElem?_cons_zero, List.getElem?_cons_succ, orF_some, eX, ↓reduceIte, Nat.reduceEqDiff, Int.reduceToNat]
        refine hK _ _ ?_; clear hK K
        refine OW_opS (fun K hK r => ?_)
        simp only [x_extract, i_extract, List.getElem?_toArray, List.getElem?_cons_zero, List.getElem?_cons_succ, orF_some, eX, ↓reduceIte, Nat.reduceEqDiff, Int.reduceToNat]
        refine hK _ _ ?_; clear hK K
        refine OW_as rfl ?_
        refine OW_as rfl ?_
        refine OW_nil ?_
        try simp only [Ex.thnH, Ex.inBlockH, ↓reduceIte, Nat.reduceEqDiff]
        refine hK9 _ _ ?_; try clear hK9 K9
        refine CW_seq (fun K10 hK10 => ?_)
        refine CW_region ?_
        refine OW_mv rfl ?_
        refine OW_opS (fun K hK r => ?_)
        simp only [x_bin, g_int, g_bool, g_string, g_pointer, g_slice, g_map, g_func, g_nilFunc, g_err, g_ifv, g_iface, g_nil_iface, g_nil_r, g_nil_l, eX, ↓reduceIte, Nat.reduceEqDiff, Int.reduceToNat]
        first | rw [b_err_neq _ _ Try.underlying35] | rw [b_ifv_neq _ _ Try.underlying35] | (rw [e_neq _ _ _ _ (by simp), q_equal]; first | rw [q_iface_nil _ _ _ Try.underlying35] | rw [q_nil_iface _ _ _ Try.underlying35] | rw [q_nil_nil _ _ _ Try.underlying35])
        try simp only [eX, ↓reduceIte, Nat.reduceEqDiff, Int.reduceToNat]
        refine hK _ _ ?_; clear hK K
        refine OW_mv rfl ?_
        (first | refine OW_split (d := 40) rfl (fun g40 => ?_) (fun g40 => ?_) | skip)
        all_goals try (exfalso; exact cnA g40)
        all_goals (try simp only [decide_eq_true_eq, decide_eq_false_iff_not, Bool.not_eq_true, Bool.not_eq_false, Bool.and_eq_true, Bool.or_eq_true, Bool.or_eq_false_iff, Bool.not_eq_true, Bool.not_eq_eq_eq_not, Bool.not_true, Bool.not_false] at g40)
        all_goals
          try simp only [eX, ↓reduceIte, Nat.reduceEqDiff, Int.reduceToNat]
          first
          | refine OW_guardT rfl (lt_some (by decide)) rfl (fun K hK r => ?_)
            simp only [x_move, eX, ↓reduceIte, Nat.reduceEqDiff, Int.reduceToNat]
            refine hK _ _ ?_; clear hK K
          | refine OW_guardF rfl (lt_some (by decide)) rfl ?_
            simp only [eX, ↓reduceIte, Nat.reduceEqDiff, Int.reduceToNat]
          first
          | refine OW_guardT rfl (lt_some (by decide)) rfl (fun K hK r => ?_)
            simp only [x_callF _ bd37, List.map_toArray, List.map_cons, List.map_nil, eX, ↓reduceIte, Nat.reduceEqDiff, Int.reduceToNat]
            refine (rEnd_ok _ p a1 c1 l1 bad1 hr35_).mono ?_
            rintro v H' ⟨rfl, rfl⟩
            try simp only [eX, ↓reduceIte, Nat.reduceEqDiff, Int.reduceToNat]
            refine hK _ _ ?_; clear hK K
          | refine OW_guardF rfl (lt_some (by decide)) rfl ?_
            simp only [eX, ↓reduceIte, Nat.reduceEqDiff, Int.reduceToNat]
          first
          | refine OW_guardT rfl (lt_some (by decide)) rfl (fun K hK r => ?_)
            simp only [x_bin, g_int, g_bool, g_string, g_pointer, g_slice, g_map, g_func, g_nilFunc, g_err, g_ifv, g_iface, g_nil_iface, g_nil_r, g_nil_l, eX, ↓reduceIte, Nat.reduceEqDiff, Int.reduceToNat]
            first | rw [b_err_neq _ _ Try.underlying35] | rw [b_ifv_neq _ _ Try.underlying35] | (rw [e_neq _ _ _ _ (by simp), q_equal]; first | rw [q_iface_nil _ _ _ Try.underlying35] | rw [q_nil_iface _ _ _ Try.underlying35] | rw [q_nil_nil _ _ _ Try.underlying35])
            try simp only [eX, ↓reduceIte, Nat.reduceEqDiff, Int.reduceToNat]
            refine hK _ _ ?_; clear hK K
          | refine OW_guardF rfl (lt_some (by decide)) rfl ?_
            simp only [eX, ↓reduceIte, Nat.reduceEqDiff, Int.reduceToNat]
          refine OW_opS (fun K hK r => ?_)
          simp only [x_pick, l_asBool, HL.ite_bool, if_true, if_false, Bool.false_eq_true, eX, ↓reduceIte, Nat.reduceEqDiff, Int.reduceToNat]
          refine hK _ _ ?_; clear hK K
          refine OW_mv rfl ?_
          (first | refine OW_split (d := 45) rfl (fun g45 => ?_) (fun g45 => ?_) | skip)
          all_goals try (exfalso; exact cnA g45)
          all_goals (try simp only [decide_eq_true_eq, decide_eq_false_iff_not, Bool.not_eq_true, Bool.not_eq_false, Bool.and_eq_true, Bool.or_eq_true, Bool.or_eq_false_iff, Bool.not_eq_true, Bool.not_eq_eq_eq_not, Bool.not_true, Bool.not_false] at g45)
          all_goals
            try simp only [eX, ↓reduceIte, Nat.reduceEqDiff, Int.reduceToNat]
            first
            | refine OW_guardT rfl (lt_some (by decide)) rfl (fun K hK r => ?_)
              simp only [x_move, eX, ↓reduceIte, Nat.reduceEqDiff, Int.reduceToNat]
              refine hK _ _ ?_; clear hK K
            | refine OW_guardF rfl (lt_some (by decide)) rfl ?_
              simp only [eX, ↓reduceIte, Nat.reduceEqDiff, Int.reduceToNat]
            first
            | refine OW_guardT rfl (lt_some (by decide)) rfl (fun K hK r => ?_)
              simp only [x_move, eX, ↓reduceIte, Nat.reduceEqDiff, Int.reduceToNat]
              refine hK _ _ ?_; clear hK K
            | refine OW_guardF rfl (lt_some (by decide)) rfl ?_
              simp only [eX, ↓reduceIte, Nat.reduceEqDiff, Int.reduceToNat]
            first
            | refine OW_guardT rfl (lt_some (by decide)) rfl (fun K hK r => ?_)
              simp only [x_callF _ bd38, List.map_toArray, List.map_cons, List.map_nil, eX, ↓reduceIte, Nat.reduceEqDiff, Int.reduceToNat]
              refine (eqBytes_ok _ _ _ (encB _ cs) B (hw35.holds) (hv.le lhA) (by omega)).mono ?_
              rintro v H' ⟨rfl, rfl⟩
              try simp only [eX, ↓reduceIte, Nat.reduceEqDiff, Int.reduceToNat]
              refine hK _ _ ?_; clear hK K
            | refine OW_guardF rfl (lt_some (by decide)) rfl ?_
              simp only [eX, ↓reduceIte, Nat.reduceEqDiff, Int.reduceToNat]
            first
            | refine OW_guardT rfl (lt_some (by decide)) rfl (fun K hK r => ?_)
              simp only [x_un, u_not, eX, ↓reduceIte, Nat.reduceEqDiff, Int.reduceToNat]
              refine hK _ _ ?_; clear hK K
            | refine OW_guardF rfl (lt_some (by decide)) rfl ?_
              simp only [eX, ↓reduceIte, Nat.reduceEqDiff, Int.reduceToNat]
            refine OW_opS (fun K hK r => ?_)
            simp only [x_pick, l_asBool, HL.ite_bool, if_true, if_false, Bool.false_eq_true, eX, ↓reduceIte, Nat.reduceEqDiff, Int.reduceToNat]
            refine hK _ _ ?_; clear hK K
            refine OW_nil ?_
            try simp only [Ex.thnH, Ex.inBlockH, ↓reduceIte, Nat.reduceEqDiff]
            refine hK10 _ _ ?_; try clear hK10 K10
            refine CW_cond (fun r => rfl) (fun c50 => ?_) (fun c50 => ?_)
            · first
              | (exfalso; exact cnA c50; done)
              | skip
                (try simp only [decide_eq_true_eq, decide_eq_false_iff_not, Bool.not_eq_true, Bool.not_eq_false, Bool.and_eq_true, Bool.or_eq_true, Bool.or_eq_false_iff, Bool.not_eq_true, Bool.not_eq_eq_eq_not, Bool.not_true, Bool.not_false] at c50)
                refine CW_seq (fun K11 hK11 => ?_)
                refine CW_region ?_
                refine OW_opS (fun K hK r => ?_)
                simp only [x_build, bp24, List.map_toArray, List.map_cons, List.map_nil, eX, ↓reduceIte, Nat.reduceEqDiff, Int.reduceToNat]
                simp only [fill_nil, orF_some, List.setIfInBounds_toArray, List.set_cons_zero, List.set_cons_succ]
                try simp only [eX, ↓reduceIte, Nat.reduceEqDiff, Int.reduceToNat]
                refine hK _ _ ?_; clear hK K
                refine OW_opS (fun K hK r => ?_)
                simp only [x_makeInterface, i_makeInterface, Try.underlying40, orF_some, eX, ↓reduceIte, Nat.reduceEqDiff, Int.reduceToNat]
                refine hK _ _ ?_; clear hK K
                refine OW_op rfl (lt_none) (fun K hK r => ?_)
                simp only [x_store, eX, ↓reduceIte, Nat.reduceEqDiff, Int.reduceToNat]
                first | refine Lt_storeAll sz24 bdA hbA bdA plA (by decide) ?_ | refine Lt_storeAtA sz24 bdA hbA bdA plA (by decide) ?_
                try simp only [eX, ↓reduceIte, Nat.reduceEqDiff, Int.reduceToNat]
                refine hK _ _ ?_; clear hK K
                refine OW_as rfl ?_
                refine OW_nil ?_
                try simp only [Ex.thnH, Ex.inBlockH, ↓reduceIte, Nat.reduceEqDiff]
                refine hK11 _ _ ?_; try clear hK11 K11
                refine CW_ret ?_
                try simp only [Ex.thnH, Ex.inBlockH, ↓reduceIte, Nat.reduceEqDiff]
                have hbadd : (∀ (g : Int) (ds : List Cd), (∀ x ∈ ds, x.ok) → GoodP g ds → encP g ds ≠ B) := by
                  intro g ds hd hg he
                  obtain ⟨e1, e2, e3, e4⟩ := hdsp.done hend hd hg he
                  subst e2
                  have hgf : checkP ((rcN r12 % 4611686018427387904 : Nat) : Int) cs = -2 := by rw [e1]; exact hg
                  have hno := ho35.2 hgf
                  have henc : encB ((rcN r12 % 4611686018427387904 : Nat) : Int) cs = B := by unfold encB; rw [if_pos hgf, e1, he]
                  first
                  | (exact absurd henc (by assumption))
                  | (rw [hno] at g40; cases g40; done)
                  | (have hh : (endE bad1 l1).isSome = true := by assumption
                     rw [e3, e4] at hh; exact absurd hh (by decide))
                refine ⟨[_, _], ⟨⟨_, rfl, Lq_loadAll Try.underlying24 rfl sz24 hbA bdA⟩, rfl, trivial⟩, _, Le.refl _, lhA, 0, [], _, some 2, rfl, .inr ⟨rfl, rfl, rfl, hbadd⟩, (fun x hx => by simp at hx), none, OwnS.nil _ _ _, fun r hr => by cases hr⟩
            · first
              | (exfalso; exact cnA c50; done)
              | skip
                (try simp only [decide_eq_true_eq, decide_eq_false_iff_not, Bool.not_eq_true, Bool.not_eq_false, Bool.and_eq_true, Bool.or_eq_true, Bool.or_eq_false_iff, Bool.not_eq_true, Bool.not_eq_eq_eq_not, Bool.not_true, Bool.not_false] at c50)
                refine CW_skip ?_
                try simp only [Ex.thnH, Ex.inBlockH, ↓reduceIte, Nat.reduceEqDiff]
                refine hK8 _ _ ?_; try clear hK8 K8
                refine CW_seq (fun K12 hK12 => ?_)
                refine CW_region ?_
                refine OW_opS (fun K hK r => ?_)
                simp only [x_load, eX, ↓reduceIte, Nat.reduceEqDiff, Int.reduceToNat]
                first | refine Lt_loadAll Try.underlying24 rfl sz24 hbA bdA ?_ | refine Lt_loadAtA Try.underlying24 rfl sz24 hbA bdA ?_
                try simp only [List.extract_toArray, List.extract_eq_take_drop, Nat.zero_add, Nat.reduceAdd, Nat.reduceSub, Nat.sub_zero, List.drop_succ_cons, List.drop_zero, List.take_succ_cons, List.take_zero, List.take_nil, List.drop_nil]
                try simp only [eX, ↓reduceIte, Nat.reduceEqDiff, Int.reduceToNat]
                refine hK _ _ ?_; clear hK K
                refine OW_op rfl (lt_none) (fun K hK r => ?_)
                simp only [x_store, eX, ↓reduceIte, Nat.reduceEqDiff, Int.reduceToNat]
                first | refine Lt_storeAll sz24 bdA hbA bdA plA (by decide) ?_ | refine Lt_storeAtA sz24 bdA hbA bdA plA (by decide) ?_
                try simp only [eX, ↓reduceIte, Nat.reduceEqDiff, Int.reduceToNat]
                refine hK _ _ ?_; clear hK K
                refine OW_as rfl ?_
                refine OW_nil ?_
                try simp only [Ex.thnH, Ex.inBlockH, ↓reduceIte, Nat.reduceEqDiff]
                refine hK12 _ _ ?_; try clear hK12 K12
                refine CW_ret ?_
                try simp only [Ex.thnH, Ex.inBlockH, ↓reduceIte, Nat.reduceEqDiff]
                obtain rfl : o35 = none := by first | assumption | (simp_all; done)
                have hgood : GoodP ((rcN r12 % 4611686018427387904 : Nat) : Int) cs := ho35.1 rfl
                have henc : encP ((rcN r12 % 4611686018427387904 : Nat) : Int) cs = B := by
                  have e : encB ((rcN r12 % 4611686018427387904 : Nat) : Int) cs = encP ((rcN r12 % 4611686018427387904 : Nat) : Int) cs := by unfold encB; exact if_pos hgood
                  rw [← e]; first | assumption | (simp_all; done)
                refine ⟨[_, _], ⟨⟨_, rfl, Lq_loadAll Try.underlying24 rfl sz24 hbA bdA⟩, rfl, trivial⟩, _, Le.refl _, lhA, _, cs, _, none, rfl, .inl ⟨rfl, hgood, henc⟩, hcs, rs, (hox.le hl35).upd (fun e => by have h1 := (hrs b2 e).1; rw [kH10_b2] at h1; cases h1), fun r hr => none_of_le lH10_H (hrs r hr).1⟩

end Go.Proofs.Ytlkopcgoaldpeaa.HL
end
section
namespace Go.Proofs.Ytlkopcgoaldpeaa.HL
open Go Go.Proofs
set_option linter.unusedSimpArgs false
set_option linter.unusedVariables false
attribute [local irreducible] Lt Lq CW OW TW CallH


def cvN (r : Option (Nat × List Int)) : Int := if 100000 < rcN r then -1 else ((rcN r : Nat) : Int)
end Go.Proofs.Ytlkopcgoaldpeaa.HL
end
section
namespace Go.Proofs.Ytlkopcgoaldpeaa.HL
open Go Go.Proofs
set_option linter.unusedSimpArgs false
set_option linter.unusedVariables false
attribute [local irreducible] Lt Lq CW OW TW CallH

end Go.Proofs.Ytlkopcgoaldpeaa.HL
end
section
namespace Go.Proofs.Ytlkopcgoaldpeaa.HL
open Go Go.Proofs
set_option linter.unusedSimpArgs false
set_option linter.unusedVariables false
attribute [local irreducible] Lt Lq CW OW TW CallH

end Go.Proofs.Ytlkopcgoaldpeaa.HL
end
section
namespace Go.Proofs.Ytlkopcgoaldpeaa.HL
open Go Go.Proofs
set_option linter.unusedSimpArgs false
set_option linter.unusedVariables false
attribute [local irreducible] Lt Lq CW OW TW CallH

end Go.Proofs.Ytlkopcgoaldpeaa.HL
end
section
namespace Go.Proofs.Ytlkopcgoaldpeaa.HL
open Go Go.Proofs
set_option linter.unusedSimpArgs false
set_option linter.unusedVariables false
attribute [local irreducible] Lt Lq CW OW TW CallH

end Go.Proofs.Ytlkopcgoaldpeaa.HL
end
section
namespace Go.Proofs.Ytlkopcgoaldpeaa.HL
open Go Go.Proofs
set_option linter.unusedSimpArgs false
set_option linter.unusedVariables false
attribute [local irreducible] Lt Lq CW OW TW CallH

set_option maxRecDepth 100000 in
set_option maxHeartbeats 1000000 in
theorem num_Same (H : Hp) (va vb : Value) (n m : Nat) (a b : List Int) (ha : Holds H 1 va n (u8s a)) (hb : Holds H 1 vb m (u8s b)) (wa : ByteL a) (wb : ByteL b) :
    CallH Try.prog 19 #[va, vb] H (fun v H' => v = .bool (decide (a = b)) ∧ H' = H) := by
  refine CallH_enter (l := [_, _]) (rl := [.tmp 4]) (n := 10) Try.func19 rfl rfl rfl rfl rfl ?_
  simp only [envOf, Nat.reduceAdd]
  refine CW_seq (fun K1 hK1 => ?_)
  refine CW_region ?_
  refine OW_as rfl ?_
  refine OW_nil ?_
  try simp only [Ex.thnH, Ex.inBlockH, ↓reduceIte, Nat.reduceEqDiff]
  refine hK1 _ _ ?_; try clear hK1 K1
  refine CW_seq (fun K2 hK2 => ?_)
  refine CW_region ?_
  refine OW_mv rfl ?_
  refine OW_opS (fun K hK r => ?_)
  simp only [x_convert, eX, ↓reduceIte, Nat.reduceEqDiff, Int.reduceToNat]
  refine Lt_convBS Try.underlying33 Try.underlying5 Try.underlying9 hdA ?_
  try simp only [eX, ↓reduceIte, Nat.reduceEqDiff, Int.reduceToNat]
  refine hK _ _ ?_; clear hK K
  refine OW_mv rfl ?_
  refine OW_opS (fun K hK r => ?_)
  simp only [x_convert, eX, ↓reduceIte, Nat.reduceEqDiff, Int.reduceToNat]
  refine Lt_convBS Try.underlying33 Try.underlying5 Try.underlying9 hdA ?_
  try simp only [eX, ↓reduceIte, Nat.reduceEqDiff, Int.reduceToNat]
  refine hK _ _ ?_; clear hK K
  refine OW_opS (fun K hK r => ?_)
  simp only [x_bin, g_string, b_seql, eX, ↓reduceIte, Nat.reduceEqDiff, Int.reduceToNat]
  refine hK _ _ ?_; clear hK K
  refine OW_as rfl ?_
  refine OW_nil ?_
  try simp only [Ex.thnH, Ex.inBlockH, ↓reduceIte, Nat.reduceEqDiff]
  refine hK2 _ _ ?_; try clear hK2 K2
  refine CW_ret ?_
  try simp only [Ex.thnH, Ex.inBlockH, ↓reduceIte, Nat.reduceEqDiff]
  refine ⟨[_], ⟨rfl, trivial⟩, H, Le.refl _, ?_, rfl⟩
  show Value.bool _ = _
  rw [strOf_beq wa wb]


end Go.Proofs.Ytlkopcgoaldpeaa.HL
end
section
namespace Go.Proofs.Ytlkopcgoaldpeaa.HL
open Go Go.Proofs
set_option linter.unusedSimpArgs false
set_option linter.unusedVariables false
attribute [local irreducible] Lt Lq CW OW TW CallH


theorem encP_len {f : Int} {cs : List Cd} (hg : GoodP f cs) (hc : ∀ x ∈ cs, x.ok) : (encP f cs).length ≤ 2000 := by
  have h1 := cnt_wrap_len f
  have hs := hg.spec
  have h2 := cnt_len10 (n := cs.length) (by omega)
  have h3 := fm_len hc
  unfold encP
  simp only [List.length_append]; omega
theorem encB_good {f : Int} {cs : List Cd} (h : checkP f cs = -2) : encB f cs = encP f cs := if_pos h
end Go.Proofs.Ytlkopcgoaldpeaa.HL
end
section
namespace Go.Proofs.Ytlkopcgoaldpeaa.HL
open Go Go.Proofs
set_option linter.unusedSimpArgs false
set_option linter.unusedVariables false
attribute [local irreducible] Lt Lq CW OW TW CallH


theorem cut_take6 (l : List Int) (k : Nat) : ((u8s l).drop (0 * 1)).take ((k - 0) * 1) = u8s (l.take k) := by
  rw [Nat.zero_mul, List.drop_zero, Nat.sub_zero, Nat.mul_one, u8s, u8s, List.map_take]
theorem dec_none {B : List Int} {f : Int} {cs : List Cd} {o : Option Int} (h : (o = none ∧ GoodP f cs ∧ encP f cs = B) ∨ (o = some 2 ∧ f = 0 ∧ cs = [] ∧ (∀ (g : Int) (ds : List Cd), (∀ x ∈ ds, x.ok) → GoodP g ds → encP g ds ≠ B))) (hn : ∀ (g : Int) (ds : List Cd), GoodP g ds → encP g ds ≠ B) : o = some 2 := by
  rcases h with ⟨_, h, e⟩ | ⟨h, _⟩
  · exact absurd e (hn f cs h)
  · exact h
theorem errOk2 {o : Option Int} (h : o = some 2) : errOk o := fun k hk => by subst h; cases hk; decide
theorem cut_mod {cut n : Int} (hn : 0 < n) (h2 : n ≤ 100000) : 0 ≤ (IntKind.u64.wrap cut).tmod n ∧ (IntKind.u64.wrap cut).tmod n < n := by
  have h0 := u64_nonneg cut
  rw [Int.tmod_eq_emod_of_nonneg h0]
  exact ⟨Int.emod_nonneg _ (by omega), Int.emod_lt_of_pos _ hn⟩

set_option maxRecDepth 100000 in
set_option maxHeartbeats 8000000 in
theorem lawCuts (H : Hp) (fa fb : Int) (va vb : Value) (A B : List Cd) (cut : Int) (ha : Holds H 6 va A.length (cds A)) (hb : Holds H 6 vb B.length (cds B)) (hoA : ∀ x ∈ A, x.ok) (hoB : ∀ x ∈ B, x.ok) : CallH Try.prog 6 #[.agg #[.int .i64 fa, va], .agg #[.int .i64 fb, vb], .int .i64 cut] H (fun v H' => v = .bool true ∧ Le H H') := by
  refine CallH_enter (l := [_, _, _]) (rl := [.tmp 6]) (n := 83) Try.func6 rfl rfl rfl rfl rfl ?_
  simp only [envOf, Nat.reduceAdd]
  obtain ⟨aa, ca, rfl⟩ := ha.form
  obtain ⟨ab, cb, rfl⟩ := hb.form
  refine CW_seq (fun K1 hK1 => ?_)
  refine CW_region ?_
  refine OW_opS (fun K hK r => ?_)
  simp only [x_box, Value.cells, eX, ↓reduceIte, Nat.reduceEqDiff, Int.reduceToNat]
  intro b3 hb3
  have f3_H : H b3 = none := none_of_le lhA hb3
  try simp only [eX, ↓reduceIte, Nat.reduceEqDiff, Int.reduceToNat]
  refine hK _ _ ?_; clear hK K
  refine OW_opS (fun K hK r => ?_)
  simp only [x_box, Value.cells, eX, ↓reduceIte, Nat.reduceEqDiff, Int.reduceToNat]
  intro b4 hb4
  try have n4_b3 : b3 ≠ b4 := ne_of_none hbA hb4
  have f4_H : H b4 = none := none_of_le lhA hb4
  try simp only [eX, ↓reduceIte, Nat.reduceEqDiff, Int.reduceToNat]
  refine hK _ _ ?_; clear hK K
  refine OW_as rfl ?_
  refine OW_nil ?_
  try simp only [Ex.thnH, Ex.inBlockH, ↓reduceIte, Nat.reduceEqDiff]
  refine hK1 _ _ ?_; try clear hK1 K1
  refine CW_seq (fun K2 hK2 => ?_)
  refine CW_seq (fun K3 hK3 => ?_)
  refine CW_region ?_
  refine OW_opS (fun K hK r => ?_)
  simp only [x_callF _ bd7, List.map_toArray, List.map_cons, List.map_nil, eX, ↓reduceIte, Nat.reduceEqDiff, Int.reduceToNat]
  refine (alive6_ok _).mono ?_
  rintro v11 H11 ⟨rfl, hl11⟩
  try have kH11_b3 := hl11 b3 _ hbA
  try have kH11_b4 := hl11 b4 _ hbA
  have lH11_H : Le H H11 := Le.trans lhA hl11
  try simp only [eX, ↓reduceIte, Nat.reduceEqDiff, Int.reduceToNat]
  refine hK _ _ ?_; clear hK K
  refine OW_opS (fun K hK r => ?_)
  simp only [x_un, u_not, eX, ↓reduceIte, Nat.reduceEqDiff, Int.reduceToNat]
  refine hK _ _ ?_; clear hK K
  refine OW_nil ?_
  try simp only [Ex.thnH, Ex.inBlockH, ↓reduceIte, Nat.reduceEqDiff]
  refine hK3 _ _ ?_; try clear hK3 K3
  refine CW_cond (fun r => rfl) (fun c12 => ?_) (fun c12 => ?_)
  · first
    | (exfalso; exact cnA c12; done)
    | skip
      (try simp only [decide_eq_true_eq, decide_eq_false_iff_not, Bool.not_eq_true, Bool.not_eq_false, Bool.and_eq_true, Bool.or_eq_true, Bool.or_eq_false_iff, Bool.not_eq_true, Bool.not_eq_eq_eq_not, Bool.not_true, Bool.not_false] at c12)
      refine CW_seq (fun K4 hK4 => ?_)
      refine CW_region ?_
      refine OW_as rfl ?_
      refine OW_nil ?_
      try simp only [Ex.thnH, Ex.inBlockH, ↓reduceIte, Nat.reduceEqDiff]
      refine hK4 _ _ ?_; try clear hK4 K4
      refine CW_ret ?_
      try simp only [Ex.thnH, Ex.inBlockH, ↓reduceIte, Nat.reduceEqDiff]
      skip
  · first
    | (exfalso; exact cnA c12; done)
    | skip
      (try simp only [decide_eq_true_eq, decide_eq_false_iff_not, Bool.not_eq_true, Bool.not_eq_false, Bool.and_eq_true, Bool.or_eq_true, Bool.or_eq_false_iff, Bool.not_eq_true, Bool.not_eq_eq_eq_not, Bool.not_true, Bool.not_false] at c12)
      refine CW_skip ?_
      try simp only [Ex.thnH, Ex.inBlockH, ↓reduceIte, Nat.reduceEqDiff]
      refine hK2 _ _ ?_; try clear hK2 K2
      refine CW_seq (fun K5 hK5 => ?_)
      refine CW_seq (fun K6 hK6 => ?_)
      refine CW_region ?_
      refine OW_opS (fun K hK r => ?_)
      simp only [x_load, eX, ↓reduceIte, Nat.reduceEqDiff, Int.reduceToNat]
      first | refine Lt_loadAll Try.underlying24 rfl sz24 hbA bdA ?_ | refine Lt_loadAtA Try.underlying24 rfl sz24 hbA bdA ?_
      try simp only [List.extract_toArray, List.extract_eq_take_drop, Nat.zero_add, Nat.reduceAdd, Nat.reduceSub, Nat.sub_zero, List.drop_succ_cons, List.drop_zero, List.take_succ_cons, List.take_zero, List.take_nil, List.drop_nil]
      try simp only [eX, ↓reduceIte, Nat.reduceEqDiff, Int.reduceToNat]
      refine hK _ _ ?_; clear hK K
      refine OW_opS (fun K hK r => ?_)
      simp only [x_callF _ bd8, List.map_toArray, List.map_cons, List.map_nil, eX, ↓reduceIte, Nat.reduceEqDiff, Int.reduceToNat]
      refine (large_ok _ fa aa A.length ca).mono ?_
      rintro v14 H14 ⟨rfl, hl14⟩
      try have kH14_b3 := hl14 b3 _ hbA
      try have kH14_b4 := hl14 b4 _ hbA
      have lH14_H : Le H H14 := Le.trans lhA hl14
      try simp only [eX, ↓reduceIte, Nat.reduceEqDiff, Int.reduceToNat]
      refine hK _ _ ?_; clear hK K
      refine OW_mv rfl ?_
      (first | refine OW_split (d := 15) rfl (fun g15 => ?_) (fun g15 => ?_) | skip)
      all_goals try (exfalso; exact cnA g15)
      all_goals (try simp only [decide_eq_true_eq, decide_eq_false_iff_not, Bool.not_eq_true, Bool.not_eq_false, Bool.and_eq_true, Bool.or_eq_true, Bool.or_eq_false_iff, Bool.not_eq_true, Bool.not_eq_eq_eq_not, Bool.not_true, Bool.not_false] at g15)
      all_goals
        try simp only [eX, ↓reduceIte, Nat.reduceEqDiff, Int.reduceToNat]
        first
        | refine OW_guardT rfl (lt_some (by decide)) rfl (fun K hK r => ?_)
          simp only [x_load, eX, ↓reduceIte, Nat.reduceEqDiff, Int.reduceToNat]
          first | refine Lt_loadAll Try.underlying24 rfl sz24 hbA bdA ?_ | refine Lt_loadAtA Try.underlying24 rfl sz24 hbA bdA ?_
          try simp only [List.extract_toArray, List.extract_eq_take_drop, Nat.zero_add, Nat.reduceAdd, Nat.reduceSub, Nat.sub_zero, List.drop_succ_cons, List.drop_zero, List.take_succ_cons, List.take_zero, List.take_nil, List.drop_nil]
          try simp only [eX, ↓reduceIte, Nat.reduceEqDiff, Int.reduceToNat]
          refine hK _ _ ?_; clear hK K
        | refine OW_guardF rfl (lt_some (by decide)) rfl ?_
          simp only [eX, ↓reduceIte, Nat.reduceEqDiff, Int.reduceToNat]
        first
        | refine OW_guardT rfl (lt_some (by decide)) rfl (fun K hK r => ?_)
          simp only [x_callF _ bd8, List.map_toArray, List.map_cons, List.map_nil, eX, ↓reduceIte, Nat.reduceEqDiff, Int.reduceToNat]
          refine (large_ok _ fb ab B.length cb).mono ?_
          rintro v17 H17 ⟨rfl, hl17⟩
          try have kH17_b3 := hl17 b3 _ hbA
          try have kH17_b4 := hl17 b4 _ hbA
          have lH17_H : Le H H17 := Le.trans lhA hl17
          try simp only [eX, ↓reduceIte, Nat.reduceEqDiff, Int.reduceToNat]
          refine hK _ _ ?_; clear hK K
        | refine OW_guardF rfl (lt_some (by decide)) rfl ?_
          simp only [eX, ↓reduceIte, Nat.reduceEqDiff, Int.reduceToNat]
        refine OW_opS (fun K hK r => ?_)
        simp only [x_pick, l_asBool, HL.ite_bool, if_true, if_false, Bool.false_eq_true, eX, ↓reduceIte, Nat.reduceEqDiff, Int.reduceToNat]
        refine hK _ _ ?_; clear hK K
        refine OW_nil ?_
        try simp only [Ex.thnH, Ex.inBlockH, ↓reduceIte, Nat.reduceEqDiff]
        refine hK6 _ _ ?_; try clear hK6 K6
        refine CW_cond (fun r => rfl) (fun c18 => ?_) (fun c18 => ?_)
        · first
          | (exfalso; exact cnA c18; done)
          | skip
            (try simp only [decide_eq_true_eq, decide_eq_false_iff_not, Bool.not_eq_true, Bool.not_eq_false, Bool.and_eq_true, Bool.or_eq_true, Bool.or_eq_false_iff, Bool.not_eq_true, Bool.not_eq_eq_eq_not, Bool.not_true, Bool.not_false] at c18)
            refine CW_seq (fun K7 hK7 => ?_)
            refine CW_region ?_
            refine OW_as rfl ?_
            refine OW_nil ?_
            try simp only [Ex.thnH, Ex.inBlockH, ↓reduceIte, Nat.reduceEqDiff]
            refine hK7 _ _ ?_; try clear hK7 K7
            refine CW_ret ?_
            try simp only [Ex.thnH, Ex.inBlockH, ↓reduceIte, Nat.reduceEqDiff]
            refine ⟨[_], ⟨rfl, trivial⟩, _, Le.refl _, rfl, lhA⟩
        · first
          | (exfalso; exact cnA c18; done)
          | skip
            (try simp only [decide_eq_true_eq, decide_eq_false_iff_not, Bool.not_eq_true, Bool.not_eq_false, Bool.and_eq_true, Bool.or_eq_true, Bool.or_eq_false_iff, Bool.not_eq_true, Bool.not_eq_eq_eq_not, Bool.not_true, Bool.not_false] at c18)
            refine CW_skip ?_
            try simp only [Ex.thnH, Ex.inBlockH, ↓reduceIte, Nat.reduceEqDiff]
            refine hK5 _ _ ?_; try clear hK5 K5
            refine CW_seq (fun K8 hK8 => ?_)
            refine CW_region ?_
            refine OW_opS (fun K hK r => ?_)
            simp only [x_load, eX, ↓reduceIte, Nat.reduceEqDiff, Int.reduceToNat]
            first | refine Lt_loadAll Try.underlying24 rfl sz24 hbA bdA ?_ | refine Lt_loadAtA Try.underlying24 rfl sz24 hbA bdA ?_
            try simp only [List.extract_toArray, List.extract_eq_take_drop, Nat.zero_add, Nat.reduceAdd, Nat.reduceSub, Nat.sub_zero, List.drop_succ_cons, List.drop_zero, List.take_succ_cons, List.take_zero, List.take_nil, List.drop_nil]
            try simp only [eX, ↓reduceIte, Nat.reduceEqDiff, Int.reduceToNat]
            refine hK _ _ ?_; clear hK K
            refine OW_opS (fun K hK r => ?_)
            simp only [x_callF _ bd14, List.map_toArray, List.map_cons, List.map_nil, eX, ↓reduceIte, Nat.reduceEqDiff, Int.reduceToNat]
            refine (encode_ok _ fa _ A (ha.le lhA) (by omega) hoA).mono ?_
            rintro v21 H21 ⟨vb21, o21, rfl, hl21, ho21, hq21, rs21, hw21, hr21⟩
            try have kH21_b3 := hl21 b3 _ hbA
            try have kH21_b4 := hl21 b4 _ hbA
            have lH21_H : Le H H21 := Le.trans lhA hl21
            obtain ⟨a21, c21, rfl, hc21⟩ := hw21.capOk
            try simp only [eX, ↓reduceIte, Nat.reduceEqDiff, Int.reduceToNat]
            refine hK _ _ ?_; clear hK K
            refine OW_mv rfl ?_
            refine OW_opS (fun K hK r => ?_)
            simp only [x_extract, i_extract, List.getElem?_toArray, List.getElem?_cons_zero, List.getElem?_cons_succ, orF_some, eX, ↓reduceIte, Nat.reduceEqDiff, Int.reduceToNat]
            refine hK _ _ ?_; clear hK K
            refine OW_opS (fun K hK r => ?_)
            simp only [x_extract, i_extract, List.getElem?_toArray, List.getElem?_cons_zero, List.getElem?_cons_succ, orF_some, eX, ↓reduceIte, Nat.reduceEqDiff, Int.reduceToNat]
            refine hK _ _ ?_; clear hK K
            refine OW_as rfl ?_
            refine OW_as rfl ?_
            refine OW_nil ?_
            try simp only [Ex.thnH, Ex.inBlockH, ↓reduceIte, Nat.reduceEqDiff]
            refine hK8 _ _ ?_; try clear hK8 K8
            refine CW_seq (fun K9 hK9 => ?_)
            refine CW_region ?_
            refine OW_opS (fun K hK r => ?_)
            simp only [x_load, eX, ↓reduceIte, Nat.reduceEqDiff, Int.reduceToNat]
            first | refine Lt_loadAll Try.underlying24 rfl sz24 hbA bdA ?_ | refine Lt_loadAtA Try.underlying24 rfl sz24 hbA bdA ?_
            try simp only [List.extract_toArray, List.extract_eq_take_drop, Nat.zero_add, Nat.reduceAdd, Nat.reduceSub, Nat.sub_zero, List.drop_succ_cons, List.drop_zero, List.take_succ_cons, List.take_zero, List.take_nil, List.drop_nil]
            try simp only [eX, ↓reduceIte, Nat.reduceEqDiff, Int.reduceToNat]
            refine hK _ _ ?_; clear hK K
            refine OW_opS (fun K hK r => ?_)
            simp only [x_callF _ bd14, List.map_toArray, List.map_cons, List.map_nil, eX, ↓reduceIte, Nat.reduceEqDiff, Int.reduceToNat]
            refine (encode_ok _ fb _ B (hb.le lhA) (by omega) hoB).mono ?_
            rintro v26 H26 ⟨vb26, o26, rfl, hl26, ho26, hq26, rs26, hw26, hr26⟩
            try have kH26_b3 := hl26 b3 _ hbA
            try have kH26_b4 := hl26 b4 _ hbA
            have lH26_H : Le H H26 := Le.trans lhA hl26
            obtain ⟨a26, c26, rfl, hc26⟩ := hw26.capOk
            have hw21_ := hw21.le hl26
            try simp only [eX, ↓reduceIte, Nat.reduceEqDiff, Int.reduceToNat]
            refine hK _ _ ?_; clear hK K
            refine OW_mv rfl ?_
            refine OW_opS (fun K hK r => ?_)
            simp only [x_extract, i_extract, List.getElem?_toArray, List.getElem?_cons_zero, List.getElem?_cons_succ, orF_some, eX, ↓reduceIte, Nat.reduceEqDiff, Int.reduceToNat]
            refine hK _ _ ?_; clear hK K
            refine OW_opS (fun K hK r => ?_)
            simp only [x_extract, i_extract, List.getElem?_toArray, List.getElem?_cons_zero, List.getElem?_cons_succ, orF_some, eX, ↓reduceIte, Nat.reduceEqDiff, Int.reduceToNat]
            refine hK _ _ ?_; clear hK K
            refine OW_as rfl ?_
            refine OW_as rfl ?_
            refine OW_nil ?_
            try simp only [Ex.thnH, Ex.inBlockH, ↓reduceIte, Nat.reduceEqDiff]
            refine hK9 _ _ ?_; try clear hK9 K9
            refine CW_seq (fun K10 hK10 => ?_)
            refine CW_seq (fun K11 hK11 => ?_)
            refine CW_region ?_
            refine OW_mv rfl ?_
            refine OW_opS (fun K hK r => ?_)
            simp only [x_bin, g_int, g_bool, g_string, g_pointer, g_slice, g_map, g_func, g_nilFunc, g_err, g_ifv, g_iface, g_nil_iface, g_nil_r, g_nil_l, eX, ↓reduceIte, Nat.reduceEqDiff, Int.reduceToNat]
            first | rw [b_err_neq _ _ Try.underlying35] | rw [b_ifv_neq _ _ Try.underlying35] | (rw [e_neq _ _ _ _ (by simp), q_equal]; first | rw [q_iface_nil _ _ _ Try.underlying35] | rw [q_nil_iface _ _ _ Try.underlying35] | rw [q_nil_nil _ _ _ Try.underlying35])
            try simp only [eX, ↓reduceIte, Nat.reduceEqDiff, Int.reduceToNat]
            refine hK _ _ ?_; clear hK K
            refine OW_mv rfl ?_
            (first | refine OW_split (d := 31) rfl (fun g31 => ?_) (fun g31 => ?_) | skip)
            all_goals try (exfalso; exact cnA g31)
            all_goals (try simp only [decide_eq_true_eq, decide_eq_false_iff_not, Bool.not_eq_true, Bool.not_eq_false, Bool.and_eq_true, Bool.or_eq_true, Bool.or_eq_false_iff, Bool.not_eq_true, Bool.not_eq_eq_eq_not, Bool.not_true, Bool.not_false] at g31)
            all_goals
              try simp only [eX, ↓reduceIte, Nat.reduceEqDiff, Int.reduceToNat]
              first
              | refine OW_guardT rfl (lt_some (by decide)) rfl (fun K hK r => ?_)
                simp only [x_move, eX, ↓reduceIte, Nat.reduceEqDiff, Int.reduceToNat]
                refine hK _ _ ?_; clear hK K
              | refine OW_guardF rfl (lt_some (by decide)) rfl ?_
                simp only [eX, ↓reduceIte, Nat.reduceEqDiff, Int.reduceToNat]
              first
              | refine OW_guardT rfl (lt_some (by decide)) rfl (fun K hK r => ?_)
                simp only [x_bin, g_int, g_bool, g_string, g_pointer, g_slice, g_map, g_func, g_nilFunc, g_err, g_ifv, g_iface, g_nil_iface, g_nil_r, g_nil_l, eX, ↓reduceIte, Nat.reduceEqDiff, Int.reduceToNat]
                first | rw [b_err_neq _ _ Try.underlying35] | rw [b_ifv_neq _ _ Try.underlying35] | (rw [e_neq _ _ _ _ (by simp), q_equal]; first | rw [q_iface_nil _ _ _ Try.underlying35] | rw [q_nil_iface _ _ _ Try.underlying35] | rw [q_nil_nil _ _ _ Try.underlying35])
                try simp only [eX, ↓reduceIte, Nat.reduceEqDiff, Int.reduceToNat]
                refine hK _ _ ?_; clear hK K
              | refine OW_guardF rfl (lt_some (by decide)) rfl ?_
                simp only [eX, ↓reduceIte, Nat.reduceEqDiff, Int.reduceToNat]
              refine OW_opS (fun K hK r => ?_)
              simp only [x_pick, l_asBool, HL.ite_bool, if_true, if_false, Bool.false_eq_true, eX, ↓reduceIte, Nat.reduceEqDiff, Int.reduceToNat]
              refine hK _ _ ?_; clear hK K
              refine OW_mv rfl ?_
              (first | refine OW_split (d := 35) rfl (fun g35 => ?_) (fun g35 => ?_) | skip)
              all_goals try (exfalso; exact cnA g35)
              all_goals (try simp only [decide_eq_true_eq, decide_eq_false_iff_not, Bool.not_eq_true, Bool.not_eq_false, Bool.and_eq_true, Bool.or_eq_true, Bool.or_eq_false_iff, Bool.not_eq_true, Bool.not_eq_eq_eq_not, Bool.not_true, Bool.not_false] at g35)
              all_goals
                try simp only [eX, ↓reduceIte, Nat.reduceEqDiff, Int.reduceToNat]
                first
                | refine OW_guardT rfl (lt_some (by decide)) rfl (fun K hK r => ?_)
                  simp only [x_move, eX, ↓reduceIte, Nat.reduceEqDiff, Int.reduceToNat]
                  refine hK _ _ ?_; clear hK K
                | refine OW_guardF rfl (lt_some (by decide)) rfl ?_
                  simp only [eX, ↓reduceIte, Nat.reduceEqDiff, Int.reduceToNat]
                first
                | refine OW_guardT rfl (lt_some (by decide)) rfl (fun K hK r => ?_)
                  simp only [x_builtin, l_len, List.map_toArray, List.map_cons, List.map_nil, i_len_slice _ _ Try.underlying33, eX, ↓reduceIte, Nat.reduceEqDiff, Int.reduceToNat]
                  refine hK _ _ ?_; clear hK K
                | refine OW_guardF rfl (lt_some (by decide)) rfl ?_
                  simp only [eX, ↓reduceIte, Nat.reduceEqDiff, Int.reduceToNat]
                first
                | refine OW_guardT rfl (lt_some (by decide)) rfl (fun K hK r => ?_)
                  simp (disch := (first | omega | decide)) only [x_bin, g_int, b_eql, dec_lt_t, dec_lt_f, dec_le_t, dec_le_f, dec_eq_t, dec_eq_f, Bool.not_true, Bool.not_false, eX, ↓reduceIte, Nat.reduceEqDiff, Int.reduceToNat]
                  refine hK _ _ ?_; clear hK K
                | refine OW_guardF rfl (lt_some (by decide)) rfl ?_
                  simp only [eX, ↓reduceIte, Nat.reduceEqDiff, Int.reduceToNat]
                refine OW_opS (fun K hK r => ?_)
                simp only [x_pick, l_asBool, HL.ite_bool, if_true, if_false, Bool.false_eq_true, eX, ↓reduceIte, Nat.reduceEqDiff, Int.reduceToNat]
                refine hK _ _ ?_; clear hK K
                refine OW_nil ?_
                try simp only [Ex.thnH, Ex.inBlockH, ↓reduceIte, Nat.reduceEqDiff]
                refine hK11 _ _ ?_; try clear hK11 K11
                refine CW_cond (fun r => rfl) (fun c39 => ?_) (fun c39 => ?_)
                · first
                  | (exfalso; exact cnA c39; done)
                  | skip
                    have q39 := c39
                    refine CW_seq (fun K12 hK12 => ?_)
                    refine CW_region ?_
                    refine OW_mv rfl ?_
                    refine OW_opS (fun K hK r => ?_)
                    simp only [x_bin, g_int, g_bool, g_string, g_pointer, g_slice, g_map, g_func, g_nilFunc, g_err, g_ifv, g_iface, g_nil_iface, g_nil_r, g_nil_l, eX, ↓reduceIte, Nat.reduceEqDiff, Int.reduceToNat]
                    first | rw [b_err_neq _ _ Try.underlying35] | rw [b_ifv_neq _ _ Try.underlying35] | (rw [e_neq _ _ _ _ (by simp), q_equal]; first | rw [q_iface_nil _ _ _ Try.underlying35] | rw [q_nil_iface _ _ _ Try.underlying35] | rw [q_nil_nil _ _ _ Try.underlying35])
                    try simp only [eX, ↓reduceIte, Nat.reduceEqDiff, Int.reduceToNat]
                    refine hK _ _ ?_; clear hK K
                    refine OW_mv rfl ?_
                    (first | refine OW_split (d := 42) rfl (fun g42 => ?_) (fun g42 => ?_) | skip)
                    all_goals try (exfalso; exact cnA g42)
                    all_goals (try simp only [decide_eq_true_eq, decide_eq_false_iff_not, Bool.not_eq_true, Bool.not_eq_false, Bool.and_eq_true, Bool.or_eq_true, Bool.or_eq_false_iff, Bool.not_eq_true, Bool.not_eq_eq_eq_not, Bool.not_true, Bool.not_false] at g42)
                    all_goals
                      try simp only [eX, ↓reduceIte, Nat.reduceEqDiff, Int.reduceToNat]
                      first
                      | refine OW_guardT rfl (lt_some (by decide)) rfl (fun K hK r => ?_)
                        simp only [x_move, eX, ↓reduceIte, Nat.reduceEqDiff, Int.reduceToNat]
                        refine hK _ _ ?_; clear hK K
                      | refine OW_guardF rfl (lt_some (by decide)) rfl ?_
                        simp only [eX, ↓reduceIte, Nat.reduceEqDiff, Int.reduceToNat]
                      first
                      | refine OW_guardT rfl (lt_some (by decide)) rfl (fun K hK r => ?_)
                        simp only [x_bin, g_int, g_bool, g_string, g_pointer, g_slice, g_map, g_func, g_nilFunc, g_err, g_ifv, g_iface, g_nil_iface, g_nil_r, g_nil_l, eX, ↓reduceIte, Nat.reduceEqDiff, Int.reduceToNat]
                        first | rw [b_err_neq _ _ Try.underlying35] | rw [b_ifv_neq _ _ Try.underlying35] | (rw [e_neq _ _ _ _ (by simp), q_equal]; first | rw [q_iface_nil _ _ _ Try.underlying35] | rw [q_nil_iface _ _ _ Try.underlying35] | rw [q_nil_nil _ _ _ Try.underlying35])
                        try simp only [eX, ↓reduceIte, Nat.reduceEqDiff, Int.reduceToNat]
                        refine hK _ _ ?_; clear hK K
                      | refine OW_guardF rfl (lt_some (by decide)) rfl ?_
                        simp only [eX, ↓reduceIte, Nat.reduceEqDiff, Int.reduceToNat]
                      refine OW_opS (fun K hK r => ?_)
                      simp only [x_pick, l_asBool, HL.ite_bool, if_true, if_false, Bool.false_eq_true, eX, ↓reduceIte, Nat.reduceEqDiff, Int.reduceToNat]
                      refine hK _ _ ?_; clear hK K
                      refine OW_as rfl ?_
                      refine OW_nil ?_
                      try simp only [Ex.thnH, Ex.inBlockH, ↓reduceIte, Nat.reduceEqDiff]
                      refine hK12 _ _ ?_; try clear hK12 K12
                      refine CW_ret ?_
                      try simp only [Ex.thnH, Ex.inBlockH, ↓reduceIte, Nat.reduceEqDiff]
                      refine ⟨[_], ⟨rfl, trivial⟩, _, Le.refl _, ?_, lhA⟩
                      show Value.bool _ = _
                      first
                      | rfl
                      | (congr 1; assumption)
                      | (exfalso
                         have e1 : o21 = none := by cases o21 with
                           | none => rfl
                           | some b => simp at g31
                         have hgA : checkP fa A = -2 := ho21.1 e1
                         rw [encB_good hgA] at q39
                         have h1 := encP_pos (f := fa) (cs := A)
                         have h0 : (encP fa A).length = 0 := by simpa using q39
                         omega)
                      | (simp_all; done)
                · first
                  | (exfalso; exact cnA c39; done)
                  | skip
                    obtain rfl : o21 = none := by
                      cases o21 with
                      | none => rfl
                      | some b => exfalso; revert c39; simp_all
                    obtain rfl : o26 = none := by
                      cases o26 with
                      | none => rfl
                      | some b => exfalso; revert c39; simp_all
                    have hgA : GoodP fa A := ho21.1 rfl
                    have hgB : GoodP fb B := ho26.1 rfl
                    rw [encB_good hgA] at *
                    rw [encB_good hgB] at *
                    have hlA := encP_len hgA hoA
                    have hpA := encP_pos (f := fa) (cs := A)
                    have hmod := cut_mod (cut := cut) (n := ((encP fa A).length : Int)) (by omega) (by omega)
                    have hiff : decide (encP fa A = encP fb B) = decide (fa = fb ∧ A = B) := by
                      rw [Bool.eq_iff_iff]; simp only [decide_eq_true_eq]
                      exact ⟨fun h => encP_inj hgA hgB h, fun ⟨h1, h2⟩ => by rw [h1, h2]⟩
                    refine CW_skip ?_
                    try simp only [Ex.thnH, Ex.inBlockH, ↓reduceIte, Nat.reduceEqDiff]
                    refine hK10 _ _ ?_; try clear hK10 K10
                    refine CW_seq (fun K13 hK13 => ?_)
                    refine CW_seq (fun K14 hK14 => ?_)
                    refine CW_drawE [0, 0, 2, 1, 1, 3, 0] [0, 1, 2, 3, 4, 5, 6] (by kernel_rfl) (by kernel_rfl) (fun R9 hR9 => ?_)
                    apply TW_pure rfl (lt_some (by decide)) rfl
                    · intro r
                      simp only [x_move, eX, ↓reduceIte, Nat.reduceEqDiff]
                      exact ⟨rfl, Le.refl _⟩
                    simp only [eX, ↓reduceIte, Nat.reduceEqDiff, Int.reduceToNat]
                    apply TW_pure rfl (lt_some (by decide)) rfl
                    · intro r
                      simp only [x_move, eX, ↓reduceIte, Nat.reduceEqDiff]
                      exact ⟨rfl, Le.refl _⟩
                    simp only [eX, ↓reduceIte, Nat.reduceEqDiff, Int.reduceToNat]
                    refine TW_chain rfl (lt_some (by decide)) rfl (fun K hK r => ?_)
                    simp only [x_callF _ bd19, List.map_toArray, List.map_cons, List.map_nil, eX, ↓reduceIte, Nat.reduceEqDiff, Int.reduceToNat]
                    refine (num_Same _ _ _ _ _ (encP fa A) (encP fb B) hw21_.holds hw26.holds (encP_bytes _ _) (encP_bytes _ _)).mono ?_
                    rintro v H' ⟨rfl, rfl⟩
                    try simp only [eX, ↓reduceIte, Nat.reduceEqDiff, Int.reduceToNat]
                    refine hK _ _ leA ?_; clear hK K
                    apply TW_look rfl (lt_some (by decide)) rfl
                    · intro r
                      simp only [x_load, eX, ↓reduceIte, Nat.reduceEqDiff]
                      first | refine Lt_loadAll Try.underlying24 rfl sz24 hbA bdA ?_ | refine Lt_loadAtA Try.underlying24 rfl sz24 hbA bdA ?_
                      try simp only [List.extract_toArray, List.extract_eq_take_drop, Nat.zero_add, Nat.reduceAdd, Nat.reduceSub, Nat.sub_zero, List.drop_succ_cons, List.drop_zero, List.take_succ_cons, List.take_zero, List.take_nil, List.drop_nil]
                      exact ⟨rfl, Le.refl _⟩
                    simp only [eX, ↓reduceIte, Nat.reduceEqDiff, Int.reduceToNat]
                    apply TW_look rfl (lt_some (by decide)) rfl
                    · intro r
                      simp only [x_load, eX, ↓reduceIte, Nat.reduceEqDiff]
                      first | refine Lt_loadAll Try.underlying24 rfl sz24 hbA bdA ?_ | refine Lt_loadAtA Try.underlying24 rfl sz24 hbA bdA ?_
                      try simp only [List.extract_toArray, List.extract_eq_take_drop, Nat.zero_add, Nat.reduceAdd, Nat.reduceSub, Nat.sub_zero, List.drop_succ_cons, List.drop_zero, List.take_succ_cons, List.take_zero, List.take_nil, List.drop_nil]
                      exact ⟨rfl, Le.refl _⟩
                    simp only [eX, ↓reduceIte, Nat.reduceEqDiff, Int.reduceToNat]
                    refine TW_last rfl (lt_some (by decide)) rfl (fun K hK r => ?_)
                    simp only [x_callF _ bd12, List.map_toArray, List.map_cons, List.map_nil, eX, ↓reduceIte, Nat.reduceEqDiff, Int.reduceToNat]
                    refine (programs_ok _ fa fb _ _ A B (ha.le lhA) (hb.le lhA) (by omega)).mono ?_
                    rintro v51 H51 ⟨rfl, hl51⟩
                    try have kH51_b3 := hl51 b3 _ hbA
                    try have kH51_b4 := hl51 b4 _ hbA
                    have lH51_H : Le H H51 := Le.trans lhA hl51
                    have lH51_R9 : Le R9 H51 := Le.trans lhA hl51
                    have hx51 := (hw21_.le hl51).holds
                    try simp only [eX, ↓reduceIte, Nat.reduceEqDiff, Int.reduceToNat]
                    refine hK _ _ ?_; clear hK K
                    apply TW_pure rfl (lt_some (by decide)) rfl
                    · intro r
                      simp only [x_bin, g_int, g_bool, g_string, g_pointer, g_slice, g_map, g_func, g_nilFunc, g_iface, g_nil_iface, g_nil_r, g_nil_l, eX, ↓reduceIte, Nat.reduceEqDiff]
                      rw [e_neq _ _ _ _ (by simp)]
                      rw [q_equal, q_bool _ _ Try.underlying4]
                      exact ⟨rfl, Le.refl _⟩
                    simp only [eX, ↓reduceIte, Nat.reduceEqDiff, Int.reduceToNat]
                    refine TW_nil ?_
                    try simp only [Ex.thnH, Ex.inBlockH, ↓reduceIte, Nat.reduceEqDiff]
                    refine hK14 _ _ ?_; try clear hK14 K14
                    refine CW_cond (fun r => rfl) (fun c52 => ?_) (fun c52 => ?_)
                    · first
                      | (exfalso; exact cnA c52; done)
                      | skip
                        have q52 := c52
                        refine CW_seq (fun K15 hK15 => ?_)
                        refine CW_region ?_
                        refine OW_as rfl ?_
                        refine OW_nil ?_
                        try simp only [Ex.thnH, Ex.inBlockH, ↓reduceIte, Nat.reduceEqDiff]
                        refine hK15 _ _ ?_; try clear hK15 K15
                        refine CW_ret ?_
                        try simp only [Ex.thnH, Ex.inBlockH, ↓reduceIte, Nat.reduceEqDiff]
                        exfalso
                        rw [hiff] at q52
                        simp at q52
                    · first
                      | (exfalso; exact cnA c52; done)
                      | skip
                        clear c52
                        refine CW_skip ?_
                        try simp only [Ex.thnH, Ex.inBlockH, ↓reduceIte, Nat.reduceEqDiff]
                        refine hK13 _ _ ?_; try clear hK13 K13
                        refine CW_seq (fun K16 hK16 => ?_)
                        refine CW_region ?_
                        refine OW_mv rfl ?_
                        refine OW_mv rfl ?_
                        refine OW_opS (fun K hK r => ?_)
                        simp (disch := (first | omega | decide)) only [x_convert, c_int _ _ _ _ Try.underlying3 Try.underlying52, wrap_i64, wrap_u64, wrap_u32, wrap_u8, eX, ↓reduceIte, Nat.reduceEqDiff, Int.reduceToNat]
                        refine hK _ _ ?_; clear hK K
                        refine OW_mv rfl ?_
                        refine OW_opS (fun K hK r => ?_)
                        simp only [x_builtin, l_len, List.map_toArray, List.map_cons, List.map_nil, i_len_slice _ _ Try.underlying33, eX, ↓reduceIte, Nat.reduceEqDiff, Int.reduceToNat]
                        refine hK _ _ ?_; clear hK K
                        refine OW_opS (fun K hK r => ?_)
                        simp (disch := (first | omega | decide)) only [x_convert, c_int _ _ _ _ Try.underlying3 Try.underlying52, wrap_i64, wrap_u64, wrap_u32, wrap_u8, eX, ↓reduceIte, Nat.reduceEqDiff, Int.reduceToNat]
                        refine hK _ _ ?_; clear hK K
                        refine OW_opS (fun K hK r => ?_)
                        simp (disch := (first | omega | decide)) only [x_bin, g_int, b_rem, wrap_i64, wrap_u64, wrap_u32, wrap_u8, eX, ↓reduceIte, Nat.reduceEqDiff, Int.reduceToNat]
                        refine hK _ _ ?_; clear hK K
                        refine OW_opS (fun K hK r => ?_)
                        simp (disch := (first | omega | decide)) only [x_convert, c_int _ _ _ _ Try.underlying52 Try.underlying3, wrap_i64, wrap_u64, wrap_u32, wrap_u8, eX, ↓reduceIte, Nat.reduceEqDiff, Int.reduceToNat]
                        refine hK _ _ ?_; clear hK K
                        refine OW_opS (fun K hK r => ?_)
                        simp only [x_slice, Option.map_some, Option.map_none, eX, ↓reduceIte, Nat.reduceEqDiff, Int.reduceToNat]
                        refine Lt_sliceS Try.underlying33 sz5 bound_none (bound_some ixA) bound_none bxA bxA bxA (by simp) ?_
                        try simp only [add_mk, Nat.mul_one, Nat.zero_add, Int.reduceToNat, Nat.reduceSub, Nat.reduceEqDiff, ↓reduceIte]
                        try simp only [eX, ↓reduceIte, Nat.reduceEqDiff, Int.reduceToNat]
                        refine hK _ _ ?_; clear hK K
                        refine OW_opS (fun K hK r => ?_)
                        simp only [x_callF _ bd18, List.map_toArray, List.map_cons, List.map_nil, eX, ↓reduceIte, Nat.reduceEqDiff, Int.reduceToNat]
                        obtain ⟨kc, hkc⟩ : ∃ kc : Nat, ((IntKind.u64.wrap cut).tmod ((encP fa A).length : Int)) = kc := ⟨_, (Int.toNat_of_nonneg hmod.1).symm⟩
                        have hkl : kc < (encP fa A).length := by have := hmod.2; omega
                        simp only [hkc, Int.toNat_natCast]
                        have hcut := Holds.slice (l := 0) (h := kc) (m := c21) hx51 (by omega) (by omega) (by omega)
                        rw [cut_take6] at hcut
                        simp only [Nat.mul_one] at hcut
                        have ekl : kc - 0 = ((encP fa A).take kc).length := by simp; omega
                        rw [ekl] at hcut ⊢
                        refine (decode_ok _ _ ((encP fa A).take kc) hcut ((encP_bytes _ _).take _) (by simp; omega)).mono ?_
                        rintro v63 H63 ⟨hl63, f63, cs63, vc63, o63, rfl, hd63, hok63, rs63, ho63, hr63⟩
                        obtain rfl := dec_none hd63 (fun g ds hg he => encP_cut hgA hg hkl he)
                        try have kH63_b3 := hl63 b3 _ hbA
                        try have kH63_b4 := hl63 b4 _ hbA
                        have lH63_H : Le H H63 := Le.trans lhA hl63
                        have hx63 := hx51.le hl63
                        try simp only [eX, ↓reduceIte, Nat.reduceEqDiff, Int.reduceToNat]
                        refine hK _ _ ?_; clear hK K
                        refine OW_mv rfl ?_
                        refine OW_opS (fun K hK r => ?_)
                        simp only [x_extract, i_extract, List.getElem?_toArray, List.getElem?_cons_zero, List.getElem?_cons_succ, orF_some, eX, ↓reduceIte, Nat.reduceEqDiff, Int.reduceToNat]
                        refine hK _ _ ?_; clear hK K
                        refine OW_opS (fun K hK r => ?_)
                        simp only [x_extract, i_extract, List.getElem?_toArray, List.getElem?_cons_zero, List.getElem?_cons_succ, orF_some, eX, ↓reduceIte, Nat.reduceEqDiff, Int.reduceToNat]
                        refine hK _ _ ?_; clear hK K
                        refine OW_as rfl ?_
                        refine OW_nil ?_
                        try simp only [Ex.thnH, Ex.inBlockH, ↓reduceIte, Nat.reduceEqDiff]
                        refine hK16 _ _ ?_; try clear hK16 K16
                        refine CW_seq (fun K17 hK17 => ?_)
                        refine CW_region ?_
                        refine OW_opS (fun K hK r => ?_)
                        simp only [x_buildSlice, List.map_toArray, List.map_cons, List.map_nil, eX, ↓reduceIte, Nat.reduceEqDiff, Int.reduceToNat]
                        refine Lt_buildSlice (vs := []) Try.underlying33 sz5 zr5 rfl bsA (by first | decide | (simp; done)) ?_
                        simp only [List.flatMap_cons, List.flatMap_nil, Value.cells, List.append_nil, List.cons_append, List.nil_append, List.length_cons, List.length_nil, Nat.zero_add, Nat.reduceAdd]
                        intro b67 hb67
                        try have n67_b3 : b3 ≠ b67 := ne_of_none hbA hb67
                        try have n67_b4 : b4 ≠ b67 := ne_of_none hbA hb67
                        have f67_H : H b67 = none := none_of_le lhA hb67
                        try simp only [eX, ↓reduceIte, Nat.reduceEqDiff, Int.reduceToNat]
                        refine hK _ _ ?_; clear hK K
                        refine OW_mv rfl ?_
                        refine OW_opS (fun K hK r => ?_)
                        simp only [x_builtin, l_append, List.map_toArray, List.map_cons, List.map_nil, eX, ↓reduceIte, Nat.reduceEqDiff, Int.reduceToNat]
                        refine Lt_appendNew Try.underlying33 sz5 by5 (by decide) zr5 rfl _ hbA (hx63.le lhA) (PlainL.ints _ _) (by omega) ?_
                        intro v69 H69 rs69 hg69 ho69 hr69
                        have lH69_H : Le H H69 := hg69.le (H0 := H) lhA (fun r hr => by cases hr; exact f67_H)
                        refine hK _ _ ?_; clear hK K
                        refine OW_mv rfl ?_
                        refine OW_opS (fun K hK r => ?_)
                        simp (disch := (first | omega | decide)) only [x_convert, c_int _ _ _ _ Try.underlying3 Try.underlying5, wrap_i64, wrap_u64, wrap_u32, wrap_u8, eX, ↓reduceIte, Nat.reduceEqDiff, Int.reduceToNat]
                        refine hK _ _ ?_; clear hK K
                        refine OW_opS (fun K hK r => ?_)
                        simp only [x_buildSlice, List.map_toArray, List.map_cons, List.map_nil, eX, ↓reduceIte, Nat.reduceEqDiff, Int.reduceToNat]
                        refine Lt_buildSlice (vs := [_]) Try.underlying33 sz5 zr5 rfl bsA (by first | decide | (simp; done)) ?_
                        simp only [List.flatMap_cons, List.flatMap_nil, Value.cells, List.append_nil, List.cons_append, List.nil_append, List.length_cons, List.length_nil, Nat.zero_add, Nat.reduceAdd]
                        intro b72 hb72
                        try have n72_b3 : b3 ≠ b72 := ne_of_none hbA hb72
                        try have n72_b4 : b4 ≠ b72 := ne_of_none hbA hb72
                        try have n72_b67 : b67 ≠ b72 := ne_of_none hbA hb72
                        have f72_H : H b72 = none := none_of_le lhA hb72
                        try simp only [eX, ↓reduceIte, Nat.reduceEqDiff, Int.reduceToNat]
                        refine hK _ _ ?_; clear hK K
                        refine OW_opS (fun K hK r => ?_)
                        simp only [x_builtin, l_append, List.map_toArray, List.map_cons, List.map_nil, eX, ↓reduceIte, Nat.reduceEqDiff, Int.reduceToNat]
                        rw [show IntKind.u8.wrap cut = cut % 256 from rfl]
                        refine Lt_append1 Try.underlying33 sz5 by5 (by decide) zr5 rfl _ (n := (encP fa A).length) (ho69.make hb72) hbA rfl (by omega) ?_
                        intro v73 H73 rs73 hg73 ho73 hr73
                        have lH73_H : Le H H73 := hg73.le (H0 := H) lhA (fun r hr => by
                          rcases hr69 r hr with h | h
                          · rw [h]; exact f67_H
                          · exact none_of_le lhA h)
                        refine hK _ _ ?_; clear hK K
                        refine OW_opS (fun K hK r => ?_)
                        simp only [x_callF _ bd18, List.map_toArray, List.map_cons, List.map_nil, eX, ↓reduceIte, Nat.reduceEqDiff, Int.reduceToNat]
                        refine (decode_ok _ _ (encP fa A ++ [cut % 256]) (by rw [u8s, List.map_append, List.length_append]; exact ho73.holds) (byteL_append (encP_bytes _ _) (fun z hz => by simp at hz; omega)) (by simp; omega)).mono ?_
                        rintro v74 H74 ⟨hl74, f74, cs74, vc74, o74, rfl, hd74, hok74, rs74, ho74, hr74⟩
                        obtain rfl := dec_none hd74 (fun g ds hg he => encP_more hgA hg he)
                        try have kH74_b3 := hl74 b3 _ hbA
                        try have kH74_b4 := hl74 b4 _ hbA
                        try have kH74_b67 := hl74 b67 _ hbA
                        try have kH74_b72 := hl74 b72 _ hbA
                        have lH74_H : Le H H74 := Le.trans lhA hl74
                        try simp only [eX, ↓reduceIte, Nat.reduceEqDiff, Int.reduceToNat]
                        refine hK _ _ ?_; clear hK K
                        refine OW_mv rfl ?_
                        refine OW_opS (fun K hK r => ?_)
                        simp only [x_extract, i_extract, List.getElem?_toArray, List.getElem?_cons_zero, List.getElem?_cons_succ, orF_some, eX, ↓reduceIte, Nat.reduceEqDiff, Int.reduceToNat]
                        refine hK _ _ ?_; clear hK K
                        refine OW_opS (fun K hK r => ?_)
                        simp only [x_extract, i_extract, List.getElem?_toArray, List.getElem?_cons_zero, List.getElem?_cons_succ, orF_some, eX, ↓reduceIte, Nat.reduceEqDiff, Int.reduceToNat]
                        refine hK _ _ ?_; clear hK K
                        refine OW_as rfl ?_
                        refine OW_nil ?_
                        try simp only [Ex.thnH, Ex.inBlockH, ↓reduceIte, Nat.reduceEqDiff]
                        refine hK17 _ _ ?_; try clear hK17 K17
                        refine CW_seq (fun K18 hK18 => ?_)
                        refine CW_region ?_
                        refine OW_mv rfl ?_
                        refine OW_opS (fun K hK r => ?_)
                        simp only [x_callF _ bd16, List.map_toArray, List.map_cons, List.map_nil, eX, ↓reduceIte, Nat.reduceEqDiff, Int.reduceToNat]
                        refine (num_Is _ (some 2) (errOk2 rfl) 2 (by decide) (by decide)).mono ?_
                        rintro v H' ⟨rfl, rfl⟩
                        try simp only [eX, ↓reduceIte, Nat.reduceEqDiff, Int.reduceToNat]
                        refine hK _ _ ?_; clear hK K
                        refine OW_mv rfl ?_
                        (first | refine OW_split (d := 79) rfl (fun g79 => ?_) (fun g79 => ?_) | skip)
                        all_goals try (exfalso; exact cnA g79)
                        all_goals (try simp only [decide_eq_true_eq, decide_eq_false_iff_not, Bool.not_eq_true, Bool.not_eq_false, Bool.and_eq_true, Bool.or_eq_true, Bool.or_eq_false_iff, Bool.not_eq_true, Bool.not_eq_eq_eq_not, Bool.not_true, Bool.not_false] at g79)
                        all_goals
                          try simp only [eX, ↓reduceIte, Nat.reduceEqDiff, Int.reduceToNat]
                          first
                          | refine OW_guardT rfl (lt_some (by decide)) rfl (fun K hK r => ?_)
                            simp only [x_move, eX, ↓reduceIte, Nat.reduceEqDiff, Int.reduceToNat]
                            refine hK _ _ ?_; clear hK K
                          | refine OW_guardF rfl (lt_some (by decide)) rfl ?_
                            simp only [eX, ↓reduceIte, Nat.reduceEqDiff, Int.reduceToNat]
                          first
                          | refine OW_guardT rfl (lt_some (by decide)) rfl (fun K hK r => ?_)
                            simp only [x_callF _ bd16, List.map_toArray, List.map_cons, List.map_nil, eX, ↓reduceIte, Nat.reduceEqDiff, Int.reduceToNat]
                            refine (num_Is _ (some 2) (errOk2 rfl) 2 (by decide) (by decide)).mono ?_
                            rintro v H' ⟨rfl, rfl⟩
                            try simp only [eX, ↓reduceIte, Nat.reduceEqDiff, Int.reduceToNat]
                            refine hK _ _ ?_; clear hK K
                          | refine OW_guardF rfl (lt_some (by decide)) rfl ?_
                            simp only [eX, ↓reduceIte, Nat.reduceEqDiff, Int.reduceToNat]
                          refine OW_opS (fun K hK r => ?_)
                          simp only [x_pick, l_asBool, HL.ite_bool, if_true, if_false, Bool.false_eq_true, eX, ↓reduceIte, Nat.reduceEqDiff, Int.reduceToNat]
                          refine hK _ _ ?_; clear hK K
                          refine OW_as rfl ?_
                          refine OW_nil ?_
                          try simp only [Ex.thnH, Ex.inBlockH, ↓reduceIte, Nat.reduceEqDiff]
                          refine hK18 _ _ ?_; try clear hK18 K18
                          refine CW_ret ?_
                          try simp only [Ex.thnH, Ex.inBlockH, ↓reduceIte, Nat.reduceEqDiff]
                          refine ⟨[_], ⟨rfl, trivial⟩, _, Le.refl _, ?_, lhA⟩
                          show Value.bool _ = _
                          first | rfl | (simp; done)

end Go.Proofs.Ytlkopcgoaldpeaa.HL
end
