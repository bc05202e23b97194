/- Parts of the proof, one behind the other: P24, P26, P25, P14. -/
import Derived.Test.YtlkopcgoaldpeaaX4
set_option linter.unusedSimpArgs false
set_option linter.unusedVariables false
section
namespace Go.Proofs.Ytlkopcgoaldpeaa.HL
open Go Go.Proofs
set_option linter.unusedSimpArgs false
set_option linter.unusedVariables false
attribute [local irreducible] Lt Lq CW OW TW CallH


/-- what is read of a program's bytes, as far as they are a good one's -/
def DSP (B : List Int) (f n : Int) (cs : List Cd) (l1 : List Int) (bad1 : Bool) : Prop := ∀ (g : Int) (ds : List Cd), (∀ x ∈ ds, x.ok) → GoodP g ds → encP g ds = B →
  f = g ∧ n = ds.length ∧ cs = ds.take cs.length ∧ l1 = (ds.drop cs.length).flatMap encC ∧ bad1 = false
theorem DSP.start {B : List Int} {r1 r2 : Option (Nat × List Int)} (h1 : RCb false B r1) (h2 : RCb r1.isNone (rcL r1) r2) : DSP B ((rcN r1 % 4611686018427387904 : Nat) : Int) ((rcN r2 % 4611686018427387904 : Nat) : Int) [] (rcL r2) r2.isNone := by
  intro g ds hd hg he
  have hs := hg.spec
  rw [encP_good hg, List.append_assoc] at he
  subst he
  obtain rfl := spec_cnt6 (by omega) h1
  simp only [rcL_some, Option.isNone_some] at h2
  obtain rfl := spec_cnt6 (by omega) h2
  simp only [rcN_some, rcL_some, Option.isNone_some, List.length_nil, List.take_zero, List.drop_zero, and_true]
  refine ⟨by omega, by omega⟩
theorem DSP.step {B : List Int} {f n : Int} {cs : List Cd} {l1 l' : List Int} {bad1 bad' : Bool} {x : Cd} (h : DSP B f n cs l1 bad1) (hn : (cs.length : Int) < n)
    (hx : ∀ (x0 : Cd) (b : Int) (r : List Int), x0.ok → goodC x0 b = true → b ≤ 1000 → bad1 = false → l1 = encC x0 ++ r → x = x0 ∧ l' = r ∧ bad' = false) : DSP B f n (cs ++ [x]) l' bad' := by
  intro g ds hd hg he
  obtain ⟨h1, h2, h3, h4, h5⟩ := h g ds hd hg he
  have hlt : cs.length < ds.length := by omega
  obtain ⟨b, hb, hgx⟩ := hg.at hlt
  rw [flat_head _ _ _ default hlt] at h4
  obtain ⟨rfl, rfl, rfl⟩ := hx _ b _ (hd _ (cd_mem hlt)) hgx hb h5 h4
  refine ⟨h1, h2, ?_, by simp, rfl⟩
  rw [List.length_append, List.length_singleton, List.take_succ_eq_append_getElem hlt, ← h3]
  simp [List.getD_eq_getElem?_getD, List.getElem?_eq_getElem hlt]
theorem DSP.done {B : List Int} {f n : Int} {cs : List Cd} {l1 : List Int} {bad1 : Bool} (h : DSP B f n cs l1 bad1) (hc : ¬ ((cs.length : Int) < n) ∨ l1.length = 0) {g : Int} {ds : List Cd} (hd : ∀ x ∈ ds, x.ok) (hg : GoodP g ds) (he : encP g ds = B) : f = g ∧ cs = ds ∧ l1 = [] ∧ bad1 = false := by
  obtain ⟨h1, h2, h3, h4, h5⟩ := h g ds hd hg he
  have hlt : ¬ cs.length < ds.length := by
    intro hlt
    rcases hc with hc | hc
    · omega
    · have := List.eq_nil_of_length_eq_zero hc
      rw [this, flat_head _ _ _ default hlt] at h4
      have := congrArg List.length h4
      have := encC_len1 (ds.getD cs.length default)
      simp at this; rw [List.length_append] at *; simp at *; omega
  refine ⟨h1, ?_, ?_, h5⟩
  · rw [h3, List.take_of_length_le (by omega)]
  · rw [h4, List.drop_of_length_le (by omega)]; rfl
theorem encB_len {f : Int} {cs : List Cd} (hc : ∀ x ∈ cs, x.ok) (h : cs.length ≤ 10000) : (encB f cs).length ≤ 1000000 := by
  unfold encB
  split
  · have h1 := cnt_wrap_len f
    have h2 := cnt_len10 (n := cs.length) (by omega)
    have h3 := fm_len hc
    unfold encP
    simp only [List.length_append]; omega
  · simp
theorem Holds.keepA {H H' : Hp} {w n cap : Nat} {a : Option Addr} {cs : List Value} (h : Holds H w (.slice a n cap) n cs) (k : ∀ A o, a = some A → H A.block = some o → H' A.block = some o) : Holds H' w (.slice a n cap) n cs := by
  obtain ⟨h1, h2 | ⟨b, o, cap', c, T, f, e, h4, h5⟩⟩ := h
  · exact ⟨h1, .inl h2⟩
  · cases e
    exact ⟨h1, .inr ⟨b, o, _, c, T, f, rfl, k _ _ rfl h4, h5⟩⟩
theorem RD.keep {H H' : Hp} {p : Nat} {a : Option Addr} {cap : Nat} {l : List Int} {bad : Bool} (h : RD H p a cap l bad) (hp : ∀ o, H p = some o → H' p = some o) (hA : ∀ A o, a = some A → H A.block = some o → H' A.block = some o) : RD H' p a cap l bad :=
  ⟨hp _ h.1, h.2.1, h.2.2.1.keepA hA, h.2.2.2⟩

set_option maxRecDepth 100000 in
set_option maxHeartbeats 8000000 in
theorem decode_ok (H : Hp) (v : Value) (B : List Int) (hv : Holds H 1 v B.length (u8s B)) (hB : ByteL B) (hl : B.length ≤ 10000) : CallH Try.prog 18 #[v] H (fun v' H' => Le H H' ∧ ∃ (f : Int) (cs : List Cd) (vc : Value) (o : Option Int), v' = .tuple #[.agg #[.int .i64 f, vc], errV o] ∧ ((o = none ∧ GoodP f cs ∧ encP f cs = B) ∨ (o = some 2 ∧ f = 0 ∧ cs = [] ∧ (∀ (g : Int) (ds : List Cd), (∀ x ∈ ds, x.ok) → GoodP g ds → encP g ds ≠ B))) ∧ (∀ x ∈ cs, x.ok) ∧ ∃ rs, OwnS H' 47 6 vc cs.length (cds cs) rs ∧ ∀ r, rs = some r → H r = none) := by
  refine CallH_enter (l := [_]) (rl := [.cell 2 24, .tmp 3]) (n := 54) Try.func18 rfl rfl rfl rfl rfl ?_
  simp only [envOf, Nat.reduceAdd]
  obtain ⟨av, kv, rfl⟩ := hv.form
  refine CW_seq (fun K1 hK1 => ?_)
  refine CW_region ?_
  refine OW_opS (fun K hK r => ?_)
  simp only [x_alloc, zr24, orF_some, Value.cells, eX, ↓reduceIte, Nat.reduceEqDiff, Int.reduceToNat]
  intro b2 hb2
  have f2_H : H b2 = none := none_of_le lhA hb2
  try simp only [eX, ↓reduceIte, Nat.reduceEqDiff, Int.reduceToNat]
  refine hK _ _ ?_; clear hK K
  refine OW_as rfl ?_
  refine OW_nil ?_
  try simp only [Ex.thnH, Ex.inBlockH, ↓reduceIte, Nat.reduceEqDiff]
  refine hK1 _ _ ?_; try clear hK1 K1
  refine CW_seq (fun K2 hK2 => ?_)
  refine CW_region ?_
  refine OW_mv rfl ?_
  refine OW_opS (fun K hK r => ?_)
  simp only [x_callF _ bd33, List.map_toArray, List.map_cons, List.map_nil, eX, ↓reduceIte, Nat.reduceEqDiff, Int.reduceToNat]
  refine (newReader_ok _ _ B (hv.le lhA) (by omega)).mono ?_
  rintro v10 H10 ⟨hl10, p, a10, c10, rfl, hp0, hr10, hA10⟩
  have kH10_b2 := hl10 b2 _ hbA
  have lH10_H : Le H H10 := Le.trans lhA hl10
  have np_b2 : b2 ≠ p := ne_of_none (upd_same _ _ _) hp0
  have fp_H : H p = none := none_of_le lhA hp0
  have hpk := hr10.1
  try simp only [eX, ↓reduceIte, Nat.reduceEqDiff, Int.reduceToNat]
  refine hK _ _ ?_; clear hK K
  refine OW_as rfl ?_
  refine OW_nil ?_
  try simp only [Ex.thnH, Ex.inBlockH, ↓reduceIte, Nat.reduceEqDiff]
  refine hK2 _ _ ?_; try clear hK2 K2
  refine CW_seq (fun K3 hK3 => ?_)
  refine CW_region ?_
  refine OW_mv rfl ?_
  refine OW_opS (fun K hK r => ?_)
  simp only [x_callF _ bd34, List.map_toArray, List.map_cons, List.map_nil, eX, ↓reduceIte, Nat.reduceEqDiff, Int.reduceToNat]
  refine (small_ok _ p a10 c10 B false hr10 hB (by omega)).mono ?_
  rintro v12 H12 ⟨r12, hres12, rfl, a12, c12, hr12, ⟨o12, rfl⟩, hs12⟩
  have hp12 := hr12.1
  have hkb12 : KeepBut H10 p _ := KeepBut.upd H10 p o12
  try simp only [eX, ↓reduceIte, Nat.reduceEqDiff, Int.reduceToNat]
  refine hK _ _ ?_; clear hK K
  refine OW_opS (fun K hK r => ?_)
  simp only [x_build, bp24, List.map_toArray, List.map_cons, List.map_nil, eX, ↓reduceIte, Nat.reduceEqDiff, Int.reduceToNat]
  rw [fill_one rfl clA bdA]
  simp only [fill_nil, orF_some, List.setIfInBounds_toArray, List.set_cons_zero, List.set_cons_succ]
  try simp only [eX, ↓reduceIte, Nat.reduceEqDiff, Int.reduceToNat]
  refine hK _ _ ?_; clear hK K
  refine OW_opS (fun K hK r => ?_)
  simp only [x_alloc, zr24, orF_some, Value.cells, eX, ↓reduceIte, Nat.reduceEqDiff, Int.reduceToNat]
  intro b5 hb5
  try have n5_b2 : b2 ≠ b5 := ne_of_none hbA hb5
  have f5_H : H b5 = none := none_of_le lhA hb5
  have f5_H10 := KeepBut.none hkb12 hb5 hp12
  have np_b5 : b5 ≠ p := fun e => by subst e; rw [hp12] at hb5; cases hb5
  have n25 : b2 ≠ b5 := fun e => by subst e; rw [kH10_b2] at f5_H10; cases f5_H10
  have f5_H : H b5 = none := none_of_le lH10_H f5_H10
  try simp only [eX, ↓reduceIte, Nat.reduceEqDiff, Int.reduceToNat]
  refine hK _ _ ?_; clear hK K
  refine OW_op rfl (lt_none) (fun K hK r => ?_)
  simp only [x_store, eX, ↓reduceIte, Nat.reduceEqDiff, Int.reduceToNat]
  first | refine Lt_storeAll sz24 bdA hbA bdA plA (by decide) ?_ | refine Lt_storeAtA sz24 bdA hbA bdA plA (by decide) ?_
  try simp only [eX, ↓reduceIte, Nat.reduceEqDiff, Int.reduceToNat]
  refine hK _ _ ?_; clear hK K
  refine OW_nil ?_
  try simp only [Ex.thnH, Ex.inBlockH, ↓reduceIte, Nat.reduceEqDiff]
  refine hK3 _ _ ?_; try clear hK3 K3
  refine CW_seq (fun K4 hK4 => ?_)
  refine CW_seq (fun K5 hK5 => ?_)
  refine CW_region ?_
  refine OW_mv rfl ?_
  refine OW_opS (fun K hK r => ?_)
  simp only [x_callF _ bd34, List.map_toArray, List.map_cons, List.map_nil, eX, ↓reduceIte, Nat.reduceEqDiff, Int.reduceToNat]
  refine (small_ok _ p a12 c12 (rcL r12) r12.isNone ((hr12.le (le_upd _ _ _ hb5))) (part_byte hres12 hB) (Nat.le_trans (part_len hres12) (by omega))).mono ?_
  rintro v15 H15 ⟨r15, hres15, rfl, a15, c15, hr15, ⟨o15, rfl⟩, hs15⟩
  have hp15 := hr15.1
  have hkb15 := (hkb12.put f5_H10 (.cells #[.int .i64 ((rcN r12 % 4611686018427387904 : Nat) : Int), .slice none 0 0] 24)).trans (KeepBut.upd _ p o15)
  try simp only [eX, ↓reduceIte, Nat.reduceEqDiff, Int.reduceToNat]
  refine hK _ _ ?_; clear hK K
  refine OW_as rfl ?_
  refine OW_nil ?_
  try simp only [Ex.thnH, Ex.inBlockH, ↓reduceIte, Nat.reduceEqDiff]
  refine hK5 _ _ ?_; try clear hK5 K5
  refine CW_block ?_
  refine CW_loop (fun m e H_ => ∃ (cs : List Cd) (vc : Value) (rs : Option Nat) (l1 : List Int) (bad1 : Bool) (a1 : Option Addr) (c1 : Nat), m = l1.length ∧ (∀ x ∈ cs, x.ok) ∧ cs.length + l1.length ≤ B.length ∧ OwnS H_ 47 6 vc cs.length (cds cs) rs ∧ (∀ r, rs = some r → H10 r = none ∧ r ≠ b5) ∧ RD H_ p a1 c1 l1 bad1 ∧ ByteL l1 ∧ KeepBut H10 p H_ ∧ SameB a10 a1 ∧ H_ b5 = some (.cells #[.int .i64 ((rcN r12 % 4611686018427387904 : Nat) : Int), vc] 24) ∧ DSP B ((rcN r12 % 4611686018427387904 : Nat) : Int) ((rcN r15 % 4611686018427387904 : Nat) : Int) cs l1 bad1 ∧ Env.has [(0, .slice av B.length kv), (2, .pointer (some ⟨b2, 0, none⟩)), (4, .pointer (some ⟨p, 0, none⟩)), (5, .pointer (some ⟨b5, 0, none⟩)), (6, .int .i64 ((rcN r15 % 4611686018427387904 : Nat) : Int))] e) ((rcL r15).length) ?_ ?_
  · skip
    exact ⟨[], _, none, rcL r15, r15.isNone, a15, c15, rfl, (fun x hx => by simp at hx), (by have h1 := part_len hres12; have h2 := part_len hres15; simp only [List.length_nil]; omega), OwnS.nil _ _ _, (fun r hr => by cases hr), hr15, part_byte hres15 (part_byte hres12 hB), hkb15, hs12.trans hs15, hbA, DSP.start hres12 hres15, rfl, rfl, rfl, rfl, rfl, trivial⟩
  intro m_ e_ H_ hI_
  obtain ⟨cs, vc, rs, l1, bad1, a1, c1, rfl, hcs, hcl, hox, hrs, hr1, hB1, hkb, hsb, hk5, hdsp, he⟩ := hI_
  obtain ⟨ac, cc, rfl⟩ := hox.holds.form
  have hk2 := hkb b2 _ kH10_b2 np_b2
  have lH__H : Le H H_ := hkb.le lH10_H fp_H
  refine CW_env he.sub ?_; clear he e_
  refine CW_seq (fun K6 hK6 => ?_)
  refine CW_seq (fun K7 hK7 => ?_)
  refine CW_region ?_
  refine OW_opS (fun K hK r => ?_)
  simp only [x_fieldAddr, fa24_1, add_mk, Nat.reduceAdd, Nat.zero_add, eX, ↓reduceIte, Nat.reduceEqDiff, Int.reduceToNat]
  refine hK _ _ ?_; clear hK K
  refine OW_opS (fun K hK r => ?_)
  simp only [x_load, eX, ↓reduceIte, Nat.reduceEqDiff, Int.reduceToNat]
  refine Lt_loadAt1 Try.underlying22 rfl hbA ldA ?_
  try simp only [eX, ↓reduceIte, Nat.reduceEqDiff, Int.reduceToNat]
  refine hK _ _ ?_; clear hK K
  refine OW_opS (fun K hK r => ?_)
  simp only [x_builtin, l_len, List.map_toArray, List.map_cons, List.map_nil, i_len_slice _ _ Try.underlying22, eX, ↓reduceIte, Nat.reduceEqDiff, Int.reduceToNat]
  refine hK _ _ ?_; clear hK K
  refine OW_mv rfl ?_
  refine OW_opS (fun K hK r => ?_)
  simp (disch := (first | omega | decide)) only [x_bin, g_int, b_lss, dec_lt_t, dec_lt_f, dec_le_t, dec_le_f, dec_eq_t, dec_eq_f, Bool.not_true, Bool.not_false, eX, ↓reduceIte, Nat.reduceEqDiff, Int.reduceToNat]
  refine hK _ _ ?_; clear hK K
  refine OW_mv rfl ?_
  (first | refine OW_split (d := 21) rfl (fun g21 => ?_) (fun g21 => ?_) | skip)
  all_goals try (exfalso; exact cnA g21)
  all_goals (try simp only [decide_eq_true_eq, decide_eq_false_iff_not, Bool.not_eq_true, Bool.not_eq_false, Bool.and_eq_true, Bool.or_eq_true, Bool.or_eq_false_iff, Bool.not_eq_true, Bool.not_eq_eq_eq_not, Bool.not_true, Bool.not_false] at g21)
  all_goals
    try simp only [eX, ↓reduceIte, Nat.reduceEqDiff, Int.reduceToNat]
    first
    | refine OW_guardT rfl (lt_some (by decide)) rfl (fun K hK r => ?_)
      simp only [x_move, eX, ↓reduceIte, Nat.reduceEqDiff, Int.reduceToNat]
      refine hK _ _ ?_; clear hK K
    | refine OW_guardF rfl (lt_some (by decide)) rfl ?_
      simp only [eX, ↓reduceIte, Nat.reduceEqDiff, Int.reduceToNat]
    first
    | refine OW_guardT rfl (lt_some (by decide)) rfl (fun K hK r => ?_)
      simp only [x_callF _ bd35, List.map_toArray, List.map_cons, List.map_nil, eX, ↓reduceIte, Nat.reduceEqDiff, Int.reduceToNat]
      refine (rLeft_ok _ p a1 c1 l1 bad1 hr1).mono ?_
      rintro v H' ⟨rfl, rfl⟩
      try simp only [eX, ↓reduceIte, Nat.reduceEqDiff, Int.reduceToNat]
      refine hK _ _ ?_; clear hK K
    | refine OW_guardF rfl (lt_some (by decide)) rfl ?_
      simp only [eX, ↓reduceIte, Nat.reduceEqDiff, Int.reduceToNat]
    first
    | refine OW_guardT rfl (lt_some (by decide)) rfl (fun K hK r => ?_)
      simp (disch := (first | omega | decide)) only [x_bin, g_int, b_gtr, dec_lt_t, dec_lt_f, dec_le_t, dec_le_f, dec_eq_t, dec_eq_f, Bool.not_true, Bool.not_false, eX, ↓reduceIte, Nat.reduceEqDiff, Int.reduceToNat]
      refine hK _ _ ?_; clear hK K
    | refine OW_guardF rfl (lt_some (by decide)) rfl ?_
      simp only [eX, ↓reduceIte, Nat.reduceEqDiff, Int.reduceToNat]
    refine OW_opS (fun K hK r => ?_)
    simp only [x_pick, l_asBool, HL.ite_bool, if_true, if_false, Bool.false_eq_true, eX, ↓reduceIte, Nat.reduceEqDiff, Int.reduceToNat]
    refine hK _ _ ?_; clear hK K
    refine OW_nil ?_
    try simp only [Ex.thnH, Ex.inBlockH, ↓reduceIte, Nat.reduceEqDiff]
    refine hK7 _ _ ?_; try clear hK7 K7
    refine CW_cond (fun r => rfl) (fun c25 => ?_) (fun c25 => ?_)
    · first
      | (exfalso; exact cnA c25; done)
      | skip
        (try simp only [decide_eq_true_eq, decide_eq_false_iff_not, Bool.not_eq_true, Bool.not_eq_false, Bool.and_eq_true, Bool.or_eq_true, Bool.or_eq_false_iff, Bool.not_eq_true, Bool.not_eq_eq_eq_not, Bool.not_true, Bool.not_false] at c25)
        refine CW_skip ?_
        try simp only [Ex.thnH, Ex.inBlockH, ↓reduceIte, Nat.reduceEqDiff]
        refine hK6 _ _ ?_; try clear hK6 K6
        refine CW_block ?_
        obtain ⟨R5, hR5⟩ : ∃ R : Hp, R = emptyHp.upd b5 (.cells #[.int .i64 ((rcN r12 % 4611686018427387904 : Nat) : Int), .slice ac cs.length cc] 24) := ⟨_, rfl⟩
        refine CW_drawR [0, 1, 0, 2, 2, 3, 0, 3] [0, 1, 2, 3, 4, 5, 6, 7] R5 (by kernel_rfl) (by kernel_rfl) (by subst hR5; exact le_put (le_empty _) hk5) (fun lR5 => ?_)
        apply TW_pure rfl (lt_some (by decide)) rfl
        · intro r
          simp only [x_fieldAddr, fa24_1, add_mk, Nat.reduceAdd, Nat.zero_add, eX, ↓reduceIte, Nat.reduceEqDiff]
          exact ⟨rfl, Le.refl _⟩
        simp only [eX, ↓reduceIte, Nat.reduceEqDiff, Int.reduceToNat]
        apply TW_look rfl (lt_some (by decide)) rfl
        · intro r
          simp only [x_load, eX, ↓reduceIte, Nat.reduceEqDiff]
          refine Lt_loadAt1 Try.underlying22 rfl hbA ldA ?_
          exact ⟨rfl, Le.refl _⟩
        simp only [eX, ↓reduceIte, Nat.reduceEqDiff, Int.reduceToNat]
        apply TW_pure rfl (lt_some (by decide)) rfl
        · intro r
          simp only [x_move, eX, ↓reduceIte, Nat.reduceEqDiff]
          exact ⟨rfl, Le.refl _⟩
        simp only [eX, ↓reduceIte, Nat.reduceEqDiff, Int.reduceToNat]
        refine TW_chain rfl (lt_some (by decide)) rfl (fun K hK r => ?_)
        simp only [x_callF _ bd36, List.map_toArray, List.map_cons, List.map_nil, eX, ↓reduceIte, Nat.reduceEqDiff, Int.reduceToNat]
        refine (code_ok _ p a1 c1 l1 bad1 hr1 hB1 (by omega)).mono ?_
        rintro v29 H29 ⟨x, l2, bad2, a2, c2, rfl, hxo, hr2, hB2, hl2, hkb2, hsb2, hps2⟩
        have kH29_b5 := hkb2 b5 _ hk5 np_b5
        have hkb29 := hkb.trans hkb2
        have lH29_H : Le H H29 := hkb29.le lH10_H fp_H
        have hp29 := hr2.1
        have ho29 : OwnS H29 47 6 (.slice ac cs.length cc) cs.length (cds cs) rs := hox.stay (fun b o hb ho => hkb2 b o ho (fun e => by have h1 := (hrs b hb).1; rw [e, hpk] at h1; cases h1))
        have lR29 : Le R5 H29 := by rw [hR5]; exact le_put (le_empty _) kH29_b5
        try simp only [eX, ↓reduceIte, Nat.reduceEqDiff, Int.reduceToNat]
        refine hK _ _ leA ?_; clear hK K
        refine TW_chain rfl (lt_some (by decide)) rfl (fun K hK r => ?_)
        simp only [x_buildSlice, List.map_toArray, List.map_cons, List.map_nil, eX, ↓reduceIte, Nat.reduceEqDiff, Int.reduceToNat]
        refine Lt_buildSlice (vs := [_]) Try.underlying22 sz47 zr47 rfl bsA (by first | decide | (simp; done)) ?_
        simp only [List.flatMap_cons, List.flatMap_nil, Value.cells, List.append_nil, List.cons_append, List.nil_append, List.length_cons, List.length_nil, Nat.zero_add, Nat.reduceAdd]
        intro b30 hb30
        try have n30_b2 : b2 ≠ b30 := ne_of_none hbA hb30
        try have n30_b5 : b5 ≠ b30 := ne_of_none hbA hb30
        have f30_H : H b30 = none := none_of_le lhA hb30
        have f30_R5 : R5 b30 = none := none_of_le lhA hb30
        try simp only [eX, ↓reduceIte, Nat.reduceEqDiff, Int.reduceToNat]
        refine hK _ _ leA ?_; clear hK K
        refine TW_last rfl (lt_some (by decide)) rfl (fun K hK r => ?_)
        simp only [x_builtin, l_append, List.map_toArray, List.map_cons, List.map_nil, eX, ↓reduceIte, Nat.reduceEqDiff, Int.reduceToNat]
        refine Lt_append Try.underlying22 Try.underlying22 (by simp) sz47 by47 (by decide) zr47 rfl _ (n := cs.length) (m := 1) (cs := cds cs) (ds := x.cells) (ho29.make hb30) (fun K => len_slice _ _ _ K) (fun K => first_slice (w := 6) (n := 1) (cs := x.cells) ⟨rfl, .inr ⟨b30, 0, 1, _, _, _, rfl, hbA, by simp, by simp⟩⟩ K) rfl (by show PlainL x.cells; exact plA) (by omega) ?_
        intro v31 H31 rs31 hg31 ho31 hr31
        have nr5 : rs ≠ some b5 := fun e => (hrs b5 e).2 rfl
        have nrp : rs ≠ some p := fun e => by have h1 := (hrs p e).1; rw [hpk] at h1; cases h1
        have k31_b5 := hg31.known b5 _ hbA nr5
        have hkb31 : KeepBut H10 p H31 := fun b o hb hn => hg31.known b o (hkb29.put (KeepBut.none hkb29 hb30 hp29) _ b o hb hn) (fun e => by have h1 := (hrs b e).1; rw [hb] at h1; cases h1)
        have f31 : ∀ r, rs31 = some r → H10 r = none ∧ r ≠ b5 := fun r hr => by
          rcases hr31 r hr with h | h
          · exact hrs r h
          · have hn30 : H29 r = none := by
              by_cases e : r = b30
              · subst e; exact hb30
              · rwa [upd_ne _ _ e] at h
            exact ⟨KeepBut.none hkb29 hn30 hp29, fun e => by subst e; rw [kH29_b5] at hn30; cases hn30⟩
        have hr31_ : RD H31 p a2 c2 l2 bad2 := hr2.keep (fun o ho => hg31.known p o (by rw [upd_ne _ _ (ne_of_none hp29 hb30)]; exact ho) nrp) (fun A o hA ho => hg31.known A.block o (by rw [upd_ne _ _ (ne_of_none ho hb30)]; exact ho) (fun e => by
          obtain ⟨A0, hA0, hbl⟩ := (hsb.trans hsb2) A hA
          obtain ⟨_, _, cc0, hc0, _⟩ := hA10 A0 hA0
          have h1 := (hrs _ e).1
          rw [← hbl, hc0] at h1; cases h1))
        have lR31 : Le R5 H31 := by rw [hR5]; exact le_put (le_empty _) k31_b5
        obtain ⟨a31, c31, rfl⟩ := ho31.holds.form
        refine hK _ _ ?_; clear hK K
        apply TW_pure rfl (lt_some (by decide)) rfl
        · intro r
          simp only [x_fieldAddr, fa24_1, add_mk, Nat.reduceAdd, Nat.zero_add, eX, ↓reduceIte, Nat.reduceEqDiff]
          exact ⟨rfl, Le.refl _⟩
        simp only [eX, ↓reduceIte, Nat.reduceEqDiff, Int.reduceToNat]
        refine TW_last rfl (lt_none) rfl (fun K hK r => ?_)
        simp only [x_store, eX, ↓reduceIte, Nat.reduceEqDiff, Int.reduceToNat]
        refine Lt_storeAt1 sz22 hbA bdA plA fzA ?_
        try simp only [setL0, setL1, setL2, setL3, setL4, setL5, setL6, setL7, setL8, setL9]
        try simp only [eX, ↓reduceIte, Nat.reduceEqDiff, Int.reduceToNat]
        refine hK _ _ ?_; clear hK K
        refine TW_nil ?_
        try simp only [Ex.thnH, Ex.inBlockH, ↓reduceIte, Nat.reduceEqDiff]
        refine ⟨l2.length, by omega, cs ++ [x], .slice a31 _ c31, rs31, l2, bad2, a2, c2, rfl, ?_, by simp only [List.length_append, List.length_singleton]; omega, ?_, f31, ?_, hB2, ?_, hsb.trans hsb2, hbA, hdsp.step (by omega) hps2, rfl, rfl, rfl, rfl, rfl, trivial⟩
        · intro z hz
          rcases List.mem_append.1 hz with hz | hz
          · exact hcs z hz
          · rw [List.mem_singleton.1 hz]; exact hxo
        · rw [List.length_append, List.length_singleton, cds, List.flatMap_append]; simpa using ho31.upd (fun e => (f31 b5 e).2 rfl)
        · refine hr31_.keep (fun o ho => by rw [upd_ne _ _ (Ne.symm np_b5)]; exact ho) (fun A o hA ho => ?_)
          rw [upd_ne]; exact ho
          intro e
          obtain ⟨A0, hA0, hbl⟩ := (hsb.trans hsb2) A hA
          obtain ⟨_, _, cc0, hc0, _⟩ := hA10 A0 hA0
          rw [hbl, e, f5_H10] at hc0; cases hc0
        · exact hkb31.put f5_H10 _
    · first
      | (exfalso; exact cnA c25; done)
      | skip
        (try simp only [decide_eq_true_eq, decide_eq_false_iff_not, Bool.not_eq_true, Bool.not_eq_false, Bool.and_eq_true, Bool.or_eq_true, Bool.or_eq_false_iff, Bool.not_eq_true, Bool.not_eq_eq_eq_not, Bool.not_true, Bool.not_false] at c25)
        have hend : ¬ ((cs.length : Int) < ((rcN r15 % 4611686018427387904 : Nat) : Int)) ∨ l1.length = 0 := by first | (left; omega) | (right; omega)
        refine CW_exit ?_
        try simp only [Ex.thnH, Ex.inBlockH, ↓reduceIte, Nat.reduceEqDiff]
        refine hK4 _ _ ?_; try clear hK4 K4
        refine CW_seq (fun K8 hK8 => ?_)
        refine CW_seq (fun K9 hK9 => ?_)
        refine CW_region ?_
        refine OW_opS (fun K hK r => ?_)
        simp only [x_load, eX, ↓reduceIte, Nat.reduceEqDiff, Int.reduceToNat]
        first | refine Lt_loadAll Try.underlying24 rfl sz24 hbA bdA ?_ | refine Lt_loadAtA Try.underlying24 rfl sz24 hbA bdA ?_
        try simp only [List.extract_toArray, List.extract_eq_take_drop, Nat.zero_add, Nat.reduceAdd, Nat.reduceSub, Nat.sub_zero, List.drop_succ_cons, List.drop_zero, List.take_succ_cons, List.take_zero, List.take_nil, List.drop_nil]
        try simp only [eX, ↓reduceIte, Nat.reduceEqDiff, Int.reduceToNat]
        refine hK _ _ ?_; clear hK K
        refine OW_opS (fun K hK r => ?_)
        simp only [x_callF _ bd14, List.map_toArray, List.map_cons, List.map_nil, eX, ↓reduceIte, Nat.reduceEqDiff, Int.reduceToNat]
        refine (encode_ok _ _ _ cs (hox.holds) (by omega) hcs).mono ?_
        rintro v35 H35 ⟨vb35, o35, rfl, hl35, ho35, hq35, rs35, hw35, hr35⟩
        have kH35_b5 := hl35 b5 _ hk5
        have kH35_b2 := hl35 b2 _ hk2
        have lH35_H : Le H H35 := Le.trans lH__H hl35
        have hr35_ : RD H35 p a1 c1 l1 bad1 := hr1.le hl35
        obtain ⟨a35, c35, rfl⟩ := hw35.holds.form
        have hlb35 := encB_len (f := ((rcN r12 % 4611686018427387904 : Nat) : Int)) hcs (by omega)
        try simp only [eX, ↓reduceIte, Nat.reduceEqDiff, Int.reduceToNat]
        refine hK _ _ ?_; clear hK K
        refine OW_mv rfl ?_
        refine OW_opS (fun K hK r => ?_)
        simp only [x_extract, i_extract, List.getElem?_toArray, List.getElem?_cons_zero, List.getElem?_cons_succ, orF_some, eX, ↓reduceIte, Nat.reduceEqDiff, Int.reduceToNat]
        refine hK _ _ ?_; clear hK K
        refine OW_opS (fun K hK r => ?_)
        simp only [x_extract, i_extract, List.getElem?_toArray, List.getElem?_cons_zero, List.getElem?_cons_succ, orF_some, eX, ↓reduceIte, Nat.reduceEqDiff, Int.reduceToNat]
        refine hK _ _ ?_; clear hK K
        refine OW_as rfl ?_
        refine OW_as rfl ?_
        refine OW_nil ?_
        try simp only [Ex.thnH, Ex.inBlockH, ↓reduceIte, Nat.reduceEqDiff]
        refine hK9 _ _ ?_; try clear hK9 K9
        refine CW_seq (fun K10 hK10 => ?_)
        refine CW_region ?_
        refine OW_mv rfl ?_
        refine OW_opS (fun K hK r => ?_)
        simp only [x_bin, g_int, g_bool, g_string, g_pointer, g_slice, g_map, g_func, g_nilFunc, g_err, g_ifv, g_iface, g_nil_iface, g_nil_r, g_nil_l, eX, ↓reduceIte, Nat.reduceEqDiff, Int.reduceToNat]
        first | rw [b_err_neq _ _ Try.underlying35] | rw [b_ifv_neq _ _ Try.underlying35] | (rw [e_neq _ _ _ _ (by simp), q_equal]; first | rw [q_iface_nil _ _ _ Try.underlying35] | rw [q_nil_iface _ _ _ Try.underlying35] | rw [q_nil_nil _ _ _ Try.underlying35])
        try simp only [eX, ↓reduceIte, Nat.reduceEqDiff, Int.reduceToNat]
        refine hK _ _ ?_; clear hK K
        refine OW_mv rfl ?_
        (first | refine OW_split (d := 40) rfl (fun g40 => ?_) (fun g40 => ?_) | skip)
        all_goals try (exfalso; exact cnA g40)
        all_goals (try simp only [decide_eq_true_eq, decide_eq_false_iff_not, Bool.not_eq_true, Bool.not_eq_false, Bool.and_eq_true, Bool.or_eq_true, Bool.or_eq_false_iff, Bool.not_eq_true, Bool.not_eq_eq_eq_not, Bool.not_true, Bool.not_false] at g40)
        all_goals
          try simp only [eX, ↓reduceIte, Nat.reduceEqDiff, Int.reduceToNat]
          first
          | refine OW_guardT rfl (lt_some (by decide)) rfl (fun K hK r => ?_)
            simp only [x_move, eX, ↓reduceIte, Nat.reduceEqDiff, Int.reduceToNat]
            refine hK _ _ ?_; clear hK K
          | refine OW_guardF rfl (lt_some (by decide)) rfl ?_
            simp only [eX, ↓reduceIte, Nat.reduceEqDiff, Int.reduceToNat]
          first
          | refine OW_guardT rfl (lt_some (by decide)) rfl (fun K hK r => ?_)
            simp only [x_callF _ bd37, List.map_toArray, List.map_cons, List.map_nil, eX, ↓reduceIte, Nat.reduceEqDiff, Int.reduceToNat]
            refine (rEnd_ok _ p a1 c1 l1 bad1 hr35_).mono ?_
            rintro v H' ⟨rfl, rfl⟩
            try simp only [eX, ↓reduceIte, Nat.reduceEqDiff, Int.reduceToNat]
            refine hK _ _ ?_; clear hK K
          | refine OW_guardF rfl (lt_some (by decide)) rfl ?_
            simp only [eX, ↓reduceIte, Nat.reduceEqDiff, Int.reduceToNat]
          first
          | refine OW_guardT rfl (lt_some (by decide)) rfl (fun K hK r => ?_)
            simp only [x_bin, g_int, g_bool, g_string, g_pointer, g_slice, g_map, g_func, g_nilFunc, g_err, g_ifv, g_iface, g_nil_iface, g_nil_r, g_nil_l, eX, ↓reduceIte, Nat.reduceEqDiff, Int.reduceToNat]
            first | rw [b_err_neq _ _ Try.underlying35] | rw [b_ifv_neq _ _ Try.underlying35] | (rw [e_neq _ _ _ _ (by simp), q_equal]; first | rw [q_iface_nil _ _ _ Try.underlying35] | rw [q_nil_iface _ _ _ Try.underlying35] | rw [q_nil_nil _ _ _ Try.underlying35])
            try simp only [eX, ↓reduceIte, Nat.reduceEqDiff, Int.reduceToNat]
            refine hK _ _ ?_; clear hK K
          | refine OW_guardF rfl (lt_some (by decide)) rfl ?_
            simp only [eX, ↓reduceIte, Nat.reduceEqDiff, Int.reduceToNat]
          refine OW_opS (fun K hK r => ?_)
          simp only [x_pick, l_asBool, HL.ite_bool, if_true, if_false, Bool.false_eq_true, eX, ↓reduceIte, Nat.reduceEqDiff, Int.reduceToNat]
          refine hK _ _ ?_; clear hK K
          refine OW_mv rfl ?_
          (first | refine OW_split (d := 45) rfl (fun g45 => ?_) (fun g45 => ?_) | skip)
          all_goals try (exfalso; exact cnA g45)
          all_goals (try simp only [decide_eq_true_eq, decide_eq_false_iff_not, Bool.not_eq_true, Bool.not_eq_false, Bool.and_eq_true, Bool.or_eq_true, Bool.or_eq_false_iff, Bool.not_eq_true, Bool.not_eq_eq_eq_not, Bool.not_true, Bool.not_false] at g45)
          all_goals
            try simp only [eX, ↓reduceIte, Nat.reduceEqDiff, Int.reduceToNat]
            first
            | refine OW_guardT rfl (lt_some (by decide)) rfl (fun K hK r => ?_)
              simp only [x_move, eX, ↓reduceIte, Nat.reduceEqDiff, Int.reduceToNat]
              refine hK _ _ ?_; clear hK K
            | refine OW_guardF rfl (lt_some (by decide)) rfl ?_
              simp only [eX, ↓reduceIte, Nat.reduceEqDiff, Int.reduceToNat]
            first
            | refine OW_guardT rfl (lt_some (by decide)) rfl (fun K hK r => ?_)
              simp only [x_move, eX, ↓reduceIte, Nat.reduceEqDiff, Int.reduceToNat]
              refine hK _ _ ?_; clear hK K
            | refine OW_guardF rfl (lt_some (by decide)) rfl ?_
              simp only [eX, ↓reduceIte, Nat.reduceEqDiff, Int.reduceToNat]
            first
            | refine OW_guardT rfl (lt_some (by decide)) rfl (fun K hK r => ?_)
              simp only [x_callF _ bd38, List.map_toArray, List.map_cons, List.map_nil, eX, ↓reduceIte, Nat.reduceEqDiff, Int.reduceToNat]
              refine (eqBytes_ok _ _ _ (encB _ cs) B (hw35.holds) (hv.le lhA) (by omega)).mono ?_
              rintro v H' ⟨rfl, rfl⟩
              try simp only [eX, ↓reduceIte, Nat.reduceEqDiff, Int.reduceToNat]
              refine hK _ _ ?_; clear hK K
            | refine OW_guardF rfl (lt_some (by decide)) rfl ?_
              simp only [eX, ↓reduceIte, Nat.reduceEqDiff, Int.reduceToNat]
            first
            | refine OW_guardT rfl (lt_some (by decide)) rfl (fun K hK r => ?_)
              simp only [x_un, u_not, eX, ↓reduceIte, Nat.reduceEqDiff, Int.reduceToNat]
              refine hK _ _ ?_; clear hK K
            | refine OW_guardF rfl (lt_some (by decide)) rfl ?_
              simp only [eX, ↓reduceIte, Nat.reduceEqDiff, Int.reduceToNat]
            refine OW_opS (fun K hK r => ?_)
            simp only [x_pick, l_asBool, HL.ite_bool, if_true, if_false, Bool.false_eq_true, eX, ↓reduceIte, Nat.reduceEqDiff, Int.reduceToNat]
            refine hK _ _ ?_; clear hK K
            refine OW_nil ?_
            try simp only [Ex.thnH, Ex.inBlockH, ↓reduceIte, Nat.reduceEqDiff]
            refine hK10 _ _ ?_; try clear hK10 K10
            refine CW_cond (fun r => rfl) (fun c50 => ?_) (fun c50 => ?_)
            · first
              | (exfalso; exact cnA c50; done)
              | skip
                (try simp only [decide_eq_true_eq, decide_eq_false_iff_not, Bool.not_eq_true, Bool.not_eq_false, Bool.and_eq_true, Bool.or_eq_true, Bool.or_eq_false_iff, Bool.not_eq_true, Bool.not_eq_eq_eq_not, Bool.not_true, Bool.not_false] at c50)
                refine CW_seq (fun K11 hK11 => ?_)
                refine CW_region ?_
                refine OW_opS (fun K hK r => ?_)
                simp only [x_build, bp24, List.map_toArray, List.map_cons, List.map_nil, eX, ↓reduceIte, Nat.reduceEqDiff, Int.reduceToNat]
                simp only [fill_nil, orF_some, List.setIfInBounds_toArray, List.set_cons_zero, List.set_cons_succ]
                try simp only [eX, ↓reduceIte, Nat.reduceEqDiff, Int.reduceToNat]
                refine hK _ _ ?_; clear hK K
                refine OW_opS (fun K hK r => ?_)
                simp only [x_makeInterface, i_makeInterface, Try.underlying40, orF_some, eX, ↓reduceIte, Nat.reduceEqDiff, Int.reduceToNat]
                refine hK _ _ ?_; clear hK K
                refine OW_op rfl (lt_none) (fun K hK r => ?_)
                simp only [x_store, eX, ↓reduceIte, Nat.reduceEqDiff, Int.reduceToNat]
                first | refine Lt_storeAll sz24 bdA hbA bdA plA (by decide) ?_ | refine Lt_storeAtA sz24 bdA hbA bdA plA (by decide) ?_
                try simp only [eX, ↓reduceIte, Nat.reduceEqDiff, Int.reduceToNat]
                refine hK _ _ ?_; clear hK K
                refine OW_as rfl ?_
                refine OW_nil ?_
                try simp only [Ex.thnH, Ex.inBlockH, ↓reduceIte, Nat.reduceEqDiff]
                refine hK11 _ _ ?_; try clear hK11 K11
                refine CW_ret ?_
                try simp only [Ex.thnH, Ex.inBlockH, ↓reduceIte, Nat.reduceEqDiff]
                have hbadd : (∀ (g : Int) (ds : List Cd), (∀ x ∈ ds, x.ok) → GoodP g ds → encP g ds ≠ B) := by
                  intro g ds hd hg he
                  obtain ⟨e1, e2, e3, e4⟩ := hdsp.done hend hd hg he
                  subst e2
                  have hgf : checkP ((rcN r12 % 4611686018427387904 : Nat) : Int) cs = -2 := by rw [e1]; exact hg
                  have hno := ho35.2 hgf
                  have henc : encB ((rcN r12 % 4611686018427387904 : Nat) : Int) cs = B := by unfold encB; rw [if_pos hgf, e1, he]
                  first
                  | (exact absurd henc (by assumption))
                  | (rw [hno] at g40; cases g40; done)
                  | (have hh : (endE bad1 l1).isSome = true := by assumption
                     rw [e3, e4] at hh; exact absurd hh (by decide))
                refine ⟨[_, _], ⟨⟨_, rfl, Lq_loadAll Try.underlying24 rfl sz24 hbA bdA⟩, rfl, trivial⟩, _, Le.refl _, lhA, 0, [], _, some 2, rfl, .inr ⟨rfl, rfl, rfl, hbadd⟩, (fun x hx => by simp at hx), none, OwnS.nil _ _ _, fun r hr => by cases hr⟩
            · first
              | (exfalso; exact cnA c50; done)
              | skip
                (try simp only [decide_eq_true_eq, decide_eq_false_iff_not, Bool.not_eq_true, Bool.not_eq_false, Bool.and_eq_true, Bool.or_eq_true, Bool.or_eq_false_iff, Bool.not_eq_true, Bool.not_eq_eq_eq_not, Bool.not_true, Bool.not_false] at c50)
                refine CW_skip ?_
                try simp only [Ex.thnH, Ex.inBlockH, ↓reduceIte, Nat.reduceEqDiff]
                refine hK8 _ _ ?_; try clear hK8 K8
                refine CW_seq (fun K12 hK12 => ?_)
                refine CW_region ?_
                refine OW_opS (fun K hK r => ?_)
                simp only [x_load, eX, ↓reduceIte, Nat.reduceEqDiff, Int.reduceToNat]
                first | refine Lt_loadAll Try.underlying24 rfl sz24 hbA bdA ?_ | refine Lt_loadAtA Try.underlying24 rfl sz24 hbA bdA ?_
                try simp only [List.extract_toArray, List.extract_eq_take_drop, Nat.zero_add, Nat.reduceAdd, Nat.reduceSub, Nat.sub_zero, List.drop_succ_cons, List.drop_zero, List.take_succ_cons, List.take_zero, List.take_nil, List.drop_nil]
                try simp only [eX, ↓reduceIte, Nat.reduceEqDiff, Int.reduceToNat]
                refine hK _ _ ?_; clear hK K
                refine OW_op rfl (lt_none) (fun K hK r => ?_)
                simp only [x_store, eX, ↓reduceIte, Nat.reduceEqDiff, Int.reduceToNat]
                first | refine Lt_storeAll sz24 bdA hbA bdA plA (by decide) ?_ | refine Lt_storeAtA sz24 bdA hbA bdA plA (by decide) ?_
                try simp only [eX, ↓reduceIte, Nat.reduceEqDiff, Int.reduceToNat]
                refine hK _ _ ?_; clear hK K
                refine OW_as rfl ?_
                refine OW_nil ?_
                try simp only [Ex.thnH, Ex.inBlockH, ↓reduceIte, Nat.reduceEqDiff]
                refine hK12 _ _ ?_; try clear hK12 K12
                refine CW_ret ?_
                try simp only [Ex.thnH, Ex.inBlockH, ↓reduceIte, Nat.reduceEqDiff]
                obtain rfl : o35 = none := by first | assumption | (simp_all; done)
                have hgood : GoodP ((rcN r12 % 4611686018427387904 : Nat) : Int) cs := ho35.1 rfl
                have henc : encP ((rcN r12 % 4611686018427387904 : Nat) : Int) cs = B := by
                  have e : encB ((rcN r12 % 4611686018427387904 : Nat) : Int) cs = encP ((rcN r12 % 4611686018427387904 : Nat) : Int) cs := by unfold encB; exact if_pos hgood
                  rw [← e]; first | assumption | (simp_all; done)
                refine ⟨[_, _], ⟨⟨_, rfl, Lq_loadAll Try.underlying24 rfl sz24 hbA bdA⟩, rfl, trivial⟩, _, Le.refl _, lhA, _, cs, _, none, rfl, .inl ⟨rfl, hgood, henc⟩, hcs, rs, (hox.le hl35).upd (fun e => by have h1 := (hrs b2 e).1; rw [kH10_b2] at h1; cases h1), fun r hr => none_of_le lH10_H (hrs r hr).1⟩

end Go.Proofs.Ytlkopcgoaldpeaa.HL
end
section
namespace Go.Proofs.Ytlkopcgoaldpeaa.HL
open Go Go.Proofs
set_option linter.unusedSimpArgs false
set_option linter.unusedVariables false
attribute [local irreducible] Lt Lq CW OW TW CallH


def cvN (r : Option (Nat × List Int)) : Int := if 100000 < rcN r then -1 else ((rcN r : Nat) : Int)
theorem cvN_rng (r : Option (Nat × List Int)) : -1 ≤ cvN r ∧ cvN r ≤ 100000 := by unfold cvN; split <;> omega
theorem cvN_some {u : Nat} {l : List Int} (h : u ≤ 1000) : cvN (some (u, l)) = u := by unfold cvN; rw [rcN_some, if_neg (by omega)]
theorem PS.roth {bad bad1 : Bool} {l l1 : List Int} {op : Int} {j : Nat} {y : Cd} (h : PS bad l op j y l1 bad1) (hj : j < (shp op).length) (he : (shp op).getD j 0 ≠ 110) {res : Option (Nat × List Int)} (hres : RCb bad1 l1 res) :
    PS bad l op (j + 1) (y.setf ((shp op).getD j 0) (cvN res)) (rcL res) res.isNone := by
  intro x b r hxo hg hb hbad hl
  obtain ⟨h1, rfl, h3, rfl⟩ := h x b r hxo hg hb hbad hl
  subst h1
  have hm : (shp x.op).getD j 0 ∈ shp x.op := mem_of_getD hj rfl
  have hf := fld_good hg hb hm he
  rw [flat_head _ _ j 0 hj, encF_good hg hb hm he, List.append_assoc] at h3
  subst h3
  obtain rfl := spec_cnt6 (by omega) hres
  refine ⟨rfl, ?_, rfl, rfl⟩
  rw [cvN_some (by omega), ← part_step x hj, Int.toNat_of_nonneg hf.1]
theorem DSP.rstart {B : List Int} {r1 r2 : Option (Nat × List Int)} (h1 : RCb false B r1) (h2 : RCb r1.isNone (rcL r1) r2) : DSP B (cvN r1) (cvN r2) [] (rcL r2) r2.isNone := by
  intro g ds hd hg he
  have hs := hg.spec
  rw [encP_good hg, List.append_assoc] at he
  subst he
  obtain rfl := spec_cnt6 (by omega) h1
  simp only [rcL_some, Option.isNone_some] at h2
  obtain rfl := spec_cnt6 (by omega) h2
  rw [cvN_some (by omega), cvN_some (by omega)]
  simp only [rcL_some, Option.isNone_some, List.length_nil, List.take_zero, List.drop_zero, and_true]
  omega
theorem DSP.rdone {B : List Int} {f n : Int} {cs : List Cd} {l1 : List Int} {bad1 : Bool} (h : DSP B f n cs l1 bad1) (hc : ¬ ((cs.length : Int) < n) ∨ bad1 = true) {g : Int} {ds : List Cd} (hd : ∀ x ∈ ds, x.ok) (hg : GoodP g ds) (he : encP g ds = B) : f = g ∧ cs = ds ∧ l1 = [] ∧ bad1 = false := by
  refine h.done ?_ hd hg he
  rcases hc with hc | hc
  · exact .inl hc
  · have := (h g ds hd hg he).2.2.2.2
    rw [hc] at this; cases this

set_option maxRecDepth 100000 in
set_option maxHeartbeats 1000000 in
theorem rcount_ok (H0 H : Hp) (p : Nat) (l : List Int) (bad : Bool) (hr : RM H0 H p l bad) (hle : Le H0 H) (hp0 : H0 p = none) (hB : ByteL l) (hl : l.length ≤ 100000) : CallH Try.prog 42 #[.pointer (some ⟨p, 0, none⟩)] H (fun v H' => ∃ res, RCb bad l res ∧ v = .int .i64 (cvN res) ∧ RM H0 H' p (rcL res) res.isNone ∧ KeepBut H p H') := by
  refine CallH_enter (l := [_]) (rl := [.tmp 2]) (n := 10) Try.func42 rfl rfl rfl rfl rfl ?_
  simp only [envOf, Nat.reduceAdd]
  refine CW_seq (fun K1 hK1 => ?_)
  refine CW_region ?_
  refine OW_as rfl ?_
  refine OW_nil ?_
  try simp only [Ex.thnH, Ex.inBlockH, ↓reduceIte, Nat.reduceEqDiff]
  refine hK1 _ _ ?_; try clear hK1 K1
  refine CW_seq (fun K2 hK2 => ?_)
  refine CW_region ?_
  refine OW_mv rfl ?_
  refine OW_opS (fun K hK r => ?_)
  simp only [x_callF _ bd57, List.map_toArray, List.map_cons, List.map_nil, eX, ↓reduceIte, Nat.reduceEqDiff, Int.reduceToNat]
  refine (mCount_ok H0 _ p l bad hr hle hp0 hB hl).mono ?_
  rintro v5 H5 ⟨res, hres, rfl, hm5, hk5⟩
  have hlt := hres.lt
  try simp only [eX, ↓reduceIte, Nat.reduceEqDiff, Int.reduceToNat]
  refine hK _ _ ?_; clear hK K
  refine OW_as rfl ?_
  refine OW_nil ?_
  try simp only [Ex.thnH, Ex.inBlockH, ↓reduceIte, Nat.reduceEqDiff]
  refine hK2 _ _ ?_; try clear hK2 K2
  refine CW_seq (fun K3 hK3 => ?_)
  refine CW_seq (fun K4 hK4 => ?_)
  refine CW_region ?_
  refine OW_mv rfl ?_
  refine OW_opS (fun K hK r => ?_)
  simp (disch := (first | omega | decide)) only [x_bin, g_int, b_gtr, dec_lt_t, dec_lt_f, dec_le_t, dec_le_f, dec_eq_t, dec_eq_f, Bool.not_true, Bool.not_false, eX, ↓reduceIte, Nat.reduceEqDiff, Int.reduceToNat]
  refine hK _ _ ?_; clear hK K
  refine OW_nil ?_
  try simp only [Ex.thnH, Ex.inBlockH, ↓reduceIte, Nat.reduceEqDiff]
  refine hK4 _ _ ?_; try clear hK4 K4
  refine CW_cond (fun r => rfl) (fun c7 => ?_) (fun c7 => ?_)
  · first
    | (exfalso; exact cnA c7; done)
    | skip
      (try simp only [decide_eq_true_eq, decide_eq_false_iff_not, Bool.not_eq_true, Bool.not_eq_false, Bool.and_eq_true, Bool.or_eq_true, Bool.or_eq_false_iff, Bool.not_eq_true, Bool.not_eq_eq_eq_not, Bool.not_true, Bool.not_false] at c7)
      refine CW_seq (fun K5 hK5 => ?_)
      refine CW_region ?_
      refine OW_as rfl ?_
      refine OW_nil ?_
      try simp only [Ex.thnH, Ex.inBlockH, ↓reduceIte, Nat.reduceEqDiff]
      refine hK5 _ _ ?_; try clear hK5 K5
      refine CW_ret ?_
      try simp only [Ex.thnH, Ex.inBlockH, ↓reduceIte, Nat.reduceEqDiff]
      refine ⟨[_], ⟨rfl, trivial⟩, _, Le.refl _, res, hres, ?_, hm5, hk5⟩
      show Value.int _ _ = _
      unfold cvN; rw [if_pos (by omega)]
  · first
    | (exfalso; exact cnA c7; done)
    | skip
      (try simp only [decide_eq_true_eq, decide_eq_false_iff_not, Bool.not_eq_true, Bool.not_eq_false, Bool.and_eq_true, Bool.or_eq_true, Bool.or_eq_false_iff, Bool.not_eq_true, Bool.not_eq_eq_eq_not, Bool.not_true, Bool.not_false] at c7)
      refine CW_skip ?_
      try simp only [Ex.thnH, Ex.inBlockH, ↓reduceIte, Nat.reduceEqDiff]
      refine hK3 _ _ ?_; try clear hK3 K3
      refine CW_seq (fun K6 hK6 => ?_)
      refine CW_region ?_
      refine OW_mv rfl ?_
      refine OW_opS (fun K hK r => ?_)
      simp (disch := (first | omega | decide)) only [x_convert, c_int _ _ _ _ Try.underlying60 Try.underlying3, wrap_i64, wrap_u64, wrap_u32, wrap_u8, eX, ↓reduceIte, Nat.reduceEqDiff, Int.reduceToNat]
      refine hK _ _ ?_; clear hK K
      refine OW_as rfl ?_
      refine OW_nil ?_
      try simp only [Ex.thnH, Ex.inBlockH, ↓reduceIte, Nat.reduceEqDiff]
      refine hK6 _ _ ?_; try clear hK6 K6
      refine CW_ret ?_
      try simp only [Ex.thnH, Ex.inBlockH, ↓reduceIte, Nat.reduceEqDiff]
      refine ⟨[_], ⟨rfl, trivial⟩, _, Le.refl _, res, hres, ?_, hm5, hk5⟩
      show Value.int _ _ = _
      unfold cvN; rw [if_neg (by omega)]

end Go.Proofs.Ytlkopcgoaldpeaa.HL
end
section
namespace Go.Proofs.Ytlkopcgoaldpeaa.HL
open Go Go.Proofs
set_option linter.unusedSimpArgs false
set_option linter.unusedVariables false
attribute [local irreducible] Lt Lq CW OW TW CallH

set_option maxRecDepth 100000 in
set_option maxHeartbeats 1000000 in
theorem value_ok (H : Hp) (x : Cd) (l : Int) : CallH Try.prog 41 #[.agg x.cells.toArray, .int .u8 l] H (fun v H' => v = .int .i64 (x.fld l) ∧ Le H H') := by
  refine CallH_enter (l := [_, _]) (rl := [.tmp 4]) (n := 27) Try.func41 rfl rfl rfl rfl rfl ?_
  simp only [envOf, Nat.reduceAdd]
  refine CW_seq (fun K1 hK1 => ?_)
  refine CW_region ?_
  refine OW_opS (fun K hK r => ?_)
  simp only [x_box, Value.cells, eX, ↓reduceIte, Nat.reduceEqDiff, Int.reduceToNat]
  intro b2 hb2
  have f2_H : H b2 = none := none_of_le lhA hb2
  try simp only [eX, ↓reduceIte, Nat.reduceEqDiff, Int.reduceToNat]
  refine hK _ _ ?_; clear hK K
  refine OW_as rfl ?_
  refine OW_nil ?_
  try simp only [Ex.thnH, Ex.inBlockH, ↓reduceIte, Nat.reduceEqDiff]
  refine hK1 _ _ ?_; try clear hK1 K1
  refine CW_seq (fun K2 hK2 => ?_)
  refine CW_seq (fun K3 hK3 => ?_)
  refine CW_region ?_
  refine OW_mv rfl ?_
  refine OW_opS (fun K hK r => ?_)
  simp (disch := (first | omega | decide)) only [x_bin, g_int, b_eql, dec_lt_t, dec_lt_f, dec_le_t, dec_le_f, dec_eq_t, dec_eq_f, Bool.not_true, Bool.not_false, eX, ↓reduceIte, Nat.reduceEqDiff, Int.reduceToNat]
  refine hK _ _ ?_; clear hK K
  refine OW_mv rfl ?_
  (first | refine OW_split (d := 7) rfl (fun g7 => ?_) (fun g7 => ?_) | skip)
  all_goals try (exfalso; exact cnA g7)
  all_goals (try simp only [decide_eq_true_eq, decide_eq_false_iff_not, Bool.not_eq_true, Bool.not_eq_false, Bool.and_eq_true, Bool.or_eq_true, Bool.or_eq_false_iff, Bool.not_eq_true, Bool.not_eq_eq_eq_not, Bool.not_true, Bool.not_false] at g7)
  all_goals
    try simp only [eX, ↓reduceIte, Nat.reduceEqDiff, Int.reduceToNat]
    first
    | refine OW_guardT rfl (lt_some (by decide)) rfl (fun K hK r => ?_)
      simp only [x_move, eX, ↓reduceIte, Nat.reduceEqDiff, Int.reduceToNat]
      refine hK _ _ ?_; clear hK K
    | refine OW_guardF rfl (lt_some (by decide)) rfl ?_
      simp only [eX, ↓reduceIte, Nat.reduceEqDiff, Int.reduceToNat]
    first
    | refine OW_guardT rfl (lt_some (by decide)) rfl (fun K hK r => ?_)
      simp (disch := (first | omega | decide)) only [x_bin, g_int, b_eql, dec_lt_t, dec_lt_f, dec_le_t, dec_le_f, dec_eq_t, dec_eq_f, Bool.not_true, Bool.not_false, eX, ↓reduceIte, Nat.reduceEqDiff, Int.reduceToNat]
      refine hK _ _ ?_; clear hK K
    | refine OW_guardF rfl (lt_some (by decide)) rfl ?_
      simp only [eX, ↓reduceIte, Nat.reduceEqDiff, Int.reduceToNat]
    refine OW_opS (fun K hK r => ?_)
    simp only [x_pick, l_asBool, HL.ite_bool, if_true, if_false, Bool.false_eq_true, eX, ↓reduceIte, Nat.reduceEqDiff, Int.reduceToNat]
    refine hK _ _ ?_; clear hK K
    refine OW_nil ?_
    try simp only [Ex.thnH, Ex.inBlockH, ↓reduceIte, Nat.reduceEqDiff]
    refine hK3 _ _ ?_; try clear hK3 K3
    refine CW_cond (fun r => rfl) (fun c10 => ?_) (fun c10 => ?_)
    · first
      | (exfalso; exact cnA c10; done)
      | skip
        (try simp only [decide_eq_true_eq, decide_eq_false_iff_not, Bool.not_eq_true, Bool.not_eq_false, Bool.and_eq_true, Bool.or_eq_true, Bool.or_eq_false_iff, Bool.not_eq_true, Bool.not_eq_eq_eq_not, Bool.not_true, Bool.not_false] at c10)
        refine CW_seq (fun K4 hK4 => ?_)
        refine CW_region ?_
        refine OW_opS (fun K hK r => ?_)
        simp only [x_fieldAddr, fa47_1, add_mk, Nat.reduceAdd, Nat.zero_add, eX, ↓reduceIte, Nat.reduceEqDiff, Int.reduceToNat]
        refine hK _ _ ?_; clear hK K
        refine OW_opS (fun K hK r => ?_)
        simp only [x_load, eX, ↓reduceIte, Nat.reduceEqDiff, Int.reduceToNat]
        refine Lt_loadAt1 Try.underlying3 rfl hbA ldA ?_
        try simp only [eX, ↓reduceIte, Nat.reduceEqDiff, Int.reduceToNat]
        refine hK _ _ ?_; clear hK K
        refine OW_as rfl ?_
        refine OW_nil ?_
        try simp only [Ex.thnH, Ex.inBlockH, ↓reduceIte, Nat.reduceEqDiff]
        refine hK4 _ _ ?_; try clear hK4 K4
        refine CW_ret ?_
        try simp only [Ex.thnH, Ex.inBlockH, ↓reduceIte, Nat.reduceEqDiff]
        refine ⟨[_], ⟨rfl, trivial⟩, _, Le.refl _, ?_, lhA⟩
        show Value.int _ _ = _
        unfold Cd.fld
        repeat' (split <;> try (first | rfl | (exfalso; omega) | (exfalso; simp_all; done) | (exfalso; simp_all; omega)))
    · first
      | (exfalso; exact cnA c10; done)
      | skip
        (try simp only [decide_eq_true_eq, decide_eq_false_iff_not, Bool.not_eq_true, Bool.not_eq_false, Bool.and_eq_true, Bool.or_eq_true, Bool.or_eq_false_iff, Bool.not_eq_true, Bool.not_eq_eq_eq_not, Bool.not_true, Bool.not_false] at c10)
        refine CW_skip ?_
        try simp only [Ex.thnH, Ex.inBlockH, ↓reduceIte, Nat.reduceEqDiff]
        refine hK2 _ _ ?_; try clear hK2 K2
        refine CW_seq (fun K5 hK5 => ?_)
        refine CW_seq (fun K6 hK6 => ?_)
        refine CW_region ?_
        refine OW_mv rfl ?_
        refine OW_opS (fun K hK r => ?_)
        simp (disch := (first | omega | decide)) only [x_bin, g_int, b_eql, dec_lt_t, dec_lt_f, dec_le_t, dec_le_f, dec_eq_t, dec_eq_f, Bool.not_true, Bool.not_false, eX, ↓reduceIte, Nat.reduceEqDiff, Int.reduceToNat]
        refine hK _ _ ?_; clear hK K
        refine OW_nil ?_
        try simp only [Ex.thnH, Ex.inBlockH, ↓reduceIte, Nat.reduceEqDiff]
        refine hK6 _ _ ?_; try clear hK6 K6
        refine CW_cond (fun r => rfl) (fun c14 => ?_) (fun c14 => ?_)
        · first
          | (exfalso; exact cnA c14; done)
          | skip
            (try simp only [decide_eq_true_eq, decide_eq_false_iff_not, Bool.not_eq_true, Bool.not_eq_false, Bool.and_eq_true, Bool.or_eq_true, Bool.or_eq_false_iff, Bool.not_eq_true, Bool.not_eq_eq_eq_not, Bool.not_true, Bool.not_false] at c14)
            refine CW_seq (fun K7 hK7 => ?_)
            refine CW_region ?_
            refine OW_opS (fun K hK r => ?_)
            simp only [x_fieldAddr, fa47_2, add_mk, Nat.reduceAdd, Nat.zero_add, eX, ↓reduceIte, Nat.reduceEqDiff, Int.reduceToNat]
            refine hK _ _ ?_; clear hK K
            refine OW_opS (fun K hK r => ?_)
            simp only [x_load, eX, ↓reduceIte, Nat.reduceEqDiff, Int.reduceToNat]
            refine Lt_loadAt1 Try.underlying3 rfl hbA ldA ?_
            try simp only [eX, ↓reduceIte, Nat.reduceEqDiff, Int.reduceToNat]
            refine hK _ _ ?_; clear hK K
            refine OW_as rfl ?_
            refine OW_nil ?_
            try simp only [Ex.thnH, Ex.inBlockH, ↓reduceIte, Nat.reduceEqDiff]
            refine hK7 _ _ ?_; try clear hK7 K7
            refine CW_ret ?_
            try simp only [Ex.thnH, Ex.inBlockH, ↓reduceIte, Nat.reduceEqDiff]
            refine ⟨[_], ⟨rfl, trivial⟩, _, Le.refl _, ?_, lhA⟩
            show Value.int _ _ = _
            unfold Cd.fld
            repeat' (split <;> try (first | rfl | (exfalso; omega) | (exfalso; simp_all; done) | (exfalso; simp_all; omega)))
        · first
          | (exfalso; exact cnA c14; done)
          | skip
            (try simp only [decide_eq_true_eq, decide_eq_false_iff_not, Bool.not_eq_true, Bool.not_eq_false, Bool.and_eq_true, Bool.or_eq_true, Bool.or_eq_false_iff, Bool.not_eq_true, Bool.not_eq_eq_eq_not, Bool.not_true, Bool.not_false] at c14)
            refine CW_skip ?_
            try simp only [Ex.thnH, Ex.inBlockH, ↓reduceIte, Nat.reduceEqDiff]
            refine hK5 _ _ ?_; try clear hK5 K5
            refine CW_seq (fun K8 hK8 => ?_)
            refine CW_seq (fun K9 hK9 => ?_)
            refine CW_region ?_
            refine OW_mv rfl ?_
            refine OW_opS (fun K hK r => ?_)
            simp (disch := (first | omega | decide)) only [x_bin, g_int, b_eql, dec_lt_t, dec_lt_f, dec_le_t, dec_le_f, dec_eq_t, dec_eq_f, Bool.not_true, Bool.not_false, eX, ↓reduceIte, Nat.reduceEqDiff, Int.reduceToNat]
            refine hK _ _ ?_; clear hK K
            refine OW_nil ?_
            try simp only [Ex.thnH, Ex.inBlockH, ↓reduceIte, Nat.reduceEqDiff]
            refine hK9 _ _ ?_; try clear hK9 K9
            refine CW_cond (fun r => rfl) (fun c18 => ?_) (fun c18 => ?_)
            · first
              | (exfalso; exact cnA c18; done)
              | skip
                (try simp only [decide_eq_true_eq, decide_eq_false_iff_not, Bool.not_eq_true, Bool.not_eq_false, Bool.and_eq_true, Bool.or_eq_true, Bool.or_eq_false_iff, Bool.not_eq_true, Bool.not_eq_eq_eq_not, Bool.not_true, Bool.not_false] at c18)
                refine CW_seq (fun K10 hK10 => ?_)
                refine CW_region ?_
                refine OW_opS (fun K hK r => ?_)
                simp only [x_fieldAddr, fa47_3, add_mk, Nat.reduceAdd, Nat.zero_add, eX, ↓reduceIte, Nat.reduceEqDiff, Int.reduceToNat]
                refine hK _ _ ?_; clear hK K
                refine OW_opS (fun K hK r => ?_)
                simp only [x_load, eX, ↓reduceIte, Nat.reduceEqDiff, Int.reduceToNat]
                refine Lt_loadAt1 Try.underlying3 rfl hbA ldA ?_
                try simp only [eX, ↓reduceIte, Nat.reduceEqDiff, Int.reduceToNat]
                refine hK _ _ ?_; clear hK K
                refine OW_as rfl ?_
                refine OW_nil ?_
                try simp only [Ex.thnH, Ex.inBlockH, ↓reduceIte, Nat.reduceEqDiff]
                refine hK10 _ _ ?_; try clear hK10 K10
                refine CW_ret ?_
                try simp only [Ex.thnH, Ex.inBlockH, ↓reduceIte, Nat.reduceEqDiff]
                refine ⟨[_], ⟨rfl, trivial⟩, _, Le.refl _, ?_, lhA⟩
                show Value.int _ _ = _
                unfold Cd.fld
                repeat' (split <;> try (first | rfl | (exfalso; omega) | (exfalso; simp_all; done) | (exfalso; simp_all; omega)))
            · first
              | (exfalso; exact cnA c18; done)
              | skip
                (try simp only [decide_eq_true_eq, decide_eq_false_iff_not, Bool.not_eq_true, Bool.not_eq_false, Bool.and_eq_true, Bool.or_eq_true, Bool.or_eq_false_iff, Bool.not_eq_true, Bool.not_eq_eq_eq_not, Bool.not_true, Bool.not_false] at c18)
                refine CW_skip ?_
                try simp only [Ex.thnH, Ex.inBlockH, ↓reduceIte, Nat.reduceEqDiff]
                refine hK8 _ _ ?_; try clear hK8 K8
                refine CW_seq (fun K11 hK11 => ?_)
                refine CW_seq (fun K12 hK12 => ?_)
                refine CW_region ?_
                refine OW_mv rfl ?_
                refine OW_opS (fun K hK r => ?_)
                simp (disch := (first | omega | decide)) only [x_bin, g_int, b_eql, dec_lt_t, dec_lt_f, dec_le_t, dec_le_f, dec_eq_t, dec_eq_f, Bool.not_true, Bool.not_false, eX, ↓reduceIte, Nat.reduceEqDiff, Int.reduceToNat]
                refine hK _ _ ?_; clear hK K
                refine OW_nil ?_
                try simp only [Ex.thnH, Ex.inBlockH, ↓reduceIte, Nat.reduceEqDiff]
                refine hK12 _ _ ?_; try clear hK12 K12
                refine CW_cond (fun r => rfl) (fun c22 => ?_) (fun c22 => ?_)
                · first
                  | (exfalso; exact cnA c22; done)
                  | skip
                    (try simp only [decide_eq_true_eq, decide_eq_false_iff_not, Bool.not_eq_true, Bool.not_eq_false, Bool.and_eq_true, Bool.or_eq_true, Bool.or_eq_false_iff, Bool.not_eq_true, Bool.not_eq_eq_eq_not, Bool.not_true, Bool.not_false] at c22)
                    refine CW_seq (fun K13 hK13 => ?_)
                    refine CW_region ?_
                    refine OW_opS (fun K hK r => ?_)
                    simp only [x_fieldAddr, fa47_4, add_mk, Nat.reduceAdd, Nat.zero_add, eX, ↓reduceIte, Nat.reduceEqDiff, Int.reduceToNat]
                    refine hK _ _ ?_; clear hK K
                    refine OW_opS (fun K hK r => ?_)
                    simp only [x_load, eX, ↓reduceIte, Nat.reduceEqDiff, Int.reduceToNat]
                    refine Lt_loadAt1 Try.underlying3 rfl hbA ldA ?_
                    try simp only [eX, ↓reduceIte, Nat.reduceEqDiff, Int.reduceToNat]
                    refine hK _ _ ?_; clear hK K
                    refine OW_as rfl ?_
                    refine OW_nil ?_
                    try simp only [Ex.thnH, Ex.inBlockH, ↓reduceIte, Nat.reduceEqDiff]
                    refine hK13 _ _ ?_; try clear hK13 K13
                    refine CW_ret ?_
                    try simp only [Ex.thnH, Ex.inBlockH, ↓reduceIte, Nat.reduceEqDiff]
                    refine ⟨[_], ⟨rfl, trivial⟩, _, Le.refl _, ?_, lhA⟩
                    show Value.int _ _ = _
                    unfold Cd.fld
                    repeat' (split <;> try (first | rfl | (exfalso; omega) | (exfalso; simp_all; done) | (exfalso; simp_all; omega)))
                · first
                  | (exfalso; exact cnA c22; done)
                  | skip
                    (try simp only [decide_eq_true_eq, decide_eq_false_iff_not, Bool.not_eq_true, Bool.not_eq_false, Bool.and_eq_true, Bool.or_eq_true, Bool.or_eq_false_iff, Bool.not_eq_true, Bool.not_eq_eq_eq_not, Bool.not_true, Bool.not_false] at c22)
                    refine CW_skip ?_
                    try simp only [Ex.thnH, Ex.inBlockH, ↓reduceIte, Nat.reduceEqDiff]
                    refine hK11 _ _ ?_; try clear hK11 K11
                    refine CW_seq (fun K14 hK14 => ?_)
                    refine CW_region ?_
                    refine OW_opS (fun K hK r => ?_)
                    simp only [x_fieldAddr, fa47_5, add_mk, Nat.reduceAdd, Nat.zero_add, eX, ↓reduceIte, Nat.reduceEqDiff, Int.reduceToNat]
                    refine hK _ _ ?_; clear hK K
                    refine OW_opS (fun K hK r => ?_)
                    simp only [x_load, eX, ↓reduceIte, Nat.reduceEqDiff, Int.reduceToNat]
                    refine Lt_loadAt1 Try.underlying3 rfl hbA ldA ?_
                    try simp only [eX, ↓reduceIte, Nat.reduceEqDiff, Int.reduceToNat]
                    refine hK _ _ ?_; clear hK K
                    refine OW_as rfl ?_
                    refine OW_nil ?_
                    try simp only [Ex.thnH, Ex.inBlockH, ↓reduceIte, Nat.reduceEqDiff]
                    refine hK14 _ _ ?_; try clear hK14 K14
                    refine CW_ret ?_
                    try simp only [Ex.thnH, Ex.inBlockH, ↓reduceIte, Nat.reduceEqDiff]
                    refine ⟨[_], ⟨rfl, trivial⟩, _, Le.refl _, ?_, lhA⟩
                    show Value.int _ _ = _
                    unfold Cd.fld
                    repeat' (split <;> try (first | rfl | (exfalso; omega) | (exfalso; simp_all; done) | (exfalso; simp_all; omega)))

set_option maxRecDepth 100000 in
set_option maxHeartbeats 8000000 in
theorem rEncode_ok (H : Hp) (f : Int) (vc : Value) (cs : List Cd) (hv : Holds H 6 vc cs.length (cds cs)) (hn : cs.length ≤ 20000) (hc : ∀ x ∈ cs, x.ok) : CallH Try.prog 20 #[.agg #[.int .i64 f, vc]] H (fun v' H' => Le H H' ∧ ∃ rs, OwnS H' 5 1 v' (encP f cs).length (u8s (encP f cs)) rs ∧ ∀ r, rs = some r → H r = none) := by
  refine CallH_enter (l := [_]) (rl := [.tmp 2]) (n := 65) Try.func20 rfl rfl rfl rfl rfl ?_
  simp only [envOf, Nat.reduceAdd]
  obtain ⟨av, kv, rfl⟩ := hv.form
  have hw10 : (cnt (IntKind.u64.wrap f).toNat).length ≤ 10 := cnt_len10 (by have := u64_lt f; omega)
  have hc10 := cnt_len10 (n := cs.length) (by omega)
  refine CW_seq (fun K1 hK1 => ?_)
  refine CW_region ?_
  refine OW_opS (fun K hK r => ?_)
  simp only [x_box, Value.cells, eX, ↓reduceIte, Nat.reduceEqDiff, Int.reduceToNat]
  intro b1 hb1
  have f1_H : H b1 = none := none_of_le lhA hb1
  obtain ⟨G, hG⟩ : ∃ G : Hp, G = H.upd b1 (.cells #[.int .i64 f, .slice av cs.length kv] 24) := ⟨_, rfl⟩
  rw [← hG]
  have kG_b1 : G b1 = some (.cells #[.int .i64 f, .slice av cs.length kv] 24) := by rw [hG]; exact upd_same _ _ _
  have lG_H : Le H G := by rw [hG]; exact le_upd _ _ _ hb1
  have hvG := hv.le lG_H
  try simp only [eX, ↓reduceIte, Nat.reduceEqDiff, Int.reduceToNat]
  refine hK _ _ ?_; clear hK K
  refine OW_as rfl ?_
  refine OW_nil ?_
  try simp only [Ex.thnH, Ex.inBlockH, ↓reduceIte, Nat.reduceEqDiff]
  refine hK1 _ _ ?_; try clear hK1 K1
  refine CW_seq (fun K2 hK2 => ?_)
  refine CW_region ?_
  refine OW_opS (fun K hK r => ?_)
  simp only [x_fieldAddr, fa24_0, add_mk, Nat.reduceAdd, Nat.zero_add, eX, ↓reduceIte, Nat.reduceEqDiff, Int.reduceToNat]
  refine hK _ _ ?_; clear hK K
  refine OW_opS (fun K hK r => ?_)
  simp only [x_load, eX, ↓reduceIte, Nat.reduceEqDiff, Int.reduceToNat]
  refine Lt_loadAt1 Try.underlying3 rfl hbA ldA ?_
  try simp only [eX, ↓reduceIte, Nat.reduceEqDiff, Int.reduceToNat]
  refine hK _ _ ?_; clear hK K
  refine OW_opS (fun K hK r => ?_)
  simp (disch := (first | omega | decide)) only [x_convert, c_int _ _ _ _ Try.underlying3 Try.underlying60, wrap_i64, wrap_u64, wrap_u32, wrap_u8, eX, ↓reduceIte, Nat.reduceEqDiff, Int.reduceToNat]
  rw [show IntKind.u64.wrap f = (((IntKind.u64.wrap f).toNat : Nat) : Int) from (Int.toNat_of_nonneg (u64_nonneg _)).symm]
  refine hK _ _ ?_; clear hK K
  refine OW_opS (fun K hK r => ?_)
  simp only [x_callF _ bd39, List.map_toArray, List.map_cons, List.map_nil, eX, ↓reduceIte, Nat.reduceEqDiff, Int.reduceToNat]
  refine (rfCount_ok _ (IntKind.u64.wrap f).toNat (by have := u64_lt f; omega)).mono ?_
  rintro v11 H11 ⟨hl11, rs11, ho11, hr11⟩
  try have kH11_b1 := hl11 b1 _ hbA
  have lH11_G : Le G H11 := Le.trans lhA hl11
  try simp only [eX, ↓reduceIte, Nat.reduceEqDiff, Int.reduceToNat]
  refine hK _ _ ?_; clear hK K
  refine OW_as rfl ?_
  refine OW_nil ?_
  try simp only [Ex.thnH, Ex.inBlockH, ↓reduceIte, Nat.reduceEqDiff]
  refine hK2 _ _ ?_; try clear hK2 K2
  refine CW_seq (fun K3 hK3 => ?_)
  refine CW_region ?_
  refine OW_mv rfl ?_
  refine OW_opS (fun K hK r => ?_)
  simp only [x_fieldAddr, fa24_1, add_mk, Nat.reduceAdd, Nat.zero_add, eX, ↓reduceIte, Nat.reduceEqDiff, Int.reduceToNat]
  refine hK _ _ ?_; clear hK K
  refine OW_opS (fun K hK r => ?_)
  simp only [x_load, eX, ↓reduceIte, Nat.reduceEqDiff, Int.reduceToNat]
  refine Lt_loadAt1 Try.underlying22 rfl hbA ldA ?_
  try simp only [eX, ↓reduceIte, Nat.reduceEqDiff, Int.reduceToNat]
  refine hK _ _ ?_; clear hK K
  refine OW_opS (fun K hK r => ?_)
  simp only [x_builtin, l_len, List.map_toArray, List.map_cons, List.map_nil, i_len_slice _ _ Try.underlying22, eX, ↓reduceIte, Nat.reduceEqDiff, Int.reduceToNat]
  refine hK _ _ ?_; clear hK K
  refine OW_opS (fun K hK r => ?_)
  simp (disch := (first | omega | decide)) only [x_convert, c_int _ _ _ _ Try.underlying3 Try.underlying60, wrap_i64, wrap_u64, wrap_u32, wrap_u8, eX, ↓reduceIte, Nat.reduceEqDiff, Int.reduceToNat]
  refine hK _ _ ?_; clear hK K
  refine OW_opS (fun K hK r => ?_)
  simp only [x_callF _ bd39, List.map_toArray, List.map_cons, List.map_nil, eX, ↓reduceIte, Nat.reduceEqDiff, Int.reduceToNat]
  refine (rfCount_ok _ cs.length (by omega)).mono ?_
  rintro v17 H17 ⟨hl17, rs17, ho17, hr17⟩
  try have kH17_b1 := hl17 b1 _ hbA
  have lH17_G : Le G H17 := Le.trans lhA hl17
  have ho11_ := ho11.le hl17
  have f11 : ∀ r, rs11 = some r → G r = none := hr11
  try simp only [eX, ↓reduceIte, Nat.reduceEqDiff, Int.reduceToNat]
  refine hK _ _ ?_; clear hK K
  refine OW_opS (fun K hK r => ?_)
  simp only [x_builtin, l_append, List.map_toArray, List.map_cons, List.map_nil, eX, ↓reduceIte, Nat.reduceEqDiff, Int.reduceToNat]
  refine Lt_append Try.underlying33 Try.underlying33 (by simp) sz5 by5 (by decide) zr5 rfl _ (n := (cnt (IntKind.u64.wrap f).toNat).length) (m := (cnt cs.length).length) ho11_ (fun K => len_holds ho17.holds K) (fun K => first_slice ho17.holds K) (by simp) (PlainL.ints _ _) (by omega) ?_
  intro v18 H18 rs18 hg18 ho18 hr18
  have lH18_G : Le G H18 := hg18.le (H0 := G) lhA (fun r hr => f11 r hr)
  have f18 : ∀ r, rs18 = some r → G r = none := fun r hr => by
    rcases hr18 r hr with h | h
    · exact f11 r h
    · exact none_of_le lhA h
  refine hK _ _ ?_; clear hK K
  refine OW_as rfl ?_
  refine OW_nil ?_
  try simp only [Ex.thnH, Ex.inBlockH, ↓reduceIte, Nat.reduceEqDiff]
  refine hK3 _ _ ?_; try clear hK3 K3
  refine CW_seq (fun K4 hK4 => ?_)
  refine CW_seq (fun K5 hK5 => ?_)
  refine CW_region ?_
  refine OW_as rfl ?_
  refine OW_nil ?_
  try simp only [Ex.thnH, Ex.inBlockH, ↓reduceIte, Nat.reduceEqDiff]
  refine hK5 _ _ ?_; try clear hK5 K5
  refine CW_block ?_
  refine CW_loop (fun m e H_ => ∃ (k : Nat) (v3 : Value) (rs : Option Nat), k ≤ cs.length ∧ m = cs.length - k ∧ OwnS H_ 5 1 v3 (cnt (IntKind.u64.wrap f).toNat ++ cnt cs.length ++ (cs.take k).flatMap encC).length (u8s (cnt (IntKind.u64.wrap f).toNat ++ cnt cs.length ++ (cs.take k).flatMap encC)) rs ∧ (∀ r, rs = some r → G r = none) ∧ Le G H_ ∧ Env.has [(1, .pointer (some ⟨b1, 0, none⟩)), (3, v3), (4, .int .i64 k)] e) (cs.length) ?_ ?_
  · skip
    refine ⟨0, v18, rs18, by omega, by omega, ?_, f18, lH18_G, rfl, rfl, rfl, trivial⟩
    simpa using ho18
  intro m_ e_ H_ hI_
  obtain ⟨k, v3, rs, hk, rfl, hok, hrk, hle, he⟩ := hI_
  have hk1 := hle _ _ kG_b1
  have hlen := fm_len (cs := cs.take k) (fun x hx => hc x (List.mem_of_mem_take hx))
  have htk : (cs.take k).length ≤ 20000 := by rw [List.length_take]; omega
  have hln : (cnt (IntKind.u64.wrap f).toNat ++ cnt cs.length ++ (cs.take k).flatMap encC).length ≤ 2000000 := by simp only [List.length_append]; omega
  refine CW_env he.sub ?_; clear he e_
  refine CW_seq (fun K6 hK6 => ?_)
  refine CW_seq (fun K7 hK7 => ?_)
  refine CW_region ?_
  refine OW_mv rfl ?_
  refine OW_opS (fun K hK r => ?_)
  simp only [x_fieldAddr, fa24_1, add_mk, Nat.reduceAdd, Nat.zero_add, eX, ↓reduceIte, Nat.reduceEqDiff, Int.reduceToNat]
  refine hK _ _ ?_; clear hK K
  refine OW_opS (fun K hK r => ?_)
  simp only [x_load, eX, ↓reduceIte, Nat.reduceEqDiff, Int.reduceToNat]
  refine Lt_loadAt1 Try.underlying22 rfl hbA ldA ?_
  try simp only [eX, ↓reduceIte, Nat.reduceEqDiff, Int.reduceToNat]
  refine hK _ _ ?_; clear hK K
  refine OW_opS (fun K hK r => ?_)
  simp only [x_builtin, l_len, List.map_toArray, List.map_cons, List.map_nil, i_len_slice _ _ Try.underlying22, eX, ↓reduceIte, Nat.reduceEqDiff, Int.reduceToNat]
  refine hK _ _ ?_; clear hK K
  refine OW_opS (fun K hK r => ?_)
  simp (disch := (first | omega | decide)) only [x_bin, g_int, b_lss, dec_lt_t, dec_lt_f, dec_le_t, dec_le_f, dec_eq_t, dec_eq_f, Bool.not_true, Bool.not_false, eX, ↓reduceIte, Nat.reduceEqDiff, Int.reduceToNat]
  refine hK _ _ ?_; clear hK K
  refine OW_nil ?_
  try simp only [Ex.thnH, Ex.inBlockH, ↓reduceIte, Nat.reduceEqDiff]
  refine hK7 _ _ ?_; try clear hK7 K7
  refine CW_cond (fun r => rfl) (fun c23 => ?_) (fun c23 => ?_)
  · first
    | (exfalso; exact cnA c23; done)
    | skip
      (try simp only [decide_eq_true_eq, decide_eq_false_iff_not, Bool.not_eq_true, Bool.not_eq_false, Bool.and_eq_true, Bool.or_eq_true, Bool.or_eq_false_iff, Bool.not_eq_true, Bool.not_eq_eq_eq_not, Bool.not_true, Bool.not_false] at c23)
      obtain ⟨bv, ov, qv, Tv, Fv, rfl, hbv, hsv, atv⟩ := hvG.at (by omega)
      have hbv_ := hle _ _ hbv
      refine CW_skip ?_
      try simp only [Ex.thnH, Ex.inBlockH, ↓reduceIte, Nat.reduceEqDiff]
      refine hK6 _ _ ?_; try clear hK6 K6
      refine CW_seq (fun K8 hK8 => ?_)
      refine CW_block ?_
      refine CW_seq (fun K9 hK9 => ?_)
      refine CW_region ?_
      refine OW_opS (fun K hK r => ?_)
      simp only [x_fieldAddr, fa24_1, add_mk, Nat.reduceAdd, Nat.zero_add, eX, ↓reduceIte, Nat.reduceEqDiff, Int.reduceToNat]
      refine hK _ _ ?_; clear hK K
      refine OW_opS (fun K hK r => ?_)
      simp only [x_load, eX, ↓reduceIte, Nat.reduceEqDiff, Int.reduceToNat]
      refine Lt_loadAt1 Try.underlying22 rfl hbA ldA ?_
      try simp only [eX, ↓reduceIte, Nat.reduceEqDiff, Int.reduceToNat]
      refine hK _ _ ?_; clear hK K
      refine OW_mv rfl ?_
      refine OW_opS (fun K hK r => ?_)
      simp only [x_indexAddr, eX, ↓reduceIte, Nat.reduceEqDiff, Int.reduceToNat]
      refine Lt_indexS Try.underlying22 sz47 ixA ixA ?_
      try simp only [add_mk, Nat.mul_one, Nat.zero_add, Int.reduceToNat]
      try simp only [eX, ↓reduceIte, Nat.reduceEqDiff, Int.reduceToNat]
      refine hK _ _ ?_; clear hK K
      refine OW_opS (fun K hK r => ?_)
      simp only [x_load, eX, ↓reduceIte, Nat.reduceEqDiff, Int.reduceToNat]
      refine Lt_loadAtA Try.underlying47 rfl sz47 hbA (by simp only [Int.toNat_natCast]; omega) ?_
      simp only [Int.toNat_natCast]
      rw [ext_at Cd.len atv rfl k (by omega) hsv]
      refine hK _ _ ?_; clear hK K
      refine OW_opS (fun K hK r => ?_)
      simp only [x_alloc, zr47, orF_some, Value.cells, eX, ↓reduceIte, Nat.reduceEqDiff, Int.reduceToNat]
      intro b5 hb5
      try have n5_b1 : b1 ≠ b5 := ne_of_none hbA hb5
      have f5_G : G b5 = none := none_of_le lhA hb5
      have n5rs : rs ≠ some b5 := hok.ne_fresh hb5
      try simp only [eX, ↓reduceIte, Nat.reduceEqDiff, Int.reduceToNat]
      refine hK _ _ ?_; clear hK K
      refine OW_op rfl (lt_none) (fun K hK r => ?_)
      simp only [x_store, eX, ↓reduceIte, Nat.reduceEqDiff, Int.reduceToNat]
      first | refine Lt_storeAll sz47 bdA hbA bdA plA (by decide) ?_ | refine Lt_storeAtA sz47 bdA hbA bdA plA (by decide) ?_
      try simp only [eX, ↓reduceIte, Nat.reduceEqDiff, Int.reduceToNat]
      refine hK _ _ ?_; clear hK K
      refine OW_nil ?_
      try simp only [Ex.thnH, Ex.inBlockH, ↓reduceIte, Nat.reduceEqDiff]
      refine hK9 _ _ ?_; try clear hK9 K9
      refine CW_seq (fun K10 hK10 => ?_)
      refine CW_region ?_
      refine OW_mv rfl ?_
      refine OW_opS (fun K hK r => ?_)
      simp only [x_fieldAddr, fa47_0, add_mk, Nat.reduceAdd, Nat.zero_add, eX, ↓reduceIte, Nat.reduceEqDiff, Int.reduceToNat]
      refine hK _ _ ?_; clear hK K
      refine OW_opS (fun K hK r => ?_)
      simp only [x_load, eX, ↓reduceIte, Nat.reduceEqDiff, Int.reduceToNat]
      refine Lt_loadAt1 Try.underlying3 rfl hbA ldA ?_
      try simp only [eX, ↓reduceIte, Nat.reduceEqDiff, Int.reduceToNat]
      refine hK _ _ ?_; clear hK K
      refine OW_opS (fun K hK r => ?_)
      simp (disch := (first | omega | decide)) only [x_convert, c_int _ _ _ _ Try.underlying3 Try.underlying5, wrap_i64, wrap_u64, wrap_u32, wrap_u8, eX, ↓reduceIte, Nat.reduceEqDiff, Int.reduceToNat]
      refine hK _ _ ?_; clear hK K
      refine OW_opS (fun K hK r => ?_)
      simp only [x_buildSlice, List.map_toArray, List.map_cons, List.map_nil, eX, ↓reduceIte, Nat.reduceEqDiff, Int.reduceToNat]
      refine Lt_buildSlice (vs := [_]) Try.underlying33 sz5 zr5 rfl bsA (by first | decide | (simp; done)) ?_
      simp only [List.flatMap_cons, List.flatMap_nil, Value.cells, List.append_nil, List.cons_append, List.nil_append, List.length_cons, List.length_nil, Nat.zero_add, Nat.reduceAdd]
      intro b35 hb35
      try have n35_b1 : b1 ≠ b35 := ne_of_none hbA hb35
      try have n35_b5 : b5 ≠ b35 := ne_of_none hbA hb35
      have f35_G : G b35 = none := none_of_le lhA hb35
      try simp only [eX, ↓reduceIte, Nat.reduceEqDiff, Int.reduceToNat]
      refine hK _ _ ?_; clear hK K
      refine OW_opS (fun K hK r => ?_)
      simp only [x_builtin, l_append, List.map_toArray, List.map_cons, List.map_nil, eX, ↓reduceIte, Nat.reduceEqDiff, Int.reduceToNat]
      refine Lt_append1 Try.underlying33 sz5 by5 (by decide) zr5 rfl _ (n := (cnt (IntKind.u64.wrap f).toNat ++ cnt cs.length ++ (cs.take k).flatMap encC).length) ((hok.upd n5rs).make hb35) hbA rfl (by omega) ?_
      intro v36 H36 rs36 hg36 ho36 hr36
      have lH36_G : Le G H36 := hg36.le (H0 := G) lhA (fun r hr => hrk r hr)
      have f36 : ∀ r, rs36 = some r → G r = none ∧ r ≠ b5 := fun r hr => by
        rcases hr36 r hr with h | h
        · exact ⟨hrk r h, fun e => n5rs (by rw [h, e])⟩
        · exact ⟨none_of_le lhA h, fun e => by subst e; rw [upd_ne _ _ n35_b5, upd_same] at h; cases h⟩
      have k36_b5 := hg36.known b5 _ hbA n5rs
      refine hK _ _ ?_; clear hK K
      refine OW_as rfl ?_
      refine OW_nil ?_
      try simp only [Ex.thnH, Ex.inBlockH, ↓reduceIte, Nat.reduceEqDiff]
      refine hK10 _ _ ?_; try clear hK10 K10
      refine CW_seq (fun K11 hK11 => ?_)
      refine CW_region ?_
      refine OW_opS (fun K hK r => ?_)
      simp only [x_fieldAddr, fa47_0, add_mk, Nat.reduceAdd, Nat.zero_add, eX, ↓reduceIte, Nat.reduceEqDiff, Int.reduceToNat]
      refine hK _ _ ?_; clear hK K
      refine OW_opS (fun K hK r => ?_)
      simp only [x_load, eX, ↓reduceIte, Nat.reduceEqDiff, Int.reduceToNat]
      refine Lt_loadAt1 Try.underlying3 rfl hbA ldA ?_
      try simp only [eX, ↓reduceIte, Nat.reduceEqDiff, Int.reduceToNat]
      refine hK _ _ ?_; clear hK K
      refine OW_opS (fun K hK r => ?_)
      simp only [x_callF _ bd10, List.map_toArray, List.map_cons, List.map_nil, eX, ↓reduceIte, Nat.reduceEqDiff, Int.reduceToNat]
      refine (rshape_ok _ (cs.getD k default).op).mono ?_
      rintro v H' ⟨rfl, rfl⟩
      try simp only [eX, ↓reduceIte, Nat.reduceEqDiff, Int.reduceToNat]
      refine hK _ _ ?_; clear hK K
      refine OW_as rfl ?_
      refine OW_nil ?_
      try simp only [Ex.thnH, Ex.inBlockH, ↓reduceIte, Nat.reduceEqDiff]
      refine hK11 _ _ ?_; try clear hK11 K11
      refine CW_seq (fun K12 hK12 => ?_)
      refine CW_region ?_
      refine OW_as rfl ?_
      refine OW_nil ?_
      try simp only [Ex.thnH, Ex.inBlockH, ↓reduceIte, Nat.reduceEqDiff]
      refine hK12 _ _ ?_; try clear hK12 K12
      refine CW_block ?_
      refine CW_loop (fun m e H_ => ∃ (j : Nat) (vj : Value) (rsj : Option Nat), j ≤ (shp (cs.getD k default).op).length ∧ m = (shp (cs.getD k default).op).length - j ∧ OwnS H_ 5 1 vj (cnt (IntKind.u64.wrap f).toNat ++ cnt cs.length ++ (cs.take k).flatMap encC ++ ((cs.getD k default).op % 256 :: ((shp (cs.getD k default).op).take j).flatMap (encF (cs.getD k default)))).length (u8s (cnt (IntKind.u64.wrap f).toNat ++ cnt cs.length ++ (cs.take k).flatMap encC ++ ((cs.getD k default).op % 256 :: ((shp (cs.getD k default).op).take j).flatMap (encF (cs.getD k default))))) rsj ∧ (∀ r, rsj = some r → G r = none ∧ r ≠ b5) ∧ Le G H_ ∧ H_ b5 = some (.cells (cs.getD k default).cells.toArray 47) ∧ Env.has [(1, .pointer (some ⟨b1, 0, none⟩)), (3, vj), (4, .int .i64 k), (5, .pointer (some ⟨b5, 0, none⟩)), (6, .string (strOf (shp (cs.getD k default).op))), (7, .int .i64 j)] e) ((shp (cs.getD k default).op).length) ?_ ?_
      · skip
        refine ⟨0, v36, rs36, by omega, by omega, ?_, f36, lH36_G, k36_b5, rfl, rfl, rfl, rfl, rfl, rfl, trivial⟩
        rw [w_u8] at ho36
        rw [List.take_zero, List.flatMap_nil, List.length_append, u8s, List.map_append]
        exact ho36
      intro m_ e_ H_ hI_
      obtain ⟨j, vj, rsj, hj, rfl, hoj, hrj, hlej, hk5, he⟩ := hI_
      have hle := hlej
      have hxk : (cs.getD k default).ok := hc _ (cd_mem (by omega))
      have hl5 := shp_len (cs.getD k default).op
      have hfl := ff_len hxk ((shp (cs.getD k default).op).take j)
      have htj : ((shp (cs.getD k default).op).take j).length ≤ 5 := by rw [List.length_take]; omega
      have hlnj : (cnt (IntKind.u64.wrap f).toNat ++ cnt cs.length ++ (cs.take k).flatMap encC ++ ((cs.getD k default).op % 256 :: ((shp (cs.getD k default).op).take j).flatMap (encF (cs.getD k default)))).length ≤ 2000100 := by
        rw [List.length_append, List.length_cons]; omega
      have hwn := cnt_len10 (n := zig (cs.getD k default).n) (zig_lt hxk.n1 hxk.n2)
      refine CW_env he.sub ?_; clear he e_
      refine CW_seq (fun K13 hK13 => ?_)
      refine CW_seq (fun K14 hK14 => ?_)
      refine CW_region ?_
      refine OW_mv rfl ?_
      refine OW_mv rfl ?_
      refine OW_opS (fun K hK r => ?_)
      simp only [x_builtin, l_len, List.map_toArray, List.map_cons, List.map_nil, i_len_string _ Try.underlying9, eX, ↓reduceIte, Nat.reduceEqDiff, Int.reduceToNat]
      try simp only [strOf_size]
      refine hK _ _ ?_; clear hK K
      refine OW_opS (fun K hK r => ?_)
      simp (disch := (first | omega | decide)) only [x_bin, g_int, b_lss, dec_lt_t, dec_lt_f, dec_le_t, dec_le_f, dec_eq_t, dec_eq_f, Bool.not_true, Bool.not_false, eX, ↓reduceIte, Nat.reduceEqDiff, Int.reduceToNat]
      refine hK _ _ ?_; clear hK K
      refine OW_nil ?_
      try simp only [Ex.thnH, Ex.inBlockH, ↓reduceIte, Nat.reduceEqDiff]
      refine hK14 _ _ ?_; try clear hK14 K14
      refine CW_cond (fun r => rfl) (fun c43 => ?_) (fun c43 => ?_)
      · first
        | (exfalso; exact cnA c43; done)
        | skip
          (try simp only [decide_eq_true_eq, decide_eq_false_iff_not, Bool.not_eq_true, Bool.not_eq_false, Bool.and_eq_true, Bool.or_eq_true, Bool.or_eq_false_iff, Bool.not_eq_true, Bool.not_eq_eq_eq_not, Bool.not_true, Bool.not_false] at c43)
          refine CW_skip ?_
          try simp only [Ex.thnH, Ex.inBlockH, ↓reduceIte, Nat.reduceEqDiff]
          refine hK13 _ _ ?_; try clear hK13 K13
          refine CW_seq (fun K15 hK15 => ?_)
          refine CW_block ?_
          refine CW_seq (fun K16 hK16 => ?_)
          refine CW_region ?_
          refine OW_mv rfl ?_
          refine OW_mv rfl ?_
          refine OW_opS (fun K hK r => ?_)
          simp only [x_index, eX, ↓reduceIte, Nat.reduceEqDiff, Int.reduceToNat]
          refine Lt_letter Try.underlying9 (shp_bytes _) (by omega) ?_
          refine hK _ _ ?_; clear hK K
          refine OW_opS (fun K hK r => ?_)
          simp (disch := (first | omega | decide)) only [x_bin, g_int, b_eql, dec_lt_t, dec_lt_f, dec_le_t, dec_le_f, dec_eq_t, dec_eq_f, Bool.not_true, Bool.not_false, eX, ↓reduceIte, Nat.reduceEqDiff, Int.reduceToNat]
          refine hK _ _ ?_; clear hK K
          refine OW_nil ?_
          try simp only [Ex.thnH, Ex.inBlockH, ↓reduceIte, Nat.reduceEqDiff]
          refine hK16 _ _ ?_; try clear hK16 K16
          refine CW_cond (fun r => rfl) (fun c49 => ?_) (fun c49 => ?_)
          · first
            | (exfalso; exact cnA c49; done)
            | skip
              (try simp only [decide_eq_true_eq, decide_eq_false_iff_not, Bool.not_eq_true, Bool.not_eq_false, Bool.and_eq_true, Bool.or_eq_true, Bool.or_eq_false_iff, Bool.not_eq_true, Bool.not_eq_eq_eq_not, Bool.not_true, Bool.not_false] at c49)
              refine CW_region ?_
              refine OW_mv rfl ?_
              refine OW_opS (fun K hK r => ?_)
              simp only [x_fieldAddr, fa47_5, add_mk, Nat.reduceAdd, Nat.zero_add, eX, ↓reduceIte, Nat.reduceEqDiff, Int.reduceToNat]
              refine hK _ _ ?_; clear hK K
              refine OW_opS (fun K hK r => ?_)
              simp only [x_load, eX, ↓reduceIte, Nat.reduceEqDiff, Int.reduceToNat]
              refine Lt_loadAt1 Try.underlying3 rfl hbA ldA ?_
              try simp only [eX, ↓reduceIte, Nat.reduceEqDiff, Int.reduceToNat]
              refine hK _ _ ?_; clear hK K
              refine OW_opS (fun K hK r => ?_)
              simp only [x_callF _ bd40, List.map_toArray, List.map_cons, List.map_nil, eX, ↓reduceIte, Nat.reduceEqDiff, Int.reduceToNat]
              refine (rfNum_ok _ (cs.getD k default).n hxk.n1 hxk.n2).mono ?_
              rintro v53 H53 ⟨hl53, rs53, ho53, hr53⟩
              have lH53_G : Le G H53 := Le.trans hle hl53
              have kH53_b5 := hl53 b5 _ hk5
              have hoj53 := hoj.le hl53
              try simp only [eX, ↓reduceIte, Nat.reduceEqDiff, Int.reduceToNat]
              refine hK _ _ ?_; clear hK K
              refine OW_opS (fun K hK r => ?_)
              simp only [x_builtin, l_append, List.map_toArray, List.map_cons, List.map_nil, eX, ↓reduceIte, Nat.reduceEqDiff, Int.reduceToNat]
              refine Lt_append Try.underlying33 Try.underlying33 (by simp) sz5 by5 (by decide) zr5 rfl _ (n := (cnt (IntKind.u64.wrap f).toNat ++ cnt cs.length ++ (cs.take k).flatMap encC ++ ((cs.getD k default).op % 256 :: ((shp (cs.getD k default).op).take j).flatMap (encF (cs.getD k default)))).length) (m := (cnt (zig (cs.getD k default).n)).length) hoj53 (fun K => len_holds ho53.holds K) (fun K => first_slice ho53.holds K) (by simp) (PlainL.ints _ _) (by omega) ?_
              intro v54 H54 rs54 hg54 ho54 hr54
              have lH54_G : Le G H54 := hg54.le (H0 := G) lhA (fun r hr => (hrj r hr).1)
              have f54 : ∀ r, rs54 = some r → G r = none ∧ r ≠ b5 := fun r hr => by
                rcases hr54 r hr with h | h
                · exact hrj r h
                · exact ⟨none_of_le lhA h, fun e => by subst e; rw [kH53_b5] at h; cases h⟩
              have k54_b5 := hg54.known b5 _ kH53_b5 (fun e => (hrj b5 e).2 rfl)
              refine hK _ _ ?_; clear hK K
              refine OW_as rfl ?_
              refine OW_nil ?_
              try simp only [Ex.thnH, Ex.inBlockH, ↓reduceIte, Nat.reduceEqDiff]
              refine hK15 _ _ ?_; try clear hK15 K15
              refine CW_region ?_
              refine OW_mv rfl ?_
              refine OW_opS (fun K hK r => ?_)
              simp (disch := (first | omega | decide)) only [x_bin, g_int, b_add, wrap_i64, wrap_u64, wrap_u32, wrap_u8, eX, ↓reduceIte, Nat.reduceEqDiff, Int.reduceToNat]
              refine hK _ _ ?_; clear hK K
              refine OW_as rfl ?_
              refine OW_nil ?_
              try simp only [Ex.thnH, Ex.inBlockH, ↓reduceIte, Nat.reduceEqDiff]
              first
              | (refine ⟨(shp (cs.getD k default).op).length - (j + 1), by omega, j + 1, v54, rs54, by omega, rfl, ?_, f54, lH54_G, k54_b5, rfl, rfl, rfl, rfl, rfl, rfl, trivial⟩
                 rw [encF_step _ (by omega), encF_n (by assumption)]; have h := ho54; rw [u8s, u8s, ← List.map_append, ← List.length_append, List.append_assoc, List.cons_append] at h; exact h)
              | (refine ⟨(shp (cs.getD k default).op).length - (j + 1), by omega, j + 1, v63, rs63, by omega, rfl, ?_, f63, lH63_G, k63_b5, rfl, rfl, rfl, rfl, rfl, rfl, trivial⟩
                 rw [encF_step _ (by omega), encF_o (by assumption)]; have h := ho63; rw [u8s, u8s, ← List.map_append, ← List.length_append, List.append_assoc, List.cons_append] at h; exact h)
          · first
            | (exfalso; exact cnA c49; done)
            | skip
              (try simp only [decide_eq_true_eq, decide_eq_false_iff_not, Bool.not_eq_true, Bool.not_eq_false, Bool.and_eq_true, Bool.or_eq_true, Bool.or_eq_false_iff, Bool.not_eq_true, Bool.not_eq_eq_eq_not, Bool.not_true, Bool.not_false] at c49)
              obtain ⟨R14, hR14⟩ : ∃ R : Hp, R = emptyHp.upd b5 (.cells (cs.getD k default).cells.toArray 47) := ⟨_, rfl⟩
              refine CW_drawR [0, 1, 0, 0, 0, 3, 0, 2, 2, 0] [0, 1, 2, 3, 4, 5, 6, 7, 8, 9] R14 (by kernel_rfl) (by kernel_rfl) (by subst hR14; exact le_put (le_empty _) hk5) (fun lR14 => ?_)
              apply TW_pure rfl (lt_some (by decide)) rfl
              · intro r
                simp only [x_move, eX, ↓reduceIte, Nat.reduceEqDiff]
                exact ⟨rfl, Le.refl _⟩
              simp only [eX, ↓reduceIte, Nat.reduceEqDiff, Int.reduceToNat]
              apply TW_look rfl (lt_some (by decide)) rfl
              · intro r
                simp only [x_load, eX, ↓reduceIte, Nat.reduceEqDiff]
                first | refine Lt_loadAll Try.underlying47 rfl sz47 hbA bdA ?_ | refine Lt_loadAtA Try.underlying47 rfl sz47 hbA bdA ?_
                try simp only [List.extract_toArray, List.extract_eq_take_drop, Nat.zero_add, Nat.reduceAdd, Nat.reduceSub, Nat.sub_zero, List.drop_succ_cons, List.drop_zero, List.take_succ_cons, List.take_zero, List.take_nil, List.drop_nil]
                exact ⟨rfl, Le.refl _⟩
              simp only [eX, ↓reduceIte, Nat.reduceEqDiff, Int.reduceToNat]
              apply TW_pure rfl (lt_some (by decide)) rfl
              · intro r
                simp only [x_move, eX, ↓reduceIte, Nat.reduceEqDiff]
                exact ⟨rfl, Le.refl _⟩
              simp only [eX, ↓reduceIte, Nat.reduceEqDiff, Int.reduceToNat]
              apply TW_pure rfl (lt_some (by decide)) rfl
              · intro r
                simp only [x_move, eX, ↓reduceIte, Nat.reduceEqDiff]
                exact ⟨rfl, Le.refl _⟩
              simp only [eX, ↓reduceIte, Nat.reduceEqDiff, Int.reduceToNat]
              apply TW_pure rfl (lt_some (by decide)) rfl
              · intro r
                simp only [x_index, eX, ↓reduceIte, Nat.reduceEqDiff]
                refine Lt_letter Try.underlying9 (shp_bytes _) (by omega) ?_
                exact ⟨rfl, Le.refl _⟩
              simp only [eX, ↓reduceIte, Nat.reduceEqDiff, Int.reduceToNat]
              refine TW_last rfl (lt_some (by decide)) rfl (fun K hK r => ?_)
              simp only [x_callF _ bd41, List.map_toArray, List.map_cons, List.map_nil, eX, ↓reduceIte, Nat.reduceEqDiff, Int.reduceToNat]
              refine (value_ok _ (cs.getD k default) ((shp (cs.getD k default).op).getD j 0)).mono ?_
              rintro v60 H60 ⟨rfl, hl60⟩
              have lH60_G : Le G H60 := Le.trans hle hl60
              have kH60_b5 := hl60 b5 _ hk5
              have lR60 : Le R14 H60 := by rw [hR14]; exact le_put (le_empty _) kH60_b5
              try simp only [eX, ↓reduceIte, Nat.reduceEqDiff, Int.reduceToNat]
              refine hK _ _ ?_; clear hK K
              apply TW_pure rfl (lt_some (by decide)) rfl
              · intro r
                simp (disch := (first | omega | decide)) only [x_convert, c_int _ _ _ _ Try.underlying3 Try.underlying60, wrap_i64, wrap_u64, wrap_u32, wrap_u8, eX, ↓reduceIte, Nat.reduceEqDiff]
                rw [show IntKind.u64.wrap ((cs.getD k default).fld ((shp (cs.getD k default).op).getD j 0)) = (((IntKind.u64.wrap ((cs.getD k default).fld ((shp (cs.getD k default).op).getD j 0))).toNat : Nat) : Int) from (Int.toNat_of_nonneg (u64_nonneg _)).symm]
                exact ⟨rfl, Le.refl _⟩
              simp only [eX, ↓reduceIte, Nat.reduceEqDiff, Int.reduceToNat]
              refine TW_chain rfl (lt_some (by decide)) rfl (fun K hK r => ?_)
              simp only [x_callF _ bd39, List.map_toArray, List.map_cons, List.map_nil, eX, ↓reduceIte, Nat.reduceEqDiff, Int.reduceToNat]
              refine (rfCount_ok _ (IntKind.u64.wrap ((cs.getD k default).fld ((shp (cs.getD k default).op).getD j 0))).toNat (by have := u64_lt ((cs.getD k default).fld ((shp (cs.getD k default).op).getD j 0)); omega)).mono ?_
              rintro v62 H62 ⟨hl62, rs62, ho62, hr62⟩
              have lH62_G : Le G H62 := Le.trans lH60_G hl62
              have kH62_b5 := hl62 b5 _ kH60_b5
              have lR62 : Le R14 H62 := by rw [hR14]; exact le_put (le_empty _) kH62_b5
              have hoj62 := (hoj.le hl60).le hl62
              have hwf := cnt_wrap_len ((cs.getD k default).fld ((shp (cs.getD k default).op).getD j 0))
              try simp only [eX, ↓reduceIte, Nat.reduceEqDiff, Int.reduceToNat]
              refine hK _ _ leA ?_; clear hK K
              refine TW_chain rfl (lt_some (by decide)) rfl (fun K hK r => ?_)
              simp only [x_builtin, l_append, List.map_toArray, List.map_cons, List.map_nil, eX, ↓reduceIte, Nat.reduceEqDiff, Int.reduceToNat]
              refine Lt_append Try.underlying33 Try.underlying33 (by simp) sz5 by5 (by decide) zr5 rfl _ (n := (cnt (IntKind.u64.wrap f).toNat ++ cnt cs.length ++ (cs.take k).flatMap encC ++ ((cs.getD k default).op % 256 :: ((shp (cs.getD k default).op).take j).flatMap (encF (cs.getD k default)))).length) (m := (cnt (IntKind.u64.wrap ((cs.getD k default).fld ((shp (cs.getD k default).op).getD j 0))).toNat).length) hoj62 (fun K => len_holds ho62.holds K) (fun K => first_slice ho62.holds K) (by simp) (PlainL.ints _ _) (by omega) ?_
              intro v63 H63 rs63 hg63 ho63 hr63
              have lH63_G : Le G H63 := hg63.le (H0 := G) lhA (fun r hr => (hrj r hr).1)
              have f63 : ∀ r, rs63 = some r → G r = none ∧ r ≠ b5 := fun r hr => by
                rcases hr63 r hr with h | h
                · exact hrj r h
                · exact ⟨none_of_le lhA h, fun e => by subst e; rw [kH62_b5] at h; cases h⟩
              have k63_b5 := hg63.known b5 _ kH62_b5 (fun e => (hrj b5 e).2 rfl)
              have lR63 : Le R14 H63 := by rw [hR14]; exact le_put (le_empty _) k63_b5
              refine hK _ _ leA ?_; clear hK K
              apply TW_pure rfl (lt_some (by decide)) rfl
              · intro r
                simp only [x_assign, eX, ↓reduceIte, Nat.reduceEqDiff]
                exact ⟨rfl, Le.refl _⟩
              simp only [eX, ↓reduceIte, Nat.reduceEqDiff, Int.reduceToNat]
              refine TW_nil ?_
              try simp only [Ex.thnH, Ex.inBlockH, ↓reduceIte, Nat.reduceEqDiff]
              refine hK15 _ _ ?_; try clear hK15 K15
              refine CW_region ?_
              refine OW_mv rfl ?_
              refine OW_opS (fun K hK r => ?_)
              simp (disch := (first | omega | decide)) only [x_bin, g_int, b_add, wrap_i64, wrap_u64, wrap_u32, wrap_u8, eX, ↓reduceIte, Nat.reduceEqDiff, Int.reduceToNat]
              refine hK _ _ ?_; clear hK K
              refine OW_as rfl ?_
              refine OW_nil ?_
              try simp only [Ex.thnH, Ex.inBlockH, ↓reduceIte, Nat.reduceEqDiff]
              first
              | (refine ⟨(shp (cs.getD k default).op).length - (j + 1), by omega, j + 1, v54, rs54, by omega, rfl, ?_, f54, lH54_G, k54_b5, rfl, rfl, rfl, rfl, rfl, rfl, trivial⟩
                 rw [encF_step _ (by omega), encF_n (by assumption)]; have h := ho54; rw [u8s, u8s, ← List.map_append, ← List.length_append, List.append_assoc, List.cons_append] at h; exact h)
              | (refine ⟨(shp (cs.getD k default).op).length - (j + 1), by omega, j + 1, v63, rs63, by omega, rfl, ?_, f63, lH63_G, k63_b5, rfl, rfl, rfl, rfl, rfl, rfl, trivial⟩
                 rw [encF_step _ (by omega), encF_o (by assumption)]; have h := ho63; rw [u8s, u8s, ← List.map_append, ← List.length_append, List.append_assoc, List.cons_append] at h; exact h)
      · first
        | (exfalso; exact cnA c43; done)
        | skip
          (try simp only [decide_eq_true_eq, decide_eq_false_iff_not, Bool.not_eq_true, Bool.not_eq_false, Bool.and_eq_true, Bool.or_eq_true, Bool.or_eq_false_iff, Bool.not_eq_true, Bool.not_eq_eq_eq_not, Bool.not_true, Bool.not_false] at c43)
          refine CW_exit ?_
          try simp only [Ex.thnH, Ex.inBlockH, ↓reduceIte, Nat.reduceEqDiff]
          refine hK8 _ _ ?_; try clear hK8 K8
          refine CW_region ?_
          refine OW_mv rfl ?_
          refine OW_opS (fun K hK r => ?_)
          simp (disch := (first | omega | decide)) only [x_bin, g_int, b_add, wrap_i64, wrap_u64, wrap_u32, wrap_u8, eX, ↓reduceIte, Nat.reduceEqDiff, Int.reduceToNat]
          refine hK _ _ ?_; clear hK K
          refine OW_as rfl ?_
          refine OW_nil ?_
          try simp only [Ex.thnH, Ex.inBlockH, ↓reduceIte, Nat.reduceEqDiff]
          have hj' : j = (shp (cs.getD k default).op).length := by omega
          subst hj'
          refine ⟨cs.length - (k + 1), by omega, k + 1, vj, rsj, by omega, rfl, ?_, fun r hr => (hrj r hr).1, hlej, rfl, rfl, rfl, trivial⟩
          rw [List.take_length] at hoj
          rw [encCs_step (by omega), ← List.append_assoc]; exact hoj
  · first
    | (exfalso; exact cnA c23; done)
    | skip
      (try simp only [decide_eq_true_eq, decide_eq_false_iff_not, Bool.not_eq_true, Bool.not_eq_false, Bool.and_eq_true, Bool.or_eq_true, Bool.or_eq_false_iff, Bool.not_eq_true, Bool.not_eq_eq_eq_not, Bool.not_true, Bool.not_false] at c23)
      refine CW_exit ?_
      try simp only [Ex.thnH, Ex.inBlockH, ↓reduceIte, Nat.reduceEqDiff]
      refine hK4 _ _ ?_; try clear hK4 K4
      refine CW_seq (fun K17 hK17 => ?_)
      refine CW_region ?_
      refine OW_mv rfl ?_
      refine OW_as rfl ?_
      refine OW_nil ?_
      try simp only [Ex.thnH, Ex.inBlockH, ↓reduceIte, Nat.reduceEqDiff]
      refine hK17 _ _ ?_; try clear hK17 K17
      refine CW_ret ?_
      try simp only [Ex.thnH, Ex.inBlockH, ↓reduceIte, Nat.reduceEqDiff]
      have ek : k = cs.length := by omega
      subst ek
      refine ⟨[_], ⟨rfl, trivial⟩, _, Le.refl _, Le.trans lG_H hle, rs, ?_, fun r hr => none_of_le lG_H (hrk r hr)⟩
      rw [List.take_length] at hok
      exact hok

end Go.Proofs.Ytlkopcgoaldpeaa.HL
end
section
namespace Go.Proofs.Ytlkopcgoaldpeaa.HL
open Go Go.Proofs
set_option linter.unusedSimpArgs false
set_option linter.unusedVariables false
attribute [local irreducible] Lt Lq CW OW TW CallH

set_option maxRecDepth 100000 in
set_option maxHeartbeats 1000000 in
theorem uses_ok (H : Hp) (L : List Int) (l : Int) (hB : ByteL L) (hn : L.length ≤ 100) : CallH Try.prog 52 #[.string (strOf L), .int .u8 l] H (fun v H' => v = .bool (decide (l ∈ L)) ∧ H' = H) := by
  refine CallH_enter (l := [_, _]) (rl := [.tmp 4]) (n := 17) Try.func52 rfl rfl rfl rfl rfl ?_
  simp only [envOf, Nat.reduceAdd]
  refine CW_seq (fun K1 hK1 => ?_)
  refine CW_region ?_
  refine OW_as rfl ?_
  refine OW_nil ?_
  try simp only [Ex.thnH, Ex.inBlockH, ↓reduceIte, Nat.reduceEqDiff]
  refine hK1 _ _ ?_; try clear hK1 K1
  refine CW_seq (fun K2 hK2 => ?_)
  refine CW_seq (fun K3 hK3 => ?_)
  refine CW_region ?_
  refine OW_as rfl ?_
  refine OW_nil ?_
  try simp only [Ex.thnH, Ex.inBlockH, ↓reduceIte, Nat.reduceEqDiff]
  refine hK3 _ _ ?_; try clear hK3 K3
  refine CW_block ?_
  refine CW_loop (fun m e H_ => ∃ k : Nat, k ≤ L.length ∧ m = L.length - k ∧ l ∉ L.take k ∧ Env.has [(0, .string (strOf L)), (1, .int .u8 l), (5, .int .i64 k)] e ∧ H_ = H) (L.length) ?_ ?_
  · skip
    exact ⟨0, by omega, by omega, by simp, ⟨rfl, rfl, rfl, trivial⟩, rfl⟩
  intro m_ e_ H_ hI_
  obtain ⟨k, hk, rfl, hno, he, hH_⟩ := hI_
  have hH_ := hH_.symm; subst hH_
  refine CW_env he.sub ?_; clear he e_
  refine CW_seq (fun K4 hK4 => ?_)
  refine CW_seq (fun K5 hK5 => ?_)
  refine CW_region ?_
  refine OW_mv rfl ?_
  refine OW_mv rfl ?_
  refine OW_opS (fun K hK r => ?_)
  simp only [x_builtin, l_len, List.map_toArray, List.map_cons, List.map_nil, i_len_string _ Try.underlying9, eX, ↓reduceIte, Nat.reduceEqDiff, Int.reduceToNat]
  try simp only [strOf_size]
  refine hK _ _ ?_; clear hK K
  refine OW_opS (fun K hK r => ?_)
  simp (disch := (first | omega | decide)) only [x_bin, g_int, b_lss, dec_lt_t, dec_lt_f, dec_le_t, dec_le_f, dec_eq_t, dec_eq_f, Bool.not_true, Bool.not_false, eX, ↓reduceIte, Nat.reduceEqDiff, Int.reduceToNat]
  refine hK _ _ ?_; clear hK K
  refine OW_nil ?_
  try simp only [Ex.thnH, Ex.inBlockH, ↓reduceIte, Nat.reduceEqDiff]
  refine hK5 _ _ ?_; try clear hK5 K5
  refine CW_cond (fun r => rfl) (fun c9 => ?_) (fun c9 => ?_)
  · first
    | (exfalso; exact cnA c9; done)
    | skip
      (try simp only [decide_eq_true_eq, decide_eq_false_iff_not, Bool.not_eq_true, Bool.not_eq_false, Bool.and_eq_true, Bool.or_eq_true, Bool.or_eq_false_iff, Bool.not_eq_true, Bool.not_eq_eq_eq_not, Bool.not_true, Bool.not_false] at c9)
      refine CW_skip ?_
      try simp only [Ex.thnH, Ex.inBlockH, ↓reduceIte, Nat.reduceEqDiff]
      refine hK4 _ _ ?_; try clear hK4 K4
      refine CW_seq (fun K6 hK6 => ?_)
      refine CW_block ?_
      refine CW_seq (fun K7 hK7 => ?_)
      refine CW_region ?_
      refine OW_mv rfl ?_
      refine OW_mv rfl ?_
      refine OW_opS (fun K hK r => ?_)
      simp only [x_index, eX, ↓reduceIte, Nat.reduceEqDiff, Int.reduceToNat]
      refine Lt_letter Try.underlying9 hB (by omega) ?_
      refine hK _ _ ?_; clear hK K
      refine OW_mv rfl ?_
      refine OW_opS (fun K hK r => ?_)
      simp (disch := (first | omega | decide)) only [x_bin, g_int, b_eql, dec_lt_t, dec_lt_f, dec_le_t, dec_le_f, dec_eq_t, dec_eq_f, Bool.not_true, Bool.not_false, eX, ↓reduceIte, Nat.reduceEqDiff, Int.reduceToNat]
      refine hK _ _ ?_; clear hK K
      refine OW_nil ?_
      try simp only [Ex.thnH, Ex.inBlockH, ↓reduceIte, Nat.reduceEqDiff]
      refine hK7 _ _ ?_; try clear hK7 K7
      refine CW_cond (fun r => rfl) (fun c16 => ?_) (fun c16 => ?_)
      · first
        | (exfalso; exact cnA c16; done)
        | skip
          (try simp only [decide_eq_true_eq, decide_eq_false_iff_not, Bool.not_eq_true, Bool.not_eq_false, Bool.and_eq_true, Bool.or_eq_true, Bool.or_eq_false_iff, Bool.not_eq_true, Bool.not_eq_eq_eq_not, Bool.not_true, Bool.not_false] at c16)
          refine CW_seq (fun K8 hK8 => ?_)
          refine CW_region ?_
          refine OW_as rfl ?_
          refine OW_nil ?_
          try simp only [Ex.thnH, Ex.inBlockH, ↓reduceIte, Nat.reduceEqDiff]
          refine hK8 _ _ ?_; try clear hK8 K8
          refine CW_ret ?_
          try simp only [Ex.thnH, Ex.inBlockH, ↓reduceIte, Nat.reduceEqDiff]
          refine ⟨[_], ⟨rfl, trivial⟩, _, Le.refl _, ?_, rfl⟩
          show Value.bool _ = _
          rw [decide_eq_true (mem_of_getD (k := k) (by omega) (by first | assumption | simp_all))]
      · first
        | (exfalso; exact cnA c16; done)
        | skip
          (try simp only [decide_eq_true_eq, decide_eq_false_iff_not, Bool.not_eq_true, Bool.not_eq_false, Bool.and_eq_true, Bool.or_eq_true, Bool.or_eq_false_iff, Bool.not_eq_true, Bool.not_eq_eq_eq_not, Bool.not_true, Bool.not_false] at c16)
          refine CW_skip ?_
          try simp only [Ex.thnH, Ex.inBlockH, ↓reduceIte, Nat.reduceEqDiff]
          refine hK6 _ _ ?_; try clear hK6 K6
          refine CW_region ?_
          refine OW_mv rfl ?_
          refine OW_opS (fun K hK r => ?_)
          simp (disch := (first | omega | decide)) only [x_bin, g_int, b_add, wrap_i64, wrap_u64, wrap_u32, wrap_u8, eX, ↓reduceIte, Nat.reduceEqDiff, Int.reduceToNat]
          refine hK _ _ ?_; clear hK K
          refine OW_as rfl ?_
          refine OW_nil ?_
          try simp only [Ex.thnH, Ex.inBlockH, ↓reduceIte, Nat.reduceEqDiff]
          exact ⟨L.length - (k + 1), by omega, k + 1, by omega, rfl, no_step (by omega) hno (by first | assumption | simp_all), ⟨rfl, rfl, rfl, trivial⟩, rfA⟩
  · first
    | (exfalso; exact cnA c9; done)
    | skip
      (try simp only [decide_eq_true_eq, decide_eq_false_iff_not, Bool.not_eq_true, Bool.not_eq_false, Bool.and_eq_true, Bool.or_eq_true, Bool.or_eq_false_iff, Bool.not_eq_true, Bool.not_eq_eq_eq_not, Bool.not_true, Bool.not_false] at c9)
      refine CW_exit ?_
      try simp only [Ex.thnH, Ex.inBlockH, ↓reduceIte, Nat.reduceEqDiff]
      refine hK2 _ _ ?_; try clear hK2 K2
      refine CW_seq (fun K9 hK9 => ?_)
      refine CW_region ?_
      refine OW_as rfl ?_
      refine OW_nil ?_
      try simp only [Ex.thnH, Ex.inBlockH, ↓reduceIte, Nat.reduceEqDiff]
      refine hK9 _ _ ?_; try clear hK9 K9
      refine CW_ret ?_
      try simp only [Ex.thnH, Ex.inBlockH, ↓reduceIte, Nat.reduceEqDiff]
      refine ⟨[_], ⟨rfl, trivial⟩, _, Le.refl _, ?_, rfl⟩
      show Value.bool _ = _
      have ek : k = L.length := by omega
      subst ek
      rw [List.take_length] at hno
      rw [decide_eq_false hno]


theorem uses_op (H : Hp) (op l : Int) : CallH Try.prog 52 #[.string (strOf (shp op)), .int .u8 l] H (fun v H' => v = .bool (usesB op l) ∧ H' = H) :=
  uses_ok H (shp op) l (shp_bytes op) (by have := shp_len op; omega)

set_option maxRecDepth 100000 in
set_option maxHeartbeats 1000000 in
theorem register_t (H : Hp) (n : Int) : CallH Try.prog 51 #[.bool true, .int .i64 n] H (fun v H' => v = .bool (regB true n) ∧ H' = H) := by
  refine CallH_enter (l := [_, _]) (rl := [.tmp 4]) (n := 22) Try.func51 rfl rfl rfl rfl rfl ?_
  simp only [envOf, Nat.reduceAdd]
  refine CW_seq (fun K1 hK1 => ?_)
  refine CW_region ?_
  refine OW_as rfl ?_
  refine OW_nil ?_
  try simp only [Ex.thnH, Ex.inBlockH, ↓reduceIte, Nat.reduceEqDiff]
  refine hK1 _ _ ?_; try clear hK1 K1
  refine CW_seq (fun K2 hK2 => ?_)
  refine CW_region ?_
  refine OW_mv rfl ?_
  refine OW_mv rfl ?_
  (first | refine OW_split (d := 6) rfl (fun g6 => ?_) (fun g6 => ?_) | skip)
  all_goals try (exfalso; exact cnA g6)
  all_goals (try simp only [decide_eq_true_eq, decide_eq_false_iff_not, Bool.not_eq_true, Bool.not_eq_false, Bool.and_eq_true, Bool.or_eq_true, Bool.or_eq_false_iff, Bool.not_eq_true, Bool.not_eq_eq_eq_not, Bool.not_true, Bool.not_false] at g6)
  all_goals
    try simp only [eX, ↓reduceIte, Nat.reduceEqDiff, Int.reduceToNat]
    first
    | refine OW_guardT rfl (lt_some (by decide)) rfl (fun K hK r => ?_)
      simp only [x_move, eX, ↓reduceIte, Nat.reduceEqDiff, Int.reduceToNat]
      refine hK _ _ ?_; clear hK K
    | refine OW_guardF rfl (lt_some (by decide)) rfl ?_
      simp only [eX, ↓reduceIte, Nat.reduceEqDiff, Int.reduceToNat]
    first
    | refine OW_guardT rfl (lt_some (by decide)) rfl (fun K hK r => ?_)
      simp (disch := (first | omega | decide)) only [x_bin, g_int, b_geq, dec_lt_t, dec_lt_f, dec_le_t, dec_le_f, dec_eq_t, dec_eq_f, Bool.not_true, Bool.not_false, eX, ↓reduceIte, Nat.reduceEqDiff, Int.reduceToNat]
      refine hK _ _ ?_; clear hK K
    | refine OW_guardF rfl (lt_some (by decide)) rfl ?_
      simp only [eX, ↓reduceIte, Nat.reduceEqDiff, Int.reduceToNat]
    refine OW_opS (fun K hK r => ?_)
    simp only [x_pick, l_asBool, HL.ite_bool, if_true, if_false, Bool.false_eq_true, eX, ↓reduceIte, Nat.reduceEqDiff, Int.reduceToNat]
    refine hK _ _ ?_; clear hK K
    refine OW_mv rfl ?_
    (first | refine OW_split (d := 10) rfl (fun g10 => ?_) (fun g10 => ?_) | skip)
    all_goals try (exfalso; exact cnA g10)
    all_goals (try simp only [decide_eq_true_eq, decide_eq_false_iff_not, Bool.not_eq_true, Bool.not_eq_false, Bool.and_eq_true, Bool.or_eq_true, Bool.or_eq_false_iff, Bool.not_eq_true, Bool.not_eq_eq_eq_not, Bool.not_true, Bool.not_false] at g10)
    all_goals
      try simp only [eX, ↓reduceIte, Nat.reduceEqDiff, Int.reduceToNat]
      first
      | refine OW_guardT rfl (lt_some (by decide)) rfl (fun K hK r => ?_)
        simp only [x_move, eX, ↓reduceIte, Nat.reduceEqDiff, Int.reduceToNat]
        refine hK _ _ ?_; clear hK K
      | refine OW_guardF rfl (lt_some (by decide)) rfl ?_
        simp only [eX, ↓reduceIte, Nat.reduceEqDiff, Int.reduceToNat]
      first
      | refine OW_guardT rfl (lt_some (by decide)) rfl (fun K hK r => ?_)
        simp (disch := (first | omega | decide)) only [x_bin, g_int, b_leq, dec_lt_t, dec_lt_f, dec_le_t, dec_le_f, dec_eq_t, dec_eq_f, Bool.not_true, Bool.not_false, eX, ↓reduceIte, Nat.reduceEqDiff, Int.reduceToNat]
        refine hK _ _ ?_; clear hK K
      | refine OW_guardF rfl (lt_some (by decide)) rfl ?_
        simp only [eX, ↓reduceIte, Nat.reduceEqDiff, Int.reduceToNat]
      refine OW_opS (fun K hK r => ?_)
      simp only [x_pick, l_asBool, HL.ite_bool, if_true, if_false, Bool.false_eq_true, eX, ↓reduceIte, Nat.reduceEqDiff, Int.reduceToNat]
      refine hK _ _ ?_; clear hK K
      refine OW_mv rfl ?_
      (first | refine OW_split (d := 14) rfl (fun g14 => ?_) (fun g14 => ?_) | skip)
      all_goals try (exfalso; exact cnA g14)
      all_goals (try simp only [decide_eq_true_eq, decide_eq_false_iff_not, Bool.not_eq_true, Bool.not_eq_false, Bool.and_eq_true, Bool.or_eq_true, Bool.or_eq_false_iff, Bool.not_eq_true, Bool.not_eq_eq_eq_not, Bool.not_true, Bool.not_false] at g14)
      all_goals
        try simp only [eX, ↓reduceIte, Nat.reduceEqDiff, Int.reduceToNat]
        first
        | refine OW_guardT rfl (lt_some (by decide)) rfl (fun K hK r => ?_)
          simp only [x_move, eX, ↓reduceIte, Nat.reduceEqDiff, Int.reduceToNat]
          refine hK _ _ ?_; clear hK K
        | refine OW_guardF rfl (lt_some (by decide)) rfl ?_
          simp only [eX, ↓reduceIte, Nat.reduceEqDiff, Int.reduceToNat]
        first
        | refine OW_guardT rfl (lt_some (by decide)) rfl (fun K hK r => ?_)
          simp only [x_un, u_not, eX, ↓reduceIte, Nat.reduceEqDiff, Int.reduceToNat]
          refine hK _ _ ?_; clear hK K
        | refine OW_guardF rfl (lt_some (by decide)) rfl ?_
          simp only [eX, ↓reduceIte, Nat.reduceEqDiff, Int.reduceToNat]
        first
        | refine OW_guardT rfl (lt_some (by decide)) rfl (fun K hK r => ?_)
          simp only [x_move, eX, ↓reduceIte, Nat.reduceEqDiff, Int.reduceToNat]
          refine hK _ _ ?_; clear hK K
        | refine OW_guardF rfl (lt_some (by decide)) rfl ?_
          simp only [eX, ↓reduceIte, Nat.reduceEqDiff, Int.reduceToNat]
        (first | refine OW_split (d := 17) rfl (fun g17 => ?_) (fun g17 => ?_) | skip)
        all_goals try (exfalso; exact cnA g17)
        all_goals (try simp only [decide_eq_true_eq, decide_eq_false_iff_not, Bool.not_eq_true, Bool.not_eq_false, Bool.and_eq_true, Bool.or_eq_true, Bool.or_eq_false_iff, Bool.not_eq_true, Bool.not_eq_eq_eq_not, Bool.not_true, Bool.not_false] at g17)
        all_goals
          try simp only [eX, ↓reduceIte, Nat.reduceEqDiff, Int.reduceToNat]
          first
          | refine OW_guardT rfl (lt_some (by decide)) rfl (fun K hK r => ?_)
            simp only [x_move, eX, ↓reduceIte, Nat.reduceEqDiff, Int.reduceToNat]
            refine hK _ _ ?_; clear hK K
          | refine OW_guardF rfl (lt_some (by decide)) rfl ?_
            simp only [eX, ↓reduceIte, Nat.reduceEqDiff, Int.reduceToNat]
          first
          | refine OW_guardT rfl (lt_some (by decide)) rfl (fun K hK r => ?_)
            simp (disch := (first | omega | decide)) only [x_bin, g_int, b_eql, dec_lt_t, dec_lt_f, dec_le_t, dec_le_f, dec_eq_t, dec_eq_f, Bool.not_true, Bool.not_false, eX, ↓reduceIte, Nat.reduceEqDiff, Int.reduceToNat]
            refine hK _ _ ?_; clear hK K
          | refine OW_guardF rfl (lt_some (by decide)) rfl ?_
            simp only [eX, ↓reduceIte, Nat.reduceEqDiff, Int.reduceToNat]
          first
          | refine OW_guardT rfl (lt_some (by decide)) rfl (fun K hK r => ?_)
            simp only [x_pick, l_asBool, HL.ite_bool, if_true, if_false, Bool.false_eq_true, eX, ↓reduceIte, Nat.reduceEqDiff, Int.reduceToNat]
            refine hK _ _ ?_; clear hK K
          | refine OW_guardF rfl (lt_some (by decide)) rfl ?_
            simp only [eX, ↓reduceIte, Nat.reduceEqDiff, Int.reduceToNat]
          refine OW_opS (fun K hK r => ?_)
          simp only [x_pick, l_asBool, HL.ite_bool, if_true, if_false, Bool.false_eq_true, eX, ↓reduceIte, Nat.reduceEqDiff, Int.reduceToNat]
          refine hK _ _ ?_; clear hK K
          refine OW_as rfl ?_
          refine OW_nil ?_
          try simp only [Ex.thnH, Ex.inBlockH, ↓reduceIte, Nat.reduceEqDiff]
          refine hK2 _ _ ?_; try clear hK2 K2
          refine CW_ret ?_
          try simp only [Ex.thnH, Ex.inBlockH, ↓reduceIte, Nat.reduceEqDiff]
          refine ⟨[_], ⟨rfl, trivial⟩, _, Le.refl _, ?_, rfl⟩
          show Value.bool _ = _
          refine congrArg Value.bool ?_
          unfold regB
          first | (simp_all; done) | (simp_all; omega) | (simp_all <;> omega)

set_option maxRecDepth 100000 in
set_option maxHeartbeats 1000000 in
theorem register_f (H : Hp) (n : Int) : CallH Try.prog 51 #[.bool false, .int .i64 n] H (fun v H' => v = .bool (regB false n) ∧ H' = H) := by
  refine CallH_enter (l := [_, _]) (rl := [.tmp 4]) (n := 22) Try.func51 rfl rfl rfl rfl rfl ?_
  simp only [envOf, Nat.reduceAdd]
  refine CW_seq (fun K1 hK1 => ?_)
  refine CW_region ?_
  refine OW_as rfl ?_
  refine OW_nil ?_
  try simp only [Ex.thnH, Ex.inBlockH, ↓reduceIte, Nat.reduceEqDiff]
  refine hK1 _ _ ?_; try clear hK1 K1
  refine CW_seq (fun K2 hK2 => ?_)
  refine CW_region ?_
  refine OW_mv rfl ?_
  refine OW_mv rfl ?_
  (first | refine OW_split (d := 6) rfl (fun g6 => ?_) (fun g6 => ?_) | skip)
  all_goals try (exfalso; exact cnA g6)
  all_goals (try simp only [decide_eq_true_eq, decide_eq_false_iff_not, Bool.not_eq_true, Bool.not_eq_false, Bool.and_eq_true, Bool.or_eq_true, Bool.or_eq_false_iff, Bool.not_eq_true, Bool.not_eq_eq_eq_not, Bool.not_true, Bool.not_false] at g6)
  all_goals
    try simp only [eX, ↓reduceIte, Nat.reduceEqDiff, Int.reduceToNat]
    first
    | refine OW_guardT rfl (lt_some (by decide)) rfl (fun K hK r => ?_)
      simp only [x_move, eX, ↓reduceIte, Nat.reduceEqDiff, Int.reduceToNat]
      refine hK _ _ ?_; clear hK K
    | refine OW_guardF rfl (lt_some (by decide)) rfl ?_
      simp only [eX, ↓reduceIte, Nat.reduceEqDiff, Int.reduceToNat]
    first
    | refine OW_guardT rfl (lt_some (by decide)) rfl (fun K hK r => ?_)
      simp (disch := (first | omega | decide)) only [x_bin, g_int, b_geq, dec_lt_t, dec_lt_f, dec_le_t, dec_le_f, dec_eq_t, dec_eq_f, Bool.not_true, Bool.not_false, eX, ↓reduceIte, Nat.reduceEqDiff, Int.reduceToNat]
      refine hK _ _ ?_; clear hK K
    | refine OW_guardF rfl (lt_some (by decide)) rfl ?_
      simp only [eX, ↓reduceIte, Nat.reduceEqDiff, Int.reduceToNat]
    refine OW_opS (fun K hK r => ?_)
    simp only [x_pick, l_asBool, HL.ite_bool, if_true, if_false, Bool.false_eq_true, eX, ↓reduceIte, Nat.reduceEqDiff, Int.reduceToNat]
    refine hK _ _ ?_; clear hK K
    refine OW_mv rfl ?_
    (first | refine OW_split (d := 10) rfl (fun g10 => ?_) (fun g10 => ?_) | skip)
    all_goals try (exfalso; exact cnA g10)
    all_goals (try simp only [decide_eq_true_eq, decide_eq_false_iff_not, Bool.not_eq_true, Bool.not_eq_false, Bool.and_eq_true, Bool.or_eq_true, Bool.or_eq_false_iff, Bool.not_eq_true, Bool.not_eq_eq_eq_not, Bool.not_true, Bool.not_false] at g10)
    all_goals
      try simp only [eX, ↓reduceIte, Nat.reduceEqDiff, Int.reduceToNat]
      first
      | refine OW_guardT rfl (lt_some (by decide)) rfl (fun K hK r => ?_)
        simp only [x_move, eX, ↓reduceIte, Nat.reduceEqDiff, Int.reduceToNat]
        refine hK _ _ ?_; clear hK K
      | refine OW_guardF rfl (lt_some (by decide)) rfl ?_
        simp only [eX, ↓reduceIte, Nat.reduceEqDiff, Int.reduceToNat]
      first
      | refine OW_guardT rfl (lt_some (by decide)) rfl (fun K hK r => ?_)
        simp (disch := (first | omega | decide)) only [x_bin, g_int, b_leq, dec_lt_t, dec_lt_f, dec_le_t, dec_le_f, dec_eq_t, dec_eq_f, Bool.not_true, Bool.not_false, eX, ↓reduceIte, Nat.reduceEqDiff, Int.reduceToNat]
        refine hK _ _ ?_; clear hK K
      | refine OW_guardF rfl (lt_some (by decide)) rfl ?_
        simp only [eX, ↓reduceIte, Nat.reduceEqDiff, Int.reduceToNat]
      refine OW_opS (fun K hK r => ?_)
      simp only [x_pick, l_asBool, HL.ite_bool, if_true, if_false, Bool.false_eq_true, eX, ↓reduceIte, Nat.reduceEqDiff, Int.reduceToNat]
      refine hK _ _ ?_; clear hK K
      refine OW_mv rfl ?_
      (first | refine OW_split (d := 14) rfl (fun g14 => ?_) (fun g14 => ?_) | skip)
      all_goals try (exfalso; exact cnA g14)
      all_goals (try simp only [decide_eq_true_eq, decide_eq_false_iff_not, Bool.not_eq_true, Bool.not_eq_false, Bool.and_eq_true, Bool.or_eq_true, Bool.or_eq_false_iff, Bool.not_eq_true, Bool.not_eq_eq_eq_not, Bool.not_true, Bool.not_false] at g14)
      all_goals
        try simp only [eX, ↓reduceIte, Nat.reduceEqDiff, Int.reduceToNat]
        first
        | refine OW_guardT rfl (lt_some (by decide)) rfl (fun K hK r => ?_)
          simp only [x_move, eX, ↓reduceIte, Nat.reduceEqDiff, Int.reduceToNat]
          refine hK _ _ ?_; clear hK K
        | refine OW_guardF rfl (lt_some (by decide)) rfl ?_
          simp only [eX, ↓reduceIte, Nat.reduceEqDiff, Int.reduceToNat]
        first
        | refine OW_guardT rfl (lt_some (by decide)) rfl (fun K hK r => ?_)
          simp only [x_un, u_not, eX, ↓reduceIte, Nat.reduceEqDiff, Int.reduceToNat]
          refine hK _ _ ?_; clear hK K
        | refine OW_guardF rfl (lt_some (by decide)) rfl ?_
          simp only [eX, ↓reduceIte, Nat.reduceEqDiff, Int.reduceToNat]
        first
        | refine OW_guardT rfl (lt_some (by decide)) rfl (fun K hK r => ?_)
          simp only [x_move, eX, ↓reduceIte, Nat.reduceEqDiff, Int.reduceToNat]
          refine hK _ _ ?_; clear hK K
        | refine OW_guardF rfl (lt_some (by decide)) rfl ?_
          simp only [eX, ↓reduceIte, Nat.reduceEqDiff, Int.reduceToNat]
        (first | refine OW_split (d := 17) rfl (fun g17 => ?_) (fun g17 => ?_) | skip)
        all_goals try (exfalso; exact cnA g17)
        all_goals (try simp only [decide_eq_true_eq, decide_eq_false_iff_not, Bool.not_eq_true, Bool.not_eq_false, Bool.and_eq_true, Bool.or_eq_true, Bool.or_eq_false_iff, Bool.not_eq_true, Bool.not_eq_eq_eq_not, Bool.not_true, Bool.not_false] at g17)
        all_goals
          try simp only [eX, ↓reduceIte, Nat.reduceEqDiff, Int.reduceToNat]
          first
          | refine OW_guardT rfl (lt_some (by decide)) rfl (fun K hK r => ?_)
            simp only [x_move, eX, ↓reduceIte, Nat.reduceEqDiff, Int.reduceToNat]
            refine hK _ _ ?_; clear hK K
          | refine OW_guardF rfl (lt_some (by decide)) rfl ?_
            simp only [eX, ↓reduceIte, Nat.reduceEqDiff, Int.reduceToNat]
          first
          | refine OW_guardT rfl (lt_some (by decide)) rfl (fun K hK r => ?_)
            simp (disch := (first | omega | decide)) only [x_bin, g_int, b_eql, dec_lt_t, dec_lt_f, dec_le_t, dec_le_f, dec_eq_t, dec_eq_f, Bool.not_true, Bool.not_false, eX, ↓reduceIte, Nat.reduceEqDiff, Int.reduceToNat]
            refine hK _ _ ?_; clear hK K
          | refine OW_guardF rfl (lt_some (by decide)) rfl ?_
            simp only [eX, ↓reduceIte, Nat.reduceEqDiff, Int.reduceToNat]
          first
          | refine OW_guardT rfl (lt_some (by decide)) rfl (fun K hK r => ?_)
            simp only [x_pick, l_asBool, HL.ite_bool, if_true, if_false, Bool.false_eq_true, eX, ↓reduceIte, Nat.reduceEqDiff, Int.reduceToNat]
            refine hK _ _ ?_; clear hK K
          | refine OW_guardF rfl (lt_some (by decide)) rfl ?_
            simp only [eX, ↓reduceIte, Nat.reduceEqDiff, Int.reduceToNat]
          refine OW_opS (fun K hK r => ?_)
          simp only [x_pick, l_asBool, HL.ite_bool, if_true, if_false, Bool.false_eq_true, eX, ↓reduceIte, Nat.reduceEqDiff, Int.reduceToNat]
          refine hK _ _ ?_; clear hK K
          refine OW_as rfl ?_
          refine OW_nil ?_
          try simp only [Ex.thnH, Ex.inBlockH, ↓reduceIte, Nat.reduceEqDiff]
          refine hK2 _ _ ?_; try clear hK2 K2
          refine CW_ret ?_
          try simp only [Ex.thnH, Ex.inBlockH, ↓reduceIte, Nat.reduceEqDiff]
          refine ⟨[_], ⟨rfl, trivial⟩, _, Le.refl _, ?_, rfl⟩
          show Value.bool _ = _
          refine congrArg Value.bool ?_
          unfold regB
          first | (simp_all; done) | (simp_all; omega) | (simp_all <;> omega)


theorem register_ok (H : Hp) (u : Bool) (n : Int) : CallH Try.prog 51 #[.bool u, .int .i64 n] H (fun v H' => v = .bool (regB u n) ∧ H' = H) := by
  cases u
  · exact register_f H n
  · exact register_t H n

set_option maxRecDepth 100000 in
set_option maxHeartbeats 4000000 in
theorem rgood_ok (H : Hp) (x : Cd) (behind : Int) : CallH Try.prog 31 #[.agg x.cells.toArray, .int .i64 behind] H (fun v H' => v = .bool (goodC x behind) ∧ Le H H') := by
  refine CallH_enter (l := [_, _]) (rl := [.tmp 4]) (n := 85) Try.func31 rfl rfl rfl rfl rfl ?_
  simp only [envOf, Nat.reduceAdd]
  refine CW_seq (fun K1 hK1 => ?_)
  refine CW_region ?_
  refine OW_opS (fun K hK r => ?_)
  simp only [x_box, Value.cells, eX, ↓reduceIte, Nat.reduceEqDiff, Int.reduceToNat]
  intro b2 hb2
  have f2_H : H b2 = none := none_of_le lhA hb2
  try simp only [eX, ↓reduceIte, Nat.reduceEqDiff, Int.reduceToNat]
  refine hK _ _ ?_; clear hK K
  refine OW_as rfl ?_
  refine OW_nil ?_
  try simp only [Ex.thnH, Ex.inBlockH, ↓reduceIte, Nat.reduceEqDiff]
  refine hK1 _ _ ?_; try clear hK1 K1
  refine CW_seq (fun K2 hK2 => ?_)
  refine CW_region ?_
  refine OW_opS (fun K hK r => ?_)
  simp only [x_fieldAddr, fa47_0, add_mk, Nat.reduceAdd, Nat.zero_add, eX, ↓reduceIte, Nat.reduceEqDiff, Int.reduceToNat]
  refine hK _ _ ?_; clear hK K
  refine OW_opS (fun K hK r => ?_)
  simp only [x_load, eX, ↓reduceIte, Nat.reduceEqDiff, Int.reduceToNat]
  refine Lt_loadAt1 Try.underlying3 rfl hbA ldA ?_
  try simp only [eX, ↓reduceIte, Nat.reduceEqDiff, Int.reduceToNat]
  refine hK _ _ ?_; clear hK K
  refine OW_opS (fun K hK r => ?_)
  simp only [x_callF _ bd10, List.map_toArray, List.map_cons, List.map_nil, eX, ↓reduceIte, Nat.reduceEqDiff, Int.reduceToNat]
  refine (rshape_ok _ x.op).mono ?_
  rintro v H' ⟨rfl, rfl⟩
  try simp only [eX, ↓reduceIte, Nat.reduceEqDiff, Int.reduceToNat]
  refine hK _ _ ?_; clear hK K
  refine OW_as rfl ?_
  refine OW_nil ?_
  try simp only [Ex.thnH, Ex.inBlockH, ↓reduceIte, Nat.reduceEqDiff]
  refine hK2 _ _ ?_; try clear hK2 K2
  refine CW_seq (fun K3 hK3 => ?_)
  refine CW_seq (fun K4 hK4 => ?_)
  refine CW_drawE [0, 0, 0, 0, 6, 0, 1, 5, 0, 0, 0, 0, 2, 0, 1, 2, 0, 0] [0, 1, 2, 3, 5, 6, 4, 7, 8, 9, 10, 11, 12, 13, 14, 15, 16, 17] (by kernel_rfl) (by kernel_rfl) (fun R2 hR2 => ?_)
  apply TW_pure rfl (lt_some (by decide)) rfl
  · intro r
    simp only [x_move, eX, ↓reduceIte, Nat.reduceEqDiff]
    exact ⟨rfl, Le.refl _⟩
  simp only [eX, ↓reduceIte, Nat.reduceEqDiff, Int.reduceToNat]
  apply TW_pure rfl (lt_some (by decide)) rfl
  · intro r
    simp only [x_bin, g_string, b_seql, eX, ↓reduceIte, Nat.reduceEqDiff]
    rw [shp_nil_beq]
    exact ⟨rfl, Le.refl _⟩
  simp only [eX, ↓reduceIte, Nat.reduceEqDiff, Int.reduceToNat]
  apply TW_pure rfl (lt_some (by decide)) rfl
  · intro r
    simp only [x_move, eX, ↓reduceIte, Nat.reduceEqDiff]
    exact ⟨rfl, Le.refl _⟩
  simp only [eX, ↓reduceIte, Nat.reduceEqDiff, Int.reduceToNat]
  (first | refine TW_split (d := 11) rfl (fun g11 => ?_) (fun g11 => ?_) | skip)
  all_goals try (exfalso; exact cnA g11)
  all_goals (try simp only [decide_eq_true_eq, decide_eq_false_iff_not, Bool.not_eq_true, Bool.not_eq_false, Bool.and_eq_true, Bool.or_eq_true, Bool.or_eq_false_iff, Bool.not_eq_true, Bool.not_eq_eq_eq_not, Bool.not_true, Bool.not_false] at g11)
  all_goals
    try simp only [eX, ↓reduceIte, Nat.reduceEqDiff, Int.reduceToNat]
    first
    | apply TW_pureG rfl (lt_some (by decide)) rfl rfl
      · intro r
        simp only [x_move, eX, ↓reduceIte, Nat.reduceEqDiff]
        exact ⟨rfl, Le.refl _⟩
      simp only [eX, ↓reduceIte, Nat.reduceEqDiff, Int.reduceToNat]
    | refine TW_guardF rfl (lt_some (by decide)) rfl ?_
      simp only [eX, ↓reduceIte, Nat.reduceEqDiff, Int.reduceToNat]
    first
    | apply TW_pureG rfl (lt_some (by decide)) rfl rfl
      · intro r
        simp only [x_fieldAddr, fa47_2, add_mk, Nat.reduceAdd, Nat.zero_add, eX, ↓reduceIte, Nat.reduceEqDiff]
        exact ⟨rfl, Le.refl _⟩
      simp only [eX, ↓reduceIte, Nat.reduceEqDiff, Int.reduceToNat]
    | refine TW_guardF rfl (lt_some (by decide)) rfl ?_
      simp only [eX, ↓reduceIte, Nat.reduceEqDiff, Int.reduceToNat]
    first
    | apply TW_lookG rfl (lt_some (by decide)) rfl rfl
      · intro r
        simp only [x_load, eX, ↓reduceIte, Nat.reduceEqDiff]
        refine Lt_loadAt1 Try.underlying3 rfl hbA ldA ?_
        exact ⟨rfl, Le.refl _⟩
      simp only [eX, ↓reduceIte, Nat.reduceEqDiff, Int.reduceToNat]
    | refine TW_guardF rfl (lt_some (by decide)) rfl ?_
      simp only [eX, ↓reduceIte, Nat.reduceEqDiff, Int.reduceToNat]
    first
    | refine TW_growG rfl (lt_some (by decide)) rfl rfl (fun K hK r => ?_)
      simp only [x_callF _ bd52, List.map_toArray, List.map_cons, List.map_nil, eX, ↓reduceIte, Nat.reduceEqDiff, Int.reduceToNat]
      refine (uses_op _ x.op 98).mono ?_
      rintro v H' ⟨rfl, rfl⟩
      try simp only [eX, ↓reduceIte, Nat.reduceEqDiff, Int.reduceToNat]
      refine hK _ _ leA (fun R13_ hR13_ => ?_); clear hK K
    | refine TW_guardF rfl (lt_some (by decide)) rfl ?_
      simp only [eX, ↓reduceIte, Nat.reduceEqDiff, Int.reduceToNat]
    first
    | refine TW_fenceG rfl (lt_some (by decide)) rfl rfl (fun K hK r => ?_)
      simp only [x_callF _ bd51, List.map_toArray, List.map_cons, List.map_nil, eX, ↓reduceIte, Nat.reduceEqDiff, Int.reduceToNat]
      refine (register_ok _ (usesB x.op 98) x.b).mono ?_
      rintro v H' ⟨rfl, rfl⟩
      try simp only [eX, ↓reduceIte, Nat.reduceEqDiff, Int.reduceToNat]
      refine hK _ _ (fun R16_ hR16_ => ?_); clear hK K
    | refine TW_guardF rfl (lt_some (by decide)) rfl ?_
      simp only [eX, ↓reduceIte, Nat.reduceEqDiff, Int.reduceToNat]
    first
    | apply TW_pureG rfl (lt_some (by decide)) rfl rfl
      · intro r
        simp only [x_un, u_not, eX, ↓reduceIte, Nat.reduceEqDiff]
        exact ⟨rfl, Le.refl _⟩
      simp only [eX, ↓reduceIte, Nat.reduceEqDiff, Int.reduceToNat]
    | refine TW_guardF rfl (lt_some (by decide)) rfl ?_
      simp only [eX, ↓reduceIte, Nat.reduceEqDiff, Int.reduceToNat]
    apply TW_pure rfl (lt_some (by decide)) rfl
    · intro r
      simp only [x_pick, l_asBool, HL.ite_bool, if_true, if_false, Bool.false_eq_true, eX, ↓reduceIte, Nat.reduceEqDiff]
      exact ⟨rfl, Le.refl _⟩
    simp only [eX, ↓reduceIte, Nat.reduceEqDiff, Int.reduceToNat]
    apply TW_pure rfl (lt_some (by decide)) rfl
    · intro r
      simp only [x_move, eX, ↓reduceIte, Nat.reduceEqDiff]
      exact ⟨rfl, Le.refl _⟩
    simp only [eX, ↓reduceIte, Nat.reduceEqDiff, Int.reduceToNat]
    (first | refine TW_split (d := 19) rfl (fun g19 => ?_) (fun g19 => ?_) | skip)
    all_goals try (exfalso; exact cnA g19)
    all_goals (try simp only [decide_eq_true_eq, decide_eq_false_iff_not, Bool.not_eq_true, Bool.not_eq_false, Bool.and_eq_true, Bool.or_eq_true, Bool.or_eq_false_iff, Bool.not_eq_true, Bool.not_eq_eq_eq_not, Bool.not_true, Bool.not_false] at g19)
    all_goals
      try simp only [eX, ↓reduceIte, Nat.reduceEqDiff, Int.reduceToNat]
      first
      | apply TW_pureG rfl (lt_some (by decide)) rfl rfl
        · intro r
          simp only [x_move, eX, ↓reduceIte, Nat.reduceEqDiff]
          exact ⟨rfl, Le.refl _⟩
        simp only [eX, ↓reduceIte, Nat.reduceEqDiff, Int.reduceToNat]
      | refine TW_guardF rfl (lt_some (by decide)) rfl ?_
        simp only [eX, ↓reduceIte, Nat.reduceEqDiff, Int.reduceToNat]
      first
      | refine TW_chainG rfl (lt_some (by decide)) rfl rfl (fun K hK r => ?_)
        simp only [x_callF _ bd52, List.map_toArray, List.map_cons, List.map_nil, eX, ↓reduceIte, Nat.reduceEqDiff, Int.reduceToNat]
        refine (uses_op _ x.op 99).mono ?_
        rintro v H' ⟨rfl, rfl⟩
        try simp only [eX, ↓reduceIte, Nat.reduceEqDiff, Int.reduceToNat]
        refine hK _ _ leA ?_; clear hK K
      | refine TW_guardF rfl (lt_some (by decide)) rfl ?_
        simp only [eX, ↓reduceIte, Nat.reduceEqDiff, Int.reduceToNat]
      first
      | apply TW_pureG rfl (lt_some (by decide)) rfl rfl
        · intro r
          simp only [x_fieldAddr, fa47_3, add_mk, Nat.reduceAdd, Nat.zero_add, eX, ↓reduceIte, Nat.reduceEqDiff]
          exact ⟨rfl, Le.refl _⟩
        simp only [eX, ↓reduceIte, Nat.reduceEqDiff, Int.reduceToNat]
      | refine TW_guardF rfl (lt_some (by decide)) rfl ?_
        simp only [eX, ↓reduceIte, Nat.reduceEqDiff, Int.reduceToNat]
      first
      | apply TW_lookG rfl (lt_some (by decide)) rfl rfl
        · intro r
          simp only [x_load, eX, ↓reduceIte, Nat.reduceEqDiff]
          refine Lt_loadAt1 Try.underlying3 rfl hbA ldA ?_
          exact ⟨rfl, Le.refl _⟩
        simp only [eX, ↓reduceIte, Nat.reduceEqDiff, Int.reduceToNat]
      | refine TW_guardF rfl (lt_some (by decide)) rfl ?_
        simp only [eX, ↓reduceIte, Nat.reduceEqDiff, Int.reduceToNat]
      first
      | refine TW_chainG rfl (lt_some (by decide)) rfl rfl (fun K hK r => ?_)
        simp only [x_callF _ bd51, List.map_toArray, List.map_cons, List.map_nil, eX, ↓reduceIte, Nat.reduceEqDiff, Int.reduceToNat]
        refine (register_ok _ (usesB x.op 99) x.c).mono ?_
        rintro v H' ⟨rfl, rfl⟩
        try simp only [eX, ↓reduceIte, Nat.reduceEqDiff, Int.reduceToNat]
        refine hK _ _ leA ?_; clear hK K
      | refine TW_guardF rfl (lt_some (by decide)) rfl ?_
        simp only [eX, ↓reduceIte, Nat.reduceEqDiff, Int.reduceToNat]
      first
      | apply TW_pureG rfl (lt_some (by decide)) rfl rfl
        · intro r
          simp only [x_un, u_not, eX, ↓reduceIte, Nat.reduceEqDiff]
          exact ⟨rfl, Le.refl _⟩
        simp only [eX, ↓reduceIte, Nat.reduceEqDiff, Int.reduceToNat]
      | refine TW_guardF rfl (lt_some (by decide)) rfl ?_
        simp only [eX, ↓reduceIte, Nat.reduceEqDiff, Int.reduceToNat]
      apply TW_pure rfl (lt_some (by decide)) rfl
      · intro r
        simp only [x_pick, l_asBool, HL.ite_bool, if_true, if_false, Bool.false_eq_true, eX, ↓reduceIte, Nat.reduceEqDiff]
        exact ⟨rfl, Le.refl _⟩
      simp only [eX, ↓reduceIte, Nat.reduceEqDiff, Int.reduceToNat]
      refine TW_nil ?_
      try simp only [Ex.thnH, Ex.inBlockH, ↓reduceIte, Nat.reduceEqDiff]
      refine hK4 _ _ ?_; try clear hK4 K4
      refine CW_cond (fun r => rfl) (fun c26 => ?_) (fun c26 => ?_)
      · first
        | (exfalso; exact cnA c26; done)
        | skip
          (try simp only [decide_eq_true_eq, decide_eq_false_iff_not, Bool.not_eq_true, Bool.not_eq_false, Bool.and_eq_true, Bool.or_eq_true, Bool.or_eq_false_iff, Bool.not_eq_true, Bool.not_eq_eq_eq_not, Bool.not_true, Bool.not_false] at c26)
          refine CW_seq (fun K5 hK5 => ?_)
          refine CW_region ?_
          refine OW_as rfl ?_
          refine OW_nil ?_
          try simp only [Ex.thnH, Ex.inBlockH, ↓reduceIte, Nat.reduceEqDiff]
          refine hK5 _ _ ?_; try clear hK5 K5
          refine CW_ret ?_
          try simp only [Ex.thnH, Ex.inBlockH, ↓reduceIte, Nat.reduceEqDiff]
          refine ⟨[_], ⟨rfl, trivial⟩, _, Le.refl _, ?_, lhA⟩
          show Value.bool _ = _
          refine congrArg Value.bool ?_
          rw [← goodR_eq]
          unfold goodR
          first | (simp_all; done) | (simp_all; omega) | (simp_all <;> omega)
      · first
        | (exfalso; exact cnA c26; done)
        | skip
          (try simp only [decide_eq_true_eq, decide_eq_false_iff_not, Bool.not_eq_true, Bool.not_eq_false, Bool.and_eq_true, Bool.or_eq_true, Bool.or_eq_false_iff, Bool.not_eq_true, Bool.not_eq_eq_eq_not, Bool.not_true, Bool.not_false] at c26)
          refine CW_skip ?_
          try simp only [Ex.thnH, Ex.inBlockH, ↓reduceIte, Nat.reduceEqDiff]
          refine hK3 _ _ ?_; try clear hK3 K3
          refine CW_seq (fun K6 hK6 => ?_)
          refine CW_seq (fun K7 hK7 => ?_)
          refine CW_region ?_
          refine OW_opS (fun K hK r => ?_)
          simp only [x_fieldAddr, fa47_0, add_mk, Nat.reduceAdd, Nat.zero_add, eX, ↓reduceIte, Nat.reduceEqDiff, Int.reduceToNat]
          refine hK _ _ ?_; clear hK K
          refine OW_opS (fun K hK r => ?_)
          simp only [x_load, eX, ↓reduceIte, Nat.reduceEqDiff, Int.reduceToNat]
          refine Lt_loadAt1 Try.underlying3 rfl hbA ldA ?_
          try simp only [eX, ↓reduceIte, Nat.reduceEqDiff, Int.reduceToNat]
          refine hK _ _ ?_; clear hK K
          refine OW_opS (fun K hK r => ?_)
          simp (disch := (first | omega | decide)) only [x_bin, g_int, b_eql, dec_lt_t, dec_lt_f, dec_le_t, dec_le_f, dec_eq_t, dec_eq_f, Bool.not_true, Bool.not_false, eX, ↓reduceIte, Nat.reduceEqDiff, Int.reduceToNat]
          refine hK _ _ ?_; clear hK K
          refine OW_nil ?_
          try simp only [Ex.thnH, Ex.inBlockH, ↓reduceIte, Nat.reduceEqDiff]
          refine hK7 _ _ ?_; try clear hK7 K7
          refine CW_cond (fun r => rfl) (fun c29 => ?_) (fun c29 => ?_)
          · first
            | (exfalso; exact cnA c29; done)
            | skip
              (try simp only [decide_eq_true_eq, decide_eq_false_iff_not, Bool.not_eq_true, Bool.not_eq_false, Bool.and_eq_true, Bool.or_eq_true, Bool.or_eq_false_iff, Bool.not_eq_true, Bool.not_eq_eq_eq_not, Bool.not_true, Bool.not_false] at c29)
              refine CW_seq (fun K8 hK8 => ?_)
              refine CW_region ?_
              refine OW_opS (fun K hK r => ?_)
              simp only [x_fieldAddr, fa47_1, add_mk, Nat.reduceAdd, Nat.zero_add, eX, ↓reduceIte, Nat.reduceEqDiff, Int.reduceToNat]
              refine hK _ _ ?_; clear hK K
              refine OW_opS (fun K hK r => ?_)
              simp only [x_load, eX, ↓reduceIte, Nat.reduceEqDiff, Int.reduceToNat]
              refine Lt_loadAt1 Try.underlying3 rfl hbA ldA ?_
              try simp only [eX, ↓reduceIte, Nat.reduceEqDiff, Int.reduceToNat]
              refine hK _ _ ?_; clear hK K
              refine OW_opS (fun K hK r => ?_)
              simp (disch := (first | omega | decide)) only [x_bin, g_int, b_lss, dec_lt_t, dec_lt_f, dec_le_t, dec_le_f, dec_eq_t, dec_eq_f, Bool.not_true, Bool.not_false, eX, ↓reduceIte, Nat.reduceEqDiff, Int.reduceToNat]
              refine hK _ _ ?_; clear hK K
              refine OW_mv rfl ?_
              (first | refine OW_split (d := 33) rfl (fun g33 => ?_) (fun g33 => ?_) | skip)
              all_goals try (exfalso; exact cnA g33)
              all_goals (try simp only [decide_eq_true_eq, decide_eq_false_iff_not, Bool.not_eq_true, Bool.not_eq_false, Bool.and_eq_true, Bool.or_eq_true, Bool.or_eq_false_iff, Bool.not_eq_true, Bool.not_eq_eq_eq_not, Bool.not_true, Bool.not_false] at g33)
              all_goals
                try simp only [eX, ↓reduceIte, Nat.reduceEqDiff, Int.reduceToNat]
                first
                | refine OW_guardT rfl (lt_some (by decide)) rfl (fun K hK r => ?_)
                  simp only [x_fieldAddr, fa47_1, add_mk, Nat.reduceAdd, Nat.zero_add, eX, ↓reduceIte, Nat.reduceEqDiff, Int.reduceToNat]
                  refine hK _ _ ?_; clear hK K
                | refine OW_guardF rfl (lt_some (by decide)) rfl ?_
                  simp only [eX, ↓reduceIte, Nat.reduceEqDiff, Int.reduceToNat]
                first
                | refine OW_guardT rfl (lt_some (by decide)) rfl (fun K hK r => ?_)
                  simp only [x_load, eX, ↓reduceIte, Nat.reduceEqDiff, Int.reduceToNat]
                  refine Lt_loadAt1 Try.underlying3 rfl hbA ldA ?_
                  try simp only [eX, ↓reduceIte, Nat.reduceEqDiff, Int.reduceToNat]
                  refine hK _ _ ?_; clear hK K
                | refine OW_guardF rfl (lt_some (by decide)) rfl ?_
                  simp only [eX, ↓reduceIte, Nat.reduceEqDiff, Int.reduceToNat]
                first
                | refine OW_guardT rfl (lt_some (by decide)) rfl (fun K hK r => ?_)
                  simp only [x_move, eX, ↓reduceIte, Nat.reduceEqDiff, Int.reduceToNat]
                  refine hK _ _ ?_; clear hK K
                | refine OW_guardF rfl (lt_some (by decide)) rfl ?_
                  simp only [eX, ↓reduceIte, Nat.reduceEqDiff, Int.reduceToNat]
                first
                | refine OW_guardT rfl (lt_some (by decide)) rfl (fun K hK r => ?_)
                  simp (disch := (first | omega | decide)) only [x_bin, g_int, b_gtr, dec_lt_t, dec_lt_f, dec_le_t, dec_le_f, dec_eq_t, dec_eq_f, Bool.not_true, Bool.not_false, eX, ↓reduceIte, Nat.reduceEqDiff, Int.reduceToNat]
                  refine hK _ _ ?_; clear hK K
                | refine OW_guardF rfl (lt_some (by decide)) rfl ?_
                  simp only [eX, ↓reduceIte, Nat.reduceEqDiff, Int.reduceToNat]
                refine OW_opS (fun K hK r => ?_)
                simp only [x_pick, l_asBool, HL.ite_bool, if_true, if_false, Bool.false_eq_true, eX, ↓reduceIte, Nat.reduceEqDiff, Int.reduceToNat]
                refine hK _ _ ?_; clear hK K
                refine OW_nil ?_
                try simp only [Ex.thnH, Ex.inBlockH, ↓reduceIte, Nat.reduceEqDiff]
                refine hK8 _ _ ?_; try clear hK8 K8
                refine CW_cond (fun r => rfl) (fun c38 => ?_) (fun c38 => ?_)
                · first
                  | (exfalso; exact cnA c38; done)
                  | skip
                    (try simp only [decide_eq_true_eq, decide_eq_false_iff_not, Bool.not_eq_true, Bool.not_eq_false, Bool.and_eq_true, Bool.or_eq_true, Bool.or_eq_false_iff, Bool.not_eq_true, Bool.not_eq_eq_eq_not, Bool.not_true, Bool.not_false] at c38)
                    refine CW_seq (fun K9 hK9 => ?_)
                    refine CW_region ?_
                    refine OW_as rfl ?_
                    refine OW_nil ?_
                    try simp only [Ex.thnH, Ex.inBlockH, ↓reduceIte, Nat.reduceEqDiff]
                    refine hK9 _ _ ?_; try clear hK9 K9
                    refine CW_ret ?_
                    try simp only [Ex.thnH, Ex.inBlockH, ↓reduceIte, Nat.reduceEqDiff]
                    refine ⟨[_], ⟨rfl, trivial⟩, _, Le.refl _, ?_, lhA⟩
                    show Value.bool _ = _
                    refine congrArg Value.bool ?_
                    rw [← goodR_eq]
                    unfold goodR
                    first | (simp_all; done) | (simp_all; omega) | (simp_all <;> omega)
                · first
                  | (exfalso; exact cnA c38; done)
                  | skip
                    (try simp only [decide_eq_true_eq, decide_eq_false_iff_not, Bool.not_eq_true, Bool.not_eq_false, Bool.and_eq_true, Bool.or_eq_true, Bool.or_eq_false_iff, Bool.not_eq_true, Bool.not_eq_eq_eq_not, Bool.not_true, Bool.not_false] at c38)
                    refine CW_skip ?_
                    try simp only [Ex.thnH, Ex.inBlockH, ↓reduceIte, Nat.reduceEqDiff]
                    refine hK6 _ _ ?_; try clear hK6 K6
                    refine CW_seq (fun K10 hK10 => ?_)
                    refine CW_seq (fun K11 hK11 => ?_)
                    refine CW_region ?_
                    refine OW_mv rfl ?_
                    refine OW_opS (fun K hK r => ?_)
                    simp only [x_callF _ bd52, List.map_toArray, List.map_cons, List.map_nil, eX, ↓reduceIte, Nat.reduceEqDiff, Int.reduceToNat]
                    refine (uses_op _ x.op 116).mono ?_
                    rintro v H' ⟨rfl, rfl⟩
                    try simp only [eX, ↓reduceIte, Nat.reduceEqDiff, Int.reduceToNat]
                    refine hK _ _ ?_; clear hK K
                    refine OW_nil ?_
                    try simp only [Ex.thnH, Ex.inBlockH, ↓reduceIte, Nat.reduceEqDiff]
                    refine hK11 _ _ ?_; try clear hK11 K11
                    refine CW_cond (fun r => rfl) (fun c46 => ?_) (fun c46 => ?_)
                    · first
                      | (exfalso; exact cnA c46; done)
                      | skip
                        (try simp only [decide_eq_true_eq, decide_eq_false_iff_not, Bool.not_eq_true, Bool.not_eq_false, Bool.and_eq_true, Bool.or_eq_true, Bool.or_eq_false_iff, Bool.not_eq_true, Bool.not_eq_eq_eq_not, Bool.not_true, Bool.not_false] at c46)
                        refine CW_seq (fun K12 hK12 => ?_)
                        refine CW_region ?_
                        refine OW_opS (fun K hK r => ?_)
                        simp only [x_fieldAddr, fa47_4, add_mk, Nat.reduceAdd, Nat.zero_add, eX, ↓reduceIte, Nat.reduceEqDiff, Int.reduceToNat]
                        refine hK _ _ ?_; clear hK K
                        refine OW_opS (fun K hK r => ?_)
                        simp only [x_load, eX, ↓reduceIte, Nat.reduceEqDiff, Int.reduceToNat]
                        refine Lt_loadAt1 Try.underlying3 rfl hbA ldA ?_
                        try simp only [eX, ↓reduceIte, Nat.reduceEqDiff, Int.reduceToNat]
                        refine hK _ _ ?_; clear hK K
                        refine OW_opS (fun K hK r => ?_)
                        simp (disch := (first | omega | decide)) only [x_bin, g_int, b_lss, dec_lt_t, dec_lt_f, dec_le_t, dec_le_f, dec_eq_t, dec_eq_f, Bool.not_true, Bool.not_false, eX, ↓reduceIte, Nat.reduceEqDiff, Int.reduceToNat]
                        refine hK _ _ ?_; clear hK K
                        refine OW_mv rfl ?_
                        (first | refine OW_split (d := 50) rfl (fun g50 => ?_) (fun g50 => ?_) | skip)
                        all_goals try (exfalso; exact cnA g50)
                        all_goals (try simp only [decide_eq_true_eq, decide_eq_false_iff_not, Bool.not_eq_true, Bool.not_eq_false, Bool.and_eq_true, Bool.or_eq_true, Bool.or_eq_false_iff, Bool.not_eq_true, Bool.not_eq_eq_eq_not, Bool.not_true, Bool.not_false] at g50)
                        all_goals
                          try simp only [eX, ↓reduceIte, Nat.reduceEqDiff, Int.reduceToNat]
                          first
                          | refine OW_guardT rfl (lt_some (by decide)) rfl (fun K hK r => ?_)
                            simp only [x_fieldAddr, fa47_4, add_mk, Nat.reduceAdd, Nat.zero_add, eX, ↓reduceIte, Nat.reduceEqDiff, Int.reduceToNat]
                            refine hK _ _ ?_; clear hK K
                          | refine OW_guardF rfl (lt_some (by decide)) rfl ?_
                            simp only [eX, ↓reduceIte, Nat.reduceEqDiff, Int.reduceToNat]
                          first
                          | refine OW_guardT rfl (lt_some (by decide)) rfl (fun K hK r => ?_)
                            simp only [x_load, eX, ↓reduceIte, Nat.reduceEqDiff, Int.reduceToNat]
                            refine Lt_loadAt1 Try.underlying3 rfl hbA ldA ?_
                            try simp only [eX, ↓reduceIte, Nat.reduceEqDiff, Int.reduceToNat]
                            refine hK _ _ ?_; clear hK K
                          | refine OW_guardF rfl (lt_some (by decide)) rfl ?_
                            simp only [eX, ↓reduceIte, Nat.reduceEqDiff, Int.reduceToNat]
                          first
                          | refine OW_guardT rfl (lt_some (by decide)) rfl (fun K hK r => ?_)
                            simp (disch := (first | omega | decide)) only [x_bin, g_int, b_gtr, dec_lt_t, dec_lt_f, dec_le_t, dec_le_f, dec_eq_t, dec_eq_f, Bool.not_true, Bool.not_false, eX, ↓reduceIte, Nat.reduceEqDiff, Int.reduceToNat]
                            refine hK _ _ ?_; clear hK K
                          | refine OW_guardF rfl (lt_some (by decide)) rfl ?_
                            simp only [eX, ↓reduceIte, Nat.reduceEqDiff, Int.reduceToNat]
                          refine OW_opS (fun K hK r => ?_)
                          simp only [x_pick, l_asBool, HL.ite_bool, if_true, if_false, Bool.false_eq_true, eX, ↓reduceIte, Nat.reduceEqDiff, Int.reduceToNat]
                          refine hK _ _ ?_; clear hK K
                          refine OW_nil ?_
                          try simp only [Ex.thnH, Ex.inBlockH, ↓reduceIte, Nat.reduceEqDiff]
                          refine hK12 _ _ ?_; try clear hK12 K12
                          refine CW_cond (fun r => rfl) (fun c54 => ?_) (fun c54 => ?_)
                          · first
                            | (exfalso; exact cnA c54; done)
                            | skip
                              (try simp only [decide_eq_true_eq, decide_eq_false_iff_not, Bool.not_eq_true, Bool.not_eq_false, Bool.and_eq_true, Bool.or_eq_true, Bool.or_eq_false_iff, Bool.not_eq_true, Bool.not_eq_eq_eq_not, Bool.not_true, Bool.not_false] at c54)
                              refine CW_seq (fun K13 hK13 => ?_)
                              refine CW_region ?_
                              refine OW_as rfl ?_
                              refine OW_nil ?_
                              try simp only [Ex.thnH, Ex.inBlockH, ↓reduceIte, Nat.reduceEqDiff]
                              refine hK13 _ _ ?_; try clear hK13 K13
                              refine CW_ret ?_
                              try simp only [Ex.thnH, Ex.inBlockH, ↓reduceIte, Nat.reduceEqDiff]
                              refine ⟨[_], ⟨rfl, trivial⟩, _, Le.refl _, ?_, lhA⟩
                              show Value.bool _ = _
                              refine congrArg Value.bool ?_
                              rw [← goodR_eq]
                              unfold goodR
                              first | (simp_all; done) | (simp_all; omega) | (simp_all <;> omega)
                          · first
                            | (exfalso; exact cnA c54; done)
                            | skip
                              (try simp only [decide_eq_true_eq, decide_eq_false_iff_not, Bool.not_eq_true, Bool.not_eq_false, Bool.and_eq_true, Bool.or_eq_true, Bool.or_eq_false_iff, Bool.not_eq_true, Bool.not_eq_eq_eq_not, Bool.not_true, Bool.not_false] at c54)
                              refine CW_skip ?_
                              try simp only [Ex.thnH, Ex.inBlockH, ↓reduceIte, Nat.reduceEqDiff]
                              refine hK10 _ _ ?_; try clear hK10 K10
                              refine CW_seq (fun K14 hK14 => ?_)
                              refine CW_seq (fun K15 hK15 => ?_)
                              refine CW_region ?_
                              refine OW_mv rfl ?_
                              refine OW_opS (fun K hK r => ?_)
                              simp only [x_callF _ bd52, List.map_toArray, List.map_cons, List.map_nil, eX, ↓reduceIte, Nat.reduceEqDiff, Int.reduceToNat]
                              refine (uses_op _ x.op 107).mono ?_
                              rintro v H' ⟨rfl, rfl⟩
                              try simp only [eX, ↓reduceIte, Nat.reduceEqDiff, Int.reduceToNat]
                              refine hK _ _ ?_; clear hK K
                              refine OW_nil ?_
                              try simp only [Ex.thnH, Ex.inBlockH, ↓reduceIte, Nat.reduceEqDiff]
                              refine hK15 _ _ ?_; try clear hK15 K15
                              refine CW_cond (fun r => rfl) (fun c59 => ?_) (fun c59 => ?_)
                              · first
                                | (exfalso; exact cnA c59; done)
                                | skip
                                  (try simp only [decide_eq_true_eq, decide_eq_false_iff_not, Bool.not_eq_true, Bool.not_eq_false, Bool.and_eq_true, Bool.or_eq_true, Bool.or_eq_false_iff, Bool.not_eq_true, Bool.not_eq_eq_eq_not, Bool.not_true, Bool.not_false] at c59)
                                  refine CW_seq (fun K16 hK16 => ?_)
                                  refine CW_region ?_
                                  refine OW_opS (fun K hK r => ?_)
                                  simp only [x_fieldAddr, fa47_5, add_mk, Nat.reduceAdd, Nat.zero_add, eX, ↓reduceIte, Nat.reduceEqDiff, Int.reduceToNat]
                                  refine hK _ _ ?_; clear hK K
                                  refine OW_opS (fun K hK r => ?_)
                                  simp only [x_load, eX, ↓reduceIte, Nat.reduceEqDiff, Int.reduceToNat]
                                  refine Lt_loadAt1 Try.underlying3 rfl hbA ldA ?_
                                  try simp only [eX, ↓reduceIte, Nat.reduceEqDiff, Int.reduceToNat]
                                  refine hK _ _ ?_; clear hK K
                                  refine OW_opS (fun K hK r => ?_)
                                  simp (disch := (first | omega | decide)) only [x_bin, g_int, b_geq, dec_lt_t, dec_lt_f, dec_le_t, dec_le_f, dec_eq_t, dec_eq_f, Bool.not_true, Bool.not_false, eX, ↓reduceIte, Nat.reduceEqDiff, Int.reduceToNat]
                                  refine hK _ _ ?_; clear hK K
                                  refine OW_mv rfl ?_
                                  (first | refine OW_split (d := 63) rfl (fun g63 => ?_) (fun g63 => ?_) | skip)
                                  all_goals try (exfalso; exact cnA g63)
                                  all_goals (try simp only [decide_eq_true_eq, decide_eq_false_iff_not, Bool.not_eq_true, Bool.not_eq_false, Bool.and_eq_true, Bool.or_eq_true, Bool.or_eq_false_iff, Bool.not_eq_true, Bool.not_eq_eq_eq_not, Bool.not_true, Bool.not_false] at g63)
                                  all_goals
                                    try simp only [eX, ↓reduceIte, Nat.reduceEqDiff, Int.reduceToNat]
                                    first
                                    | refine OW_guardT rfl (lt_some (by decide)) rfl (fun K hK r => ?_)
                                      simp only [x_fieldAddr, fa47_5, add_mk, Nat.reduceAdd, Nat.zero_add, eX, ↓reduceIte, Nat.reduceEqDiff, Int.reduceToNat]
                                      refine hK _ _ ?_; clear hK K
                                    | refine OW_guardF rfl (lt_some (by decide)) rfl ?_
                                      simp only [eX, ↓reduceIte, Nat.reduceEqDiff, Int.reduceToNat]
                                    first
                                    | refine OW_guardT rfl (lt_some (by decide)) rfl (fun K hK r => ?_)
                                      simp only [x_load, eX, ↓reduceIte, Nat.reduceEqDiff, Int.reduceToNat]
                                      refine Lt_loadAt1 Try.underlying3 rfl hbA ldA ?_
                                      try simp only [eX, ↓reduceIte, Nat.reduceEqDiff, Int.reduceToNat]
                                      refine hK _ _ ?_; clear hK K
                                    | refine OW_guardF rfl (lt_some (by decide)) rfl ?_
                                      simp only [eX, ↓reduceIte, Nat.reduceEqDiff, Int.reduceToNat]
                                    first
                                    | refine OW_guardT rfl (lt_some (by decide)) rfl (fun K hK r => ?_)
                                      simp (disch := (first | omega | decide)) only [x_bin, g_int, b_leq, dec_lt_t, dec_lt_f, dec_le_t, dec_le_f, dec_eq_t, dec_eq_f, Bool.not_true, Bool.not_false, eX, ↓reduceIte, Nat.reduceEqDiff, Int.reduceToNat]
                                      refine hK _ _ ?_; clear hK K
                                    | refine OW_guardF rfl (lt_some (by decide)) rfl ?_
                                      simp only [eX, ↓reduceIte, Nat.reduceEqDiff, Int.reduceToNat]
                                    refine OW_opS (fun K hK r => ?_)
                                    simp only [x_pick, l_asBool, HL.ite_bool, if_true, if_false, Bool.false_eq_true, eX, ↓reduceIte, Nat.reduceEqDiff, Int.reduceToNat]
                                    refine hK _ _ ?_; clear hK K
                                    refine OW_as rfl ?_
                                    refine OW_nil ?_
                                    try simp only [Ex.thnH, Ex.inBlockH, ↓reduceIte, Nat.reduceEqDiff]
                                    refine hK16 _ _ ?_; try clear hK16 K16
                                    refine CW_ret ?_
                                    try simp only [Ex.thnH, Ex.inBlockH, ↓reduceIte, Nat.reduceEqDiff]
                                    refine ⟨[_], ⟨rfl, trivial⟩, _, Le.refl _, ?_, lhA⟩
                                    show Value.bool _ = _
                                    refine congrArg Value.bool ?_
                                    rw [← goodR_eq]
                                    unfold goodR
                                    first | (simp_all; done) | (simp_all; omega) | (simp_all <;> omega)
                              · first
                                | (exfalso; exact cnA c59; done)
                                | skip
                                  (try simp only [decide_eq_true_eq, decide_eq_false_iff_not, Bool.not_eq_true, Bool.not_eq_false, Bool.and_eq_true, Bool.or_eq_true, Bool.or_eq_false_iff, Bool.not_eq_true, Bool.not_eq_eq_eq_not, Bool.not_true, Bool.not_false] at c59)
                                  refine CW_skip ?_
                                  try simp only [Ex.thnH, Ex.inBlockH, ↓reduceIte, Nat.reduceEqDiff]
                                  refine hK14 _ _ ?_; try clear hK14 K14
                                  refine CW_seq (fun K17 hK17 => ?_)
                                  refine CW_seq (fun K18 hK18 => ?_)
                                  refine CW_region ?_
                                  refine OW_mv rfl ?_
                                  refine OW_opS (fun K hK r => ?_)
                                  simp only [x_callF _ bd52, List.map_toArray, List.map_cons, List.map_nil, eX, ↓reduceIte, Nat.reduceEqDiff, Int.reduceToNat]
                                  refine (uses_op _ x.op 106).mono ?_
                                  rintro v H' ⟨rfl, rfl⟩
                                  try simp only [eX, ↓reduceIte, Nat.reduceEqDiff, Int.reduceToNat]
                                  refine hK _ _ ?_; clear hK K
                                  refine OW_nil ?_
                                  try simp only [Ex.thnH, Ex.inBlockH, ↓reduceIte, Nat.reduceEqDiff]
                                  refine hK18 _ _ ?_; try clear hK18 K18
                                  refine CW_cond (fun r => rfl) (fun c69 => ?_) (fun c69 => ?_)
                                  · first
                                    | (exfalso; exact cnA c69; done)
                                    | skip
                                      (try simp only [decide_eq_true_eq, decide_eq_false_iff_not, Bool.not_eq_true, Bool.not_eq_false, Bool.and_eq_true, Bool.or_eq_true, Bool.or_eq_false_iff, Bool.not_eq_true, Bool.not_eq_eq_eq_not, Bool.not_true, Bool.not_false] at c69)
                                      refine CW_seq (fun K19 hK19 => ?_)
                                      refine CW_region ?_
                                      refine OW_opS (fun K hK r => ?_)
                                      simp only [x_fieldAddr, fa47_5, add_mk, Nat.reduceAdd, Nat.zero_add, eX, ↓reduceIte, Nat.reduceEqDiff, Int.reduceToNat]
                                      refine hK _ _ ?_; clear hK K
                                      refine OW_opS (fun K hK r => ?_)
                                      simp only [x_load, eX, ↓reduceIte, Nat.reduceEqDiff, Int.reduceToNat]
                                      refine Lt_loadAt1 Try.underlying3 rfl hbA ldA ?_
                                      try simp only [eX, ↓reduceIte, Nat.reduceEqDiff, Int.reduceToNat]
                                      refine hK _ _ ?_; clear hK K
                                      refine OW_opS (fun K hK r => ?_)
                                      simp (disch := (first | omega | decide)) only [x_bin, g_int, b_geq, dec_lt_t, dec_lt_f, dec_le_t, dec_le_f, dec_eq_t, dec_eq_f, Bool.not_true, Bool.not_false, eX, ↓reduceIte, Nat.reduceEqDiff, Int.reduceToNat]
                                      refine hK _ _ ?_; clear hK K
                                      refine OW_mv rfl ?_
                                      (first | refine OW_split (d := 73) rfl (fun g73 => ?_) (fun g73 => ?_) | skip)
                                      all_goals try (exfalso; exact cnA g73)
                                      all_goals (try simp only [decide_eq_true_eq, decide_eq_false_iff_not, Bool.not_eq_true, Bool.not_eq_false, Bool.and_eq_true, Bool.or_eq_true, Bool.or_eq_false_iff, Bool.not_eq_true, Bool.not_eq_eq_eq_not, Bool.not_true, Bool.not_false] at g73)
                                      all_goals
                                        try simp only [eX, ↓reduceIte, Nat.reduceEqDiff, Int.reduceToNat]
                                        first
                                        | refine OW_guardT rfl (lt_some (by decide)) rfl (fun K hK r => ?_)
                                          simp only [x_fieldAddr, fa47_5, add_mk, Nat.reduceAdd, Nat.zero_add, eX, ↓reduceIte, Nat.reduceEqDiff, Int.reduceToNat]
                                          refine hK _ _ ?_; clear hK K
                                        | refine OW_guardF rfl (lt_some (by decide)) rfl ?_
                                          simp only [eX, ↓reduceIte, Nat.reduceEqDiff, Int.reduceToNat]
                                        first
                                        | refine OW_guardT rfl (lt_some (by decide)) rfl (fun K hK r => ?_)
                                          simp only [x_load, eX, ↓reduceIte, Nat.reduceEqDiff, Int.reduceToNat]
                                          refine Lt_loadAt1 Try.underlying3 rfl hbA ldA ?_
                                          try simp only [eX, ↓reduceIte, Nat.reduceEqDiff, Int.reduceToNat]
                                          refine hK _ _ ?_; clear hK K
                                        | refine OW_guardF rfl (lt_some (by decide)) rfl ?_
                                          simp only [eX, ↓reduceIte, Nat.reduceEqDiff, Int.reduceToNat]
                                        first
                                        | refine OW_guardT rfl (lt_some (by decide)) rfl (fun K hK r => ?_)
                                          simp (disch := (first | omega | decide)) only [x_bin, g_int, b_leq, dec_lt_t, dec_lt_f, dec_le_t, dec_le_f, dec_eq_t, dec_eq_f, Bool.not_true, Bool.not_false, eX, ↓reduceIte, Nat.reduceEqDiff, Int.reduceToNat]
                                          refine hK _ _ ?_; clear hK K
                                        | refine OW_guardF rfl (lt_some (by decide)) rfl ?_
                                          simp only [eX, ↓reduceIte, Nat.reduceEqDiff, Int.reduceToNat]
                                        refine OW_opS (fun K hK r => ?_)
                                        simp only [x_pick, l_asBool, HL.ite_bool, if_true, if_false, Bool.false_eq_true, eX, ↓reduceIte, Nat.reduceEqDiff, Int.reduceToNat]
                                        refine hK _ _ ?_; clear hK K
                                        refine OW_as rfl ?_
                                        refine OW_nil ?_
                                        try simp only [Ex.thnH, Ex.inBlockH, ↓reduceIte, Nat.reduceEqDiff]
                                        refine hK19 _ _ ?_; try clear hK19 K19
                                        refine CW_ret ?_
                                        try simp only [Ex.thnH, Ex.inBlockH, ↓reduceIte, Nat.reduceEqDiff]
                                        refine ⟨[_], ⟨rfl, trivial⟩, _, Le.refl _, ?_, lhA⟩
                                        show Value.bool _ = _
                                        refine congrArg Value.bool ?_
                                        rw [← goodR_eq]
                                        unfold goodR
                                        first | (simp_all; done) | (simp_all; omega) | (simp_all <;> omega)
                                  · first
                                    | (exfalso; exact cnA c69; done)
                                    | skip
                                      (try simp only [decide_eq_true_eq, decide_eq_false_iff_not, Bool.not_eq_true, Bool.not_eq_false, Bool.and_eq_true, Bool.or_eq_true, Bool.or_eq_false_iff, Bool.not_eq_true, Bool.not_eq_eq_eq_not, Bool.not_true, Bool.not_false] at c69)
                                      refine CW_skip ?_
                                      try simp only [Ex.thnH, Ex.inBlockH, ↓reduceIte, Nat.reduceEqDiff]
                                      refine hK17 _ _ ?_; try clear hK17 K17
                                      refine CW_seq (fun K20 hK20 => ?_)
                                      refine CW_region ?_
                                      refine OW_mv rfl ?_
                                      refine OW_opS (fun K hK r => ?_)
                                      simp only [x_callF _ bd52, List.map_toArray, List.map_cons, List.map_nil, eX, ↓reduceIte, Nat.reduceEqDiff, Int.reduceToNat]
                                      refine (uses_op _ x.op 110).mono ?_
                                      rintro v H' ⟨rfl, rfl⟩
                                      try simp only [eX, ↓reduceIte, Nat.reduceEqDiff, Int.reduceToNat]
                                      refine hK _ _ ?_; clear hK K
                                      refine OW_mv rfl ?_
                                      (first | refine OW_split (d := 80) rfl (fun g80 => ?_) (fun g80 => ?_) | skip)
                                      all_goals try (exfalso; exact cnA g80)
                                      all_goals (try simp only [decide_eq_true_eq, decide_eq_false_iff_not, Bool.not_eq_true, Bool.not_eq_false, Bool.and_eq_true, Bool.or_eq_true, Bool.or_eq_false_iff, Bool.not_eq_true, Bool.not_eq_eq_eq_not, Bool.not_true, Bool.not_false] at g80)
                                      all_goals
                                        try simp only [eX, ↓reduceIte, Nat.reduceEqDiff, Int.reduceToNat]
                                        first
                                        | refine OW_guardT rfl (lt_some (by decide)) rfl (fun K hK r => ?_)
                                          simp only [x_fieldAddr, fa47_5, add_mk, Nat.reduceAdd, Nat.zero_add, eX, ↓reduceIte, Nat.reduceEqDiff, Int.reduceToNat]
                                          refine hK _ _ ?_; clear hK K
                                        | refine OW_guardF rfl (lt_some (by decide)) rfl ?_
                                          simp only [eX, ↓reduceIte, Nat.reduceEqDiff, Int.reduceToNat]
                                        first
                                        | refine OW_guardT rfl (lt_some (by decide)) rfl (fun K hK r => ?_)
                                          simp only [x_load, eX, ↓reduceIte, Nat.reduceEqDiff, Int.reduceToNat]
                                          refine Lt_loadAt1 Try.underlying3 rfl hbA ldA ?_
                                          try simp only [eX, ↓reduceIte, Nat.reduceEqDiff, Int.reduceToNat]
                                          refine hK _ _ ?_; clear hK K
                                        | refine OW_guardF rfl (lt_some (by decide)) rfl ?_
                                          simp only [eX, ↓reduceIte, Nat.reduceEqDiff, Int.reduceToNat]
                                        first
                                        | refine OW_guardT rfl (lt_some (by decide)) rfl (fun K hK r => ?_)
                                          simp (disch := (first | omega | decide)) only [x_bin, g_int, b_eql, dec_lt_t, dec_lt_f, dec_le_t, dec_le_f, dec_eq_t, dec_eq_f, Bool.not_true, Bool.not_false, eX, ↓reduceIte, Nat.reduceEqDiff, Int.reduceToNat]
                                          refine hK _ _ ?_; clear hK K
                                        | refine OW_guardF rfl (lt_some (by decide)) rfl ?_
                                          simp only [eX, ↓reduceIte, Nat.reduceEqDiff, Int.reduceToNat]
                                        refine OW_opS (fun K hK r => ?_)
                                        simp only [x_pick, l_asBool, HL.ite_bool, if_true, if_false, Bool.false_eq_true, eX, ↓reduceIte, Nat.reduceEqDiff, Int.reduceToNat]
                                        refine hK _ _ ?_; clear hK K
                                        refine OW_as rfl ?_
                                        refine OW_nil ?_
                                        try simp only [Ex.thnH, Ex.inBlockH, ↓reduceIte, Nat.reduceEqDiff]
                                        refine hK20 _ _ ?_; try clear hK20 K20
                                        refine CW_ret ?_
                                        try simp only [Ex.thnH, Ex.inBlockH, ↓reduceIte, Nat.reduceEqDiff]
                                        refine ⟨[_], ⟨rfl, trivial⟩, _, Le.refl _, ?_, lhA⟩
                                        show Value.bool _ = _
                                        refine congrArg Value.bool ?_
                                        rw [← goodR_eq]
                                        unfold goodR
                                        first | (simp_all; done) | (simp_all; omega) | (simp_all <;> omega)
                    · first
                      | (exfalso; exact cnA c46; done)
                      | skip
                        (try simp only [decide_eq_true_eq, decide_eq_false_iff_not, Bool.not_eq_true, Bool.not_eq_false, Bool.and_eq_true, Bool.or_eq_true, Bool.or_eq_false_iff, Bool.not_eq_true, Bool.not_eq_eq_eq_not, Bool.not_true, Bool.not_false] at c46)
                        refine CW_seq (fun K21 hK21 => ?_)
                        refine CW_region ?_
                        refine OW_opS (fun K hK r => ?_)
                        simp only [x_fieldAddr, fa47_4, add_mk, Nat.reduceAdd, Nat.zero_add, eX, ↓reduceIte, Nat.reduceEqDiff, Int.reduceToNat]
                        refine hK _ _ ?_; clear hK K
                        refine OW_opS (fun K hK r => ?_)
                        simp only [x_load, eX, ↓reduceIte, Nat.reduceEqDiff, Int.reduceToNat]
                        refine Lt_loadAt1 Try.underlying3 rfl hbA ldA ?_
                        try simp only [eX, ↓reduceIte, Nat.reduceEqDiff, Int.reduceToNat]
                        refine hK _ _ ?_; clear hK K
                        refine OW_opS (fun K hK r => ?_)
                        simp (disch := (first | omega | decide)) only [x_bin, g_int, b_neq, dec_lt_t, dec_lt_f, dec_le_t, dec_le_f, dec_eq_t, dec_eq_f, Bool.not_true, Bool.not_false, eX, ↓reduceIte, Nat.reduceEqDiff, Int.reduceToNat]
                        refine hK _ _ ?_; clear hK K
                        refine OW_nil ?_
                        try simp only [Ex.thnH, Ex.inBlockH, ↓reduceIte, Nat.reduceEqDiff]
                        refine hK21 _ _ ?_; try clear hK21 K21
                        refine CW_cond (fun r => rfl) (fun c57 => ?_) (fun c57 => ?_)
                        · first
                          | (exfalso; exact cnA c57; done)
                          | skip
                            (try simp only [decide_eq_true_eq, decide_eq_false_iff_not, Bool.not_eq_true, Bool.not_eq_false, Bool.and_eq_true, Bool.or_eq_true, Bool.or_eq_false_iff, Bool.not_eq_true, Bool.not_eq_eq_eq_not, Bool.not_true, Bool.not_false] at c57)
                            refine CW_seq (fun K22 hK22 => ?_)
                            refine CW_region ?_
                            refine OW_as rfl ?_
                            refine OW_nil ?_
                            try simp only [Ex.thnH, Ex.inBlockH, ↓reduceIte, Nat.reduceEqDiff]
                            refine hK22 _ _ ?_; try clear hK22 K22
                            refine CW_ret ?_
                            try simp only [Ex.thnH, Ex.inBlockH, ↓reduceIte, Nat.reduceEqDiff]
                            refine ⟨[_], ⟨rfl, trivial⟩, _, Le.refl _, ?_, lhA⟩
                            show Value.bool _ = _
                            refine congrArg Value.bool ?_
                            rw [← goodR_eq]
                            unfold goodR
                            first | (simp_all; done) | (simp_all; omega) | (simp_all <;> omega)
                        · first
                          | (exfalso; exact cnA c57; done)
                          | skip
                            (try simp only [decide_eq_true_eq, decide_eq_false_iff_not, Bool.not_eq_true, Bool.not_eq_false, Bool.and_eq_true, Bool.or_eq_true, Bool.or_eq_false_iff, Bool.not_eq_true, Bool.not_eq_eq_eq_not, Bool.not_true, Bool.not_false] at c57)
                            refine CW_skip ?_
                            try simp only [Ex.thnH, Ex.inBlockH, ↓reduceIte, Nat.reduceEqDiff]
                            refine hK10 _ _ ?_; try clear hK10 K10
                            refine CW_seq (fun K23 hK23 => ?_)
                            refine CW_seq (fun K24 hK24 => ?_)
                            refine CW_region ?_
                            refine OW_mv rfl ?_
                            refine OW_opS (fun K hK r => ?_)
                            simp only [x_callF _ bd52, List.map_toArray, List.map_cons, List.map_nil, eX, ↓reduceIte, Nat.reduceEqDiff, Int.reduceToNat]
                            refine (uses_op _ x.op 107).mono ?_
                            rintro v H' ⟨rfl, rfl⟩
                            try simp only [eX, ↓reduceIte, Nat.reduceEqDiff, Int.reduceToNat]
                            refine hK _ _ ?_; clear hK K
                            refine OW_nil ?_
                            try simp only [Ex.thnH, Ex.inBlockH, ↓reduceIte, Nat.reduceEqDiff]
                            refine hK24 _ _ ?_; try clear hK24 K24
                            refine CW_cond (fun r => rfl) (fun c59 => ?_) (fun c59 => ?_)
                            · first
                              | (exfalso; exact cnA c59; done)
                              | skip
                                (try simp only [decide_eq_true_eq, decide_eq_false_iff_not, Bool.not_eq_true, Bool.not_eq_false, Bool.and_eq_true, Bool.or_eq_true, Bool.or_eq_false_iff, Bool.not_eq_true, Bool.not_eq_eq_eq_not, Bool.not_true, Bool.not_false] at c59)
                                refine CW_seq (fun K25 hK25 => ?_)
                                refine CW_region ?_
                                refine OW_opS (fun K hK r => ?_)
                                simp only [x_fieldAddr, fa47_5, add_mk, Nat.reduceAdd, Nat.zero_add, eX, ↓reduceIte, Nat.reduceEqDiff, Int.reduceToNat]
                                refine hK _ _ ?_; clear hK K
                                refine OW_opS (fun K hK r => ?_)
                                simp only [x_load, eX, ↓reduceIte, Nat.reduceEqDiff, Int.reduceToNat]
                                refine Lt_loadAt1 Try.underlying3 rfl hbA ldA ?_
                                try simp only [eX, ↓reduceIte, Nat.reduceEqDiff, Int.reduceToNat]
                                refine hK _ _ ?_; clear hK K
                                refine OW_opS (fun K hK r => ?_)
                                simp (disch := (first | omega | decide)) only [x_bin, g_int, b_geq, dec_lt_t, dec_lt_f, dec_le_t, dec_le_f, dec_eq_t, dec_eq_f, Bool.not_true, Bool.not_false, eX, ↓reduceIte, Nat.reduceEqDiff, Int.reduceToNat]
                                refine hK _ _ ?_; clear hK K
                                refine OW_mv rfl ?_
                                (first | refine OW_split (d := 63) rfl (fun g63 => ?_) (fun g63 => ?_) | skip)
                                all_goals try (exfalso; exact cnA g63)
                                all_goals (try simp only [decide_eq_true_eq, decide_eq_false_iff_not, Bool.not_eq_true, Bool.not_eq_false, Bool.and_eq_true, Bool.or_eq_true, Bool.or_eq_false_iff, Bool.not_eq_true, Bool.not_eq_eq_eq_not, Bool.not_true, Bool.not_false] at g63)
                                all_goals
                                  try simp only [eX, ↓reduceIte, Nat.reduceEqDiff, Int.reduceToNat]
                                  first
                                  | refine OW_guardT rfl (lt_some (by decide)) rfl (fun K hK r => ?_)
                                    simp only [x_fieldAddr, fa47_5, add_mk, Nat.reduceAdd, Nat.zero_add, eX, ↓reduceIte, Nat.reduceEqDiff, Int.reduceToNat]
                                    refine hK _ _ ?_; clear hK K
                                  | refine OW_guardF rfl (lt_some (by decide)) rfl ?_
                                    simp only [eX, ↓reduceIte, Nat.reduceEqDiff, Int.reduceToNat]
                                  first
                                  | refine OW_guardT rfl (lt_some (by decide)) rfl (fun K hK r => ?_)
                                    simp only [x_load, eX, ↓reduceIte, Nat.reduceEqDiff, Int.reduceToNat]
                                    refine Lt_loadAt1 Try.underlying3 rfl hbA ldA ?_
                                    try simp only [eX, ↓reduceIte, Nat.reduceEqDiff, Int.reduceToNat]
                                    refine hK _ _ ?_; clear hK K
                                  | refine OW_guardF rfl (lt_some (by decide)) rfl ?_
                                    simp only [eX, ↓reduceIte, Nat.reduceEqDiff, Int.reduceToNat]
                                  first
                                  | refine OW_guardT rfl (lt_some (by decide)) rfl (fun K hK r => ?_)
                                    simp (disch := (first | omega | decide)) only [x_bin, g_int, b_leq, dec_lt_t, dec_lt_f, dec_le_t, dec_le_f, dec_eq_t, dec_eq_f, Bool.not_true, Bool.not_false, eX, ↓reduceIte, Nat.reduceEqDiff, Int.reduceToNat]
                                    refine hK _ _ ?_; clear hK K
                                  | refine OW_guardF rfl (lt_some (by decide)) rfl ?_
                                    simp only [eX, ↓reduceIte, Nat.reduceEqDiff, Int.reduceToNat]
                                  refine OW_opS (fun K hK r => ?_)
                                  simp only [x_pick, l_asBool, HL.ite_bool, if_true, if_false, Bool.false_eq_true, eX, ↓reduceIte, Nat.reduceEqDiff, Int.reduceToNat]
                                  refine hK _ _ ?_; clear hK K
                                  refine OW_as rfl ?_
                                  refine OW_nil ?_
                                  try simp only [Ex.thnH, Ex.inBlockH, ↓reduceIte, Nat.reduceEqDiff]
                                  refine hK25 _ _ ?_; try clear hK25 K25
                                  refine CW_ret ?_
                                  try simp only [Ex.thnH, Ex.inBlockH, ↓reduceIte, Nat.reduceEqDiff]
                                  refine ⟨[_], ⟨rfl, trivial⟩, _, Le.refl _, ?_, lhA⟩
                                  show Value.bool _ = _
                                  refine congrArg Value.bool ?_
                                  rw [← goodR_eq]
                                  unfold goodR
                                  first | (simp_all; done) | (simp_all; omega) | (simp_all <;> omega)
                            · first
                              | (exfalso; exact cnA c59; done)
                              | skip
                                (try simp only [decide_eq_true_eq, decide_eq_false_iff_not, Bool.not_eq_true, Bool.not_eq_false, Bool.and_eq_true, Bool.or_eq_true, Bool.or_eq_false_iff, Bool.not_eq_true, Bool.not_eq_eq_eq_not, Bool.not_true, Bool.not_false] at c59)
                                refine CW_skip ?_
                                try simp only [Ex.thnH, Ex.inBlockH, ↓reduceIte, Nat.reduceEqDiff]
                                refine hK23 _ _ ?_; try clear hK23 K23
                                refine CW_seq (fun K26 hK26 => ?_)
                                refine CW_seq (fun K27 hK27 => ?_)
                                refine CW_region ?_
                                refine OW_mv rfl ?_
                                refine OW_opS (fun K hK r => ?_)
                                simp only [x_callF _ bd52, List.map_toArray, List.map_cons, List.map_nil, eX, ↓reduceIte, Nat.reduceEqDiff, Int.reduceToNat]
                                refine (uses_op _ x.op 106).mono ?_
                                rintro v H' ⟨rfl, rfl⟩
                                try simp only [eX, ↓reduceIte, Nat.reduceEqDiff, Int.reduceToNat]
                                refine hK _ _ ?_; clear hK K
                                refine OW_nil ?_
                                try simp only [Ex.thnH, Ex.inBlockH, ↓reduceIte, Nat.reduceEqDiff]
                                refine hK27 _ _ ?_; try clear hK27 K27
                                refine CW_cond (fun r => rfl) (fun c69 => ?_) (fun c69 => ?_)
                                · first
                                  | (exfalso; exact cnA c69; done)
                                  | skip
                                    (try simp only [decide_eq_true_eq, decide_eq_false_iff_not, Bool.not_eq_true, Bool.not_eq_false, Bool.and_eq_true, Bool.or_eq_true, Bool.or_eq_false_iff, Bool.not_eq_true, Bool.not_eq_eq_eq_not, Bool.not_true, Bool.not_false] at c69)
                                    refine CW_seq (fun K28 hK28 => ?_)
                                    refine CW_region ?_
                                    refine OW_opS (fun K hK r => ?_)
                                    simp only [x_fieldAddr, fa47_5, add_mk, Nat.reduceAdd, Nat.zero_add, eX, ↓reduceIte, Nat.reduceEqDiff, Int.reduceToNat]
                                    refine hK _ _ ?_; clear hK K
                                    refine OW_opS (fun K hK r => ?_)
                                    simp only [x_load, eX, ↓reduceIte, Nat.reduceEqDiff, Int.reduceToNat]
                                    refine Lt_loadAt1 Try.underlying3 rfl hbA ldA ?_
                                    try simp only [eX, ↓reduceIte, Nat.reduceEqDiff, Int.reduceToNat]
                                    refine hK _ _ ?_; clear hK K
                                    refine OW_opS (fun K hK r => ?_)
                                    simp (disch := (first | omega | decide)) only [x_bin, g_int, b_geq, dec_lt_t, dec_lt_f, dec_le_t, dec_le_f, dec_eq_t, dec_eq_f, Bool.not_true, Bool.not_false, eX, ↓reduceIte, Nat.reduceEqDiff, Int.reduceToNat]
                                    refine hK _ _ ?_; clear hK K
                                    refine OW_mv rfl ?_
                                    (first | refine OW_split (d := 73) rfl (fun g73 => ?_) (fun g73 => ?_) | skip)
                                    all_goals try (exfalso; exact cnA g73)
                                    all_goals (try simp only [decide_eq_true_eq, decide_eq_false_iff_not, Bool.not_eq_true, Bool.not_eq_false, Bool.and_eq_true, Bool.or_eq_true, Bool.or_eq_false_iff, Bool.not_eq_true, Bool.not_eq_eq_eq_not, Bool.not_true, Bool.not_false] at g73)
                                    all_goals
                                      try simp only [eX, ↓reduceIte, Nat.reduceEqDiff, Int.reduceToNat]
                                      first
                                      | refine OW_guardT rfl (lt_some (by decide)) rfl (fun K hK r => ?_)
                                        simp only [x_fieldAddr, fa47_5, add_mk, Nat.reduceAdd, Nat.zero_add, eX, ↓reduceIte, Nat.reduceEqDiff, Int.reduceToNat]
                                        refine hK _ _ ?_; clear hK K
                                      | refine OW_guardF rfl (lt_some (by decide)) rfl ?_
                                        simp only [eX, ↓reduceIte, Nat.reduceEqDiff, Int.reduceToNat]
                                      first
                                      | refine OW_guardT rfl (lt_some (by decide)) rfl (fun K hK r => ?_)
                                        simp only [x_load, eX, ↓reduceIte, Nat.reduceEqDiff, Int.reduceToNat]
                                        refine Lt_loadAt1 Try.underlying3 rfl hbA ldA ?_
                                        try simp only [eX, ↓reduceIte, Nat.reduceEqDiff, Int.reduceToNat]
                                        refine hK _ _ ?_; clear hK K
                                      | refine OW_guardF rfl (lt_some (by decide)) rfl ?_
                                        simp only [eX, ↓reduceIte, Nat.reduceEqDiff, Int.reduceToNat]
                                      first
                                      | refine OW_guardT rfl (lt_some (by decide)) rfl (fun K hK r => ?_)
                                        simp (disch := (first | omega | decide)) only [x_bin, g_int, b_leq, dec_lt_t, dec_lt_f, dec_le_t, dec_le_f, dec_eq_t, dec_eq_f, Bool.not_true, Bool.not_false, eX, ↓reduceIte, Nat.reduceEqDiff, Int.reduceToNat]
                                        refine hK _ _ ?_; clear hK K
                                      | refine OW_guardF rfl (lt_some (by decide)) rfl ?_
                                        simp only [eX, ↓reduceIte, Nat.reduceEqDiff, Int.reduceToNat]
                                      refine OW_opS (fun K hK r => ?_)
                                      simp only [x_pick, l_asBool, HL.ite_bool, if_true, if_false, Bool.false_eq_true, eX, ↓reduceIte, Nat.reduceEqDiff, Int.reduceToNat]
                                      refine hK _ _ ?_; clear hK K
                                      refine OW_as rfl ?_
                                      refine OW_nil ?_
                                      try simp only [Ex.thnH, Ex.inBlockH, ↓reduceIte, Nat.reduceEqDiff]
                                      refine hK28 _ _ ?_; try clear hK28 K28
                                      refine CW_ret ?_
                                      try simp only [Ex.thnH, Ex.inBlockH, ↓reduceIte, Nat.reduceEqDiff]
                                      refine ⟨[_], ⟨rfl, trivial⟩, _, Le.refl _, ?_, lhA⟩
                                      show Value.bool _ = _
                                      refine congrArg Value.bool ?_
                                      rw [← goodR_eq]
                                      unfold goodR
                                      first | (simp_all; done) | (simp_all; omega) | (simp_all <;> omega)
                                · first
                                  | (exfalso; exact cnA c69; done)
                                  | skip
                                    (try simp only [decide_eq_true_eq, decide_eq_false_iff_not, Bool.not_eq_true, Bool.not_eq_false, Bool.and_eq_true, Bool.or_eq_true, Bool.or_eq_false_iff, Bool.not_eq_true, Bool.not_eq_eq_eq_not, Bool.not_true, Bool.not_false] at c69)
                                    refine CW_skip ?_
                                    try simp only [Ex.thnH, Ex.inBlockH, ↓reduceIte, Nat.reduceEqDiff]
                                    refine hK26 _ _ ?_; try clear hK26 K26
                                    refine CW_seq (fun K29 hK29 => ?_)
                                    refine CW_region ?_
                                    refine OW_mv rfl ?_
                                    refine OW_opS (fun K hK r => ?_)
                                    simp only [x_callF _ bd52, List.map_toArray, List.map_cons, List.map_nil, eX, ↓reduceIte, Nat.reduceEqDiff, Int.reduceToNat]
                                    refine (uses_op _ x.op 110).mono ?_
                                    rintro v H' ⟨rfl, rfl⟩
                                    try simp only [eX, ↓reduceIte, Nat.reduceEqDiff, Int.reduceToNat]
                                    refine hK _ _ ?_; clear hK K
                                    refine OW_mv rfl ?_
                                    (first | refine OW_split (d := 80) rfl (fun g80 => ?_) (fun g80 => ?_) | skip)
                                    all_goals try (exfalso; exact cnA g80)
                                    all_goals (try simp only [decide_eq_true_eq, decide_eq_false_iff_not, Bool.not_eq_true, Bool.not_eq_false, Bool.and_eq_true, Bool.or_eq_true, Bool.or_eq_false_iff, Bool.not_eq_true, Bool.not_eq_eq_eq_not, Bool.not_true, Bool.not_false] at g80)
                                    all_goals
                                      try simp only [eX, ↓reduceIte, Nat.reduceEqDiff, Int.reduceToNat]
                                      first
                                      | refine OW_guardT rfl (lt_some (by decide)) rfl (fun K hK r => ?_)
                                        simp only [x_fieldAddr, fa47_5, add_mk, Nat.reduceAdd, Nat.zero_add, eX, ↓reduceIte, Nat.reduceEqDiff, Int.reduceToNat]
                                        refine hK _ _ ?_; clear hK K
                                      | refine OW_guardF rfl (lt_some (by decide)) rfl ?_
                                        simp only [eX, ↓reduceIte, Nat.reduceEqDiff, Int.reduceToNat]
                                      first
                                      | refine OW_guardT rfl (lt_some (by decide)) rfl (fun K hK r => ?_)
                                        simp only [x_load, eX, ↓reduceIte, Nat.reduceEqDiff, Int.reduceToNat]
                                        refine Lt_loadAt1 Try.underlying3 rfl hbA ldA ?_
                                        try simp only [eX, ↓reduceIte, Nat.reduceEqDiff, Int.reduceToNat]
                                        refine hK _ _ ?_; clear hK K
                                      | refine OW_guardF rfl (lt_some (by decide)) rfl ?_
                                        simp only [eX, ↓reduceIte, Nat.reduceEqDiff, Int.reduceToNat]
                                      first
                                      | refine OW_guardT rfl (lt_some (by decide)) rfl (fun K hK r => ?_)
                                        simp (disch := (first | omega | decide)) only [x_bin, g_int, b_eql, dec_lt_t, dec_lt_f, dec_le_t, dec_le_f, dec_eq_t, dec_eq_f, Bool.not_true, Bool.not_false, eX, ↓reduceIte, Nat.reduceEqDiff, Int.reduceToNat]
                                        refine hK _ _ ?_; clear hK K
                                      | refine OW_guardF rfl (lt_some (by decide)) rfl ?_
                                        simp only [eX, ↓reduceIte, Nat.reduceEqDiff, Int.reduceToNat]
                                      refine OW_opS (fun K hK r => ?_)
                                      simp only [x_pick, l_asBool, HL.ite_bool, if_true, if_false, Bool.false_eq_true, eX, ↓reduceIte, Nat.reduceEqDiff, Int.reduceToNat]
                                      refine hK _ _ ?_; clear hK K
                                      refine OW_as rfl ?_
                                      refine OW_nil ?_
                                      try simp only [Ex.thnH, Ex.inBlockH, ↓reduceIte, Nat.reduceEqDiff]
                                      refine hK29 _ _ ?_; try clear hK29 K29
                                      refine CW_ret ?_
                                      try simp only [Ex.thnH, Ex.inBlockH, ↓reduceIte, Nat.reduceEqDiff]
                                      refine ⟨[_], ⟨rfl, trivial⟩, _, Le.refl _, ?_, lhA⟩
                                      show Value.bool _ = _
                                      refine congrArg Value.bool ?_
                                      rw [← goodR_eq]
                                      unfold goodR
                                      first | (simp_all; done) | (simp_all; omega) | (simp_all <;> omega)
          · first
            | (exfalso; exact cnA c29; done)
            | skip
              (try simp only [decide_eq_true_eq, decide_eq_false_iff_not, Bool.not_eq_true, Bool.not_eq_false, Bool.and_eq_true, Bool.or_eq_true, Bool.or_eq_false_iff, Bool.not_eq_true, Bool.not_eq_eq_eq_not, Bool.not_true, Bool.not_false] at c29)
              refine CW_seq (fun K30 hK30 => ?_)
              refine CW_drawE [0, 2, 0, 1, 3, 0] [0, 1, 2, 3, 4, 5] (by kernel_rfl) (by kernel_rfl) (fun R7 hR7 => ?_)
              apply TW_pure rfl (lt_some (by decide)) rfl
              · intro r
                simp only [x_move, eX, ↓reduceIte, Nat.reduceEqDiff]
                exact ⟨rfl, Le.refl _⟩
              simp only [eX, ↓reduceIte, Nat.reduceEqDiff, Int.reduceToNat]
              refine TW_chain rfl (lt_some (by decide)) rfl (fun K hK r => ?_)
              simp only [x_callF _ bd52, List.map_toArray, List.map_cons, List.map_nil, eX, ↓reduceIte, Nat.reduceEqDiff, Int.reduceToNat]
              refine (uses_op _ x.op 97).mono ?_
              rintro v H' ⟨rfl, rfl⟩
              try simp only [eX, ↓reduceIte, Nat.reduceEqDiff, Int.reduceToNat]
              refine hK _ _ leA ?_; clear hK K
              apply TW_pure rfl (lt_some (by decide)) rfl
              · intro r
                simp only [x_fieldAddr, fa47_1, add_mk, Nat.reduceAdd, Nat.zero_add, eX, ↓reduceIte, Nat.reduceEqDiff]
                exact ⟨rfl, Le.refl _⟩
              simp only [eX, ↓reduceIte, Nat.reduceEqDiff, Int.reduceToNat]
              apply TW_look rfl (lt_some (by decide)) rfl
              · intro r
                simp only [x_load, eX, ↓reduceIte, Nat.reduceEqDiff]
                refine Lt_loadAt1 Try.underlying3 rfl hbA ldA ?_
                exact ⟨rfl, Le.refl _⟩
              simp only [eX, ↓reduceIte, Nat.reduceEqDiff, Int.reduceToNat]
              refine TW_last rfl (lt_some (by decide)) rfl (fun K hK r => ?_)
              simp only [x_callF _ bd51, List.map_toArray, List.map_cons, List.map_nil, eX, ↓reduceIte, Nat.reduceEqDiff, Int.reduceToNat]
              refine (register_ok _ (usesB x.op 97) x.a).mono ?_
              rintro v H' ⟨rfl, rfl⟩
              try simp only [eX, ↓reduceIte, Nat.reduceEqDiff, Int.reduceToNat]
              refine hK _ _ ?_; clear hK K
              apply TW_pure rfl (lt_some (by decide)) rfl
              · intro r
                simp only [x_un, u_not, eX, ↓reduceIte, Nat.reduceEqDiff]
                exact ⟨rfl, Le.refl _⟩
              simp only [eX, ↓reduceIte, Nat.reduceEqDiff, Int.reduceToNat]
              refine TW_nil ?_
              try simp only [Ex.thnH, Ex.inBlockH, ↓reduceIte, Nat.reduceEqDiff]
              refine hK30 _ _ ?_; try clear hK30 K30
              refine CW_cond (fun r => rfl) (fun c44 => ?_) (fun c44 => ?_)
              · first
                | (exfalso; exact cnA c44; done)
                | skip
                  (try simp only [decide_eq_true_eq, decide_eq_false_iff_not, Bool.not_eq_true, Bool.not_eq_false, Bool.and_eq_true, Bool.or_eq_true, Bool.or_eq_false_iff, Bool.not_eq_true, Bool.not_eq_eq_eq_not, Bool.not_true, Bool.not_false] at c44)
                  refine CW_seq (fun K31 hK31 => ?_)
                  refine CW_region ?_
                  refine OW_as rfl ?_
                  refine OW_nil ?_
                  try simp only [Ex.thnH, Ex.inBlockH, ↓reduceIte, Nat.reduceEqDiff]
                  refine hK31 _ _ ?_; try clear hK31 K31
                  refine CW_ret ?_
                  try simp only [Ex.thnH, Ex.inBlockH, ↓reduceIte, Nat.reduceEqDiff]
                  refine ⟨[_], ⟨rfl, trivial⟩, _, Le.refl _, ?_, lhA⟩
                  show Value.bool _ = _
                  refine congrArg Value.bool ?_
                  rw [← goodR_eq]
                  unfold goodR
                  first | (simp_all; done) | (simp_all; omega) | (simp_all <;> omega)
              · first
                | (exfalso; exact cnA c44; done)
                | skip
                  (try simp only [decide_eq_true_eq, decide_eq_false_iff_not, Bool.not_eq_true, Bool.not_eq_false, Bool.and_eq_true, Bool.or_eq_true, Bool.or_eq_false_iff, Bool.not_eq_true, Bool.not_eq_eq_eq_not, Bool.not_true, Bool.not_false] at c44)
                  refine CW_skip ?_
                  try simp only [Ex.thnH, Ex.inBlockH, ↓reduceIte, Nat.reduceEqDiff]
                  refine hK6 _ _ ?_; try clear hK6 K6
                  refine CW_seq (fun K32 hK32 => ?_)
                  refine CW_seq (fun K33 hK33 => ?_)
                  refine CW_region ?_
                  refine OW_mv rfl ?_
                  refine OW_opS (fun K hK r => ?_)
                  simp only [x_callF _ bd52, List.map_toArray, List.map_cons, List.map_nil, eX, ↓reduceIte, Nat.reduceEqDiff, Int.reduceToNat]
                  refine (uses_op _ x.op 116).mono ?_
                  rintro v H' ⟨rfl, rfl⟩
                  try simp only [eX, ↓reduceIte, Nat.reduceEqDiff, Int.reduceToNat]
                  refine hK _ _ ?_; clear hK K
                  refine OW_nil ?_
                  try simp only [Ex.thnH, Ex.inBlockH, ↓reduceIte, Nat.reduceEqDiff]
                  refine hK33 _ _ ?_; try clear hK33 K33
                  refine CW_cond (fun r => rfl) (fun c46 => ?_) (fun c46 => ?_)
                  · first
                    | (exfalso; exact cnA c46; done)
                    | skip
                      (try simp only [decide_eq_true_eq, decide_eq_false_iff_not, Bool.not_eq_true, Bool.not_eq_false, Bool.and_eq_true, Bool.or_eq_true, Bool.or_eq_false_iff, Bool.not_eq_true, Bool.not_eq_eq_eq_not, Bool.not_true, Bool.not_false] at c46)
                      refine CW_seq (fun K34 hK34 => ?_)
                      refine CW_region ?_
                      refine OW_opS (fun K hK r => ?_)
                      simp only [x_fieldAddr, fa47_4, add_mk, Nat.reduceAdd, Nat.zero_add, eX, ↓reduceIte, Nat.reduceEqDiff, Int.reduceToNat]
                      refine hK _ _ ?_; clear hK K
                      refine OW_opS (fun K hK r => ?_)
                      simp only [x_load, eX, ↓reduceIte, Nat.reduceEqDiff, Int.reduceToNat]
                      refine Lt_loadAt1 Try.underlying3 rfl hbA ldA ?_
                      try simp only [eX, ↓reduceIte, Nat.reduceEqDiff, Int.reduceToNat]
                      refine hK _ _ ?_; clear hK K
                      refine OW_opS (fun K hK r => ?_)
                      simp (disch := (first | omega | decide)) only [x_bin, g_int, b_lss, dec_lt_t, dec_lt_f, dec_le_t, dec_le_f, dec_eq_t, dec_eq_f, Bool.not_true, Bool.not_false, eX, ↓reduceIte, Nat.reduceEqDiff, Int.reduceToNat]
                      refine hK _ _ ?_; clear hK K
                      refine OW_mv rfl ?_
                      (first | refine OW_split (d := 50) rfl (fun g50 => ?_) (fun g50 => ?_) | skip)
                      all_goals try (exfalso; exact cnA g50)
                      all_goals (try simp only [decide_eq_true_eq, decide_eq_false_iff_not, Bool.not_eq_true, Bool.not_eq_false, Bool.and_eq_true, Bool.or_eq_true, Bool.or_eq_false_iff, Bool.not_eq_true, Bool.not_eq_eq_eq_not, Bool.not_true, Bool.not_false] at g50)
                      all_goals
                        try simp only [eX, ↓reduceIte, Nat.reduceEqDiff, Int.reduceToNat]
                        first
                        | refine OW_guardT rfl (lt_some (by decide)) rfl (fun K hK r => ?_)
                          simp only [x_fieldAddr, fa47_4, add_mk, Nat.reduceAdd, Nat.zero_add, eX, ↓reduceIte, Nat.reduceEqDiff, Int.reduceToNat]
                          refine hK _ _ ?_; clear hK K
                        | refine OW_guardF rfl (lt_some (by decide)) rfl ?_
                          simp only [eX, ↓reduceIte, Nat.reduceEqDiff, Int.reduceToNat]
                        first
                        | refine OW_guardT rfl (lt_some (by decide)) rfl (fun K hK r => ?_)
                          simp only [x_load, eX, ↓reduceIte, Nat.reduceEqDiff, Int.reduceToNat]
                          refine Lt_loadAt1 Try.underlying3 rfl hbA ldA ?_
                          try simp only [eX, ↓reduceIte, Nat.reduceEqDiff, Int.reduceToNat]
                          refine hK _ _ ?_; clear hK K
                        | refine OW_guardF rfl (lt_some (by decide)) rfl ?_
                          simp only [eX, ↓reduceIte, Nat.reduceEqDiff, Int.reduceToNat]
                        first
                        | refine OW_guardT rfl (lt_some (by decide)) rfl (fun K hK r => ?_)
                          simp (disch := (first | omega | decide)) only [x_bin, g_int, b_gtr, dec_lt_t, dec_lt_f, dec_le_t, dec_le_f, dec_eq_t, dec_eq_f, Bool.not_true, Bool.not_false, eX, ↓reduceIte, Nat.reduceEqDiff, Int.reduceToNat]
                          refine hK _ _ ?_; clear hK K
                        | refine OW_guardF rfl (lt_some (by decide)) rfl ?_
                          simp only [eX, ↓reduceIte, Nat.reduceEqDiff, Int.reduceToNat]
                        refine OW_opS (fun K hK r => ?_)
                        simp only [x_pick, l_asBool, HL.ite_bool, if_true, if_false, Bool.false_eq_true, eX, ↓reduceIte, Nat.reduceEqDiff, Int.reduceToNat]
                        refine hK _ _ ?_; clear hK K
                        refine OW_nil ?_
                        try simp only [Ex.thnH, Ex.inBlockH, ↓reduceIte, Nat.reduceEqDiff]
                        refine hK34 _ _ ?_; try clear hK34 K34
                        refine CW_cond (fun r => rfl) (fun c54 => ?_) (fun c54 => ?_)
                        · first
                          | (exfalso; exact cnA c54; done)
                          | skip
                            (try simp only [decide_eq_true_eq, decide_eq_false_iff_not, Bool.not_eq_true, Bool.not_eq_false, Bool.and_eq_true, Bool.or_eq_true, Bool.or_eq_false_iff, Bool.not_eq_true, Bool.not_eq_eq_eq_not, Bool.not_true, Bool.not_false] at c54)
                            refine CW_seq (fun K35 hK35 => ?_)
                            refine CW_region ?_
                            refine OW_as rfl ?_
                            refine OW_nil ?_
                            try simp only [Ex.thnH, Ex.inBlockH, ↓reduceIte, Nat.reduceEqDiff]
                            refine hK35 _ _ ?_; try clear hK35 K35
                            refine CW_ret ?_
                            try simp only [Ex.thnH, Ex.inBlockH, ↓reduceIte, Nat.reduceEqDiff]
                            refine ⟨[_], ⟨rfl, trivial⟩, _, Le.refl _, ?_, lhA⟩
                            show Value.bool _ = _
                            refine congrArg Value.bool ?_
                            rw [← goodR_eq]
                            unfold goodR
                            first | (simp_all; done) | (simp_all; omega) | (simp_all <;> omega)
                        · first
                          | (exfalso; exact cnA c54; done)
                          | skip
                            (try simp only [decide_eq_true_eq, decide_eq_false_iff_not, Bool.not_eq_true, Bool.not_eq_false, Bool.and_eq_true, Bool.or_eq_true, Bool.or_eq_false_iff, Bool.not_eq_true, Bool.not_eq_eq_eq_not, Bool.not_true, Bool.not_false] at c54)
                            refine CW_skip ?_
                            try simp only [Ex.thnH, Ex.inBlockH, ↓reduceIte, Nat.reduceEqDiff]
                            refine hK32 _ _ ?_; try clear hK32 K32
                            refine CW_seq (fun K36 hK36 => ?_)
                            refine CW_seq (fun K37 hK37 => ?_)
                            refine CW_region ?_
                            refine OW_mv rfl ?_
                            refine OW_opS (fun K hK r => ?_)
                            simp only [x_callF _ bd52, List.map_toArray, List.map_cons, List.map_nil, eX, ↓reduceIte, Nat.reduceEqDiff, Int.reduceToNat]
                            refine (uses_op _ x.op 107).mono ?_
                            rintro v H' ⟨rfl, rfl⟩
                            try simp only [eX, ↓reduceIte, Nat.reduceEqDiff, Int.reduceToNat]
                            refine hK _ _ ?_; clear hK K
                            refine OW_nil ?_
                            try simp only [Ex.thnH, Ex.inBlockH, ↓reduceIte, Nat.reduceEqDiff]
                            refine hK37 _ _ ?_; try clear hK37 K37
                            refine CW_cond (fun r => rfl) (fun c59 => ?_) (fun c59 => ?_)
                            · first
                              | (exfalso; exact cnA c59; done)
                              | skip
                                (try simp only [decide_eq_true_eq, decide_eq_false_iff_not, Bool.not_eq_true, Bool.not_eq_false, Bool.and_eq_true, Bool.or_eq_true, Bool.or_eq_false_iff, Bool.not_eq_true, Bool.not_eq_eq_eq_not, Bool.not_true, Bool.not_false] at c59)
                                refine CW_seq (fun K38 hK38 => ?_)
                                refine CW_region ?_
                                refine OW_opS (fun K hK r => ?_)
                                simp only [x_fieldAddr, fa47_5, add_mk, Nat.reduceAdd, Nat.zero_add, eX, ↓reduceIte, Nat.reduceEqDiff, Int.reduceToNat]
                                refine hK _ _ ?_; clear hK K
                                refine OW_opS (fun K hK r => ?_)
                                simp only [x_load, eX, ↓reduceIte, Nat.reduceEqDiff, Int.reduceToNat]
                                refine Lt_loadAt1 Try.underlying3 rfl hbA ldA ?_
                                try simp only [eX, ↓reduceIte, Nat.reduceEqDiff, Int.reduceToNat]
                                refine hK _ _ ?_; clear hK K
                                refine OW_opS (fun K hK r => ?_)
                                simp (disch := (first | omega | decide)) only [x_bin, g_int, b_geq, dec_lt_t, dec_lt_f, dec_le_t, dec_le_f, dec_eq_t, dec_eq_f, Bool.not_true, Bool.not_false, eX, ↓reduceIte, Nat.reduceEqDiff, Int.reduceToNat]
                                refine hK _ _ ?_; clear hK K
                                refine OW_mv rfl ?_
                                (first | refine OW_split (d := 63) rfl (fun g63 => ?_) (fun g63 => ?_) | skip)
                                all_goals try (exfalso; exact cnA g63)
                                all_goals (try simp only [decide_eq_true_eq, decide_eq_false_iff_not, Bool.not_eq_true, Bool.not_eq_false, Bool.and_eq_true, Bool.or_eq_true, Bool.or_eq_false_iff, Bool.not_eq_true, Bool.not_eq_eq_eq_not, Bool.not_true, Bool.not_false] at g63)
                                all_goals
                                  try simp only [eX, ↓reduceIte, Nat.reduceEqDiff, Int.reduceToNat]
                                  first
                                  | refine OW_guardT rfl (lt_some (by decide)) rfl (fun K hK r => ?_)
                                    simp only [x_fieldAddr, fa47_5, add_mk, Nat.reduceAdd, Nat.zero_add, eX, ↓reduceIte, Nat.reduceEqDiff, Int.reduceToNat]
                                    refine hK _ _ ?_; clear hK K
                                  | refine OW_guardF rfl (lt_some (by decide)) rfl ?_
                                    simp only [eX, ↓reduceIte, Nat.reduceEqDiff, Int.reduceToNat]
                                  first
                                  | refine OW_guardT rfl (lt_some (by decide)) rfl (fun K hK r => ?_)
                                    simp only [x_load, eX, ↓reduceIte, Nat.reduceEqDiff, Int.reduceToNat]
                                    refine Lt_loadAt1 Try.underlying3 rfl hbA ldA ?_
                                    try simp only [eX, ↓reduceIte, Nat.reduceEqDiff, Int.reduceToNat]
                                    refine hK _ _ ?_; clear hK K
                                  | refine OW_guardF rfl (lt_some (by decide)) rfl ?_
                                    simp only [eX, ↓reduceIte, Nat.reduceEqDiff, Int.reduceToNat]
                                  first
                                  | refine OW_guardT rfl (lt_some (by decide)) rfl (fun K hK r => ?_)
                                    simp (disch := (first | omega | decide)) only [x_bin, g_int, b_leq, dec_lt_t, dec_lt_f, dec_le_t, dec_le_f, dec_eq_t, dec_eq_f, Bool.not_true, Bool.not_false, eX, ↓reduceIte, Nat.reduceEqDiff, Int.reduceToNat]
                                    refine hK _ _ ?_; clear hK K
                                  | refine OW_guardF rfl (lt_some (by decide)) rfl ?_
                                    simp only [eX, ↓reduceIte, Nat.reduceEqDiff, Int.reduceToNat]
                                  refine OW_opS (fun K hK r => ?_)
                                  simp only [x_pick, l_asBool, HL.ite_bool, if_true, if_false, Bool.false_eq_true, eX, ↓reduceIte, Nat.reduceEqDiff, Int.reduceToNat]
                                  refine hK _ _ ?_; clear hK K
                                  refine OW_as rfl ?_
                                  refine OW_nil ?_
                                  try simp only [Ex.thnH, Ex.inBlockH, ↓reduceIte, Nat.reduceEqDiff]
                                  refine hK38 _ _ ?_; try clear hK38 K38
                                  refine CW_ret ?_
                                  try simp only [Ex.thnH, Ex.inBlockH, ↓reduceIte, Nat.reduceEqDiff]
                                  refine ⟨[_], ⟨rfl, trivial⟩, _, Le.refl _, ?_, lhA⟩
                                  show Value.bool _ = _
                                  refine congrArg Value.bool ?_
                                  rw [← goodR_eq]
                                  unfold goodR
                                  first | (simp_all; done) | (simp_all; omega) | (simp_all <;> omega)
                            · first
                              | (exfalso; exact cnA c59; done)
                              | skip
                                (try simp only [decide_eq_true_eq, decide_eq_false_iff_not, Bool.not_eq_true, Bool.not_eq_false, Bool.and_eq_true, Bool.or_eq_true, Bool.or_eq_false_iff, Bool.not_eq_true, Bool.not_eq_eq_eq_not, Bool.not_true, Bool.not_false] at c59)
                                refine CW_skip ?_
                                try simp only [Ex.thnH, Ex.inBlockH, ↓reduceIte, Nat.reduceEqDiff]
                                refine hK36 _ _ ?_; try clear hK36 K36
                                refine CW_seq (fun K39 hK39 => ?_)
                                refine CW_seq (fun K40 hK40 => ?_)
                                refine CW_region ?_
                                refine OW_mv rfl ?_
                                refine OW_opS (fun K hK r => ?_)
                                simp only [x_callF _ bd52, List.map_toArray, List.map_cons, List.map_nil, eX, ↓reduceIte, Nat.reduceEqDiff, Int.reduceToNat]
                                refine (uses_op _ x.op 106).mono ?_
                                rintro v H' ⟨rfl, rfl⟩
                                try simp only [eX, ↓reduceIte, Nat.reduceEqDiff, Int.reduceToNat]
                                refine hK _ _ ?_; clear hK K
                                refine OW_nil ?_
                                try simp only [Ex.thnH, Ex.inBlockH, ↓reduceIte, Nat.reduceEqDiff]
                                refine hK40 _ _ ?_; try clear hK40 K40
                                refine CW_cond (fun r => rfl) (fun c69 => ?_) (fun c69 => ?_)
                                · first
                                  | (exfalso; exact cnA c69; done)
                                  | skip
                                    (try simp only [decide_eq_true_eq, decide_eq_false_iff_not, Bool.not_eq_true, Bool.not_eq_false, Bool.and_eq_true, Bool.or_eq_true, Bool.or_eq_false_iff, Bool.not_eq_true, Bool.not_eq_eq_eq_not, Bool.not_true, Bool.not_false] at c69)
                                    refine CW_seq (fun K41 hK41 => ?_)
                                    refine CW_region ?_
                                    refine OW_opS (fun K hK r => ?_)
                                    simp only [x_fieldAddr, fa47_5, add_mk, Nat.reduceAdd, Nat.zero_add, eX, ↓reduceIte, Nat.reduceEqDiff, Int.reduceToNat]
                                    refine hK _ _ ?_; clear hK K
                                    refine OW_opS (fun K hK r => ?_)
                                    simp only [x_load, eX, ↓reduceIte, Nat.reduceEqDiff, Int.reduceToNat]
                                    refine Lt_loadAt1 Try.underlying3 rfl hbA ldA ?_
                                    try simp only [eX, ↓reduceIte, Nat.reduceEqDiff, Int.reduceToNat]
                                    refine hK _ _ ?_; clear hK K
                                    refine OW_opS (fun K hK r => ?_)
                                    simp (disch := (first | omega | decide)) only [x_bin, g_int, b_geq, dec_lt_t, dec_lt_f, dec_le_t, dec_le_f, dec_eq_t, dec_eq_f, Bool.not_true, Bool.not_false, eX, ↓reduceIte, Nat.reduceEqDiff, Int.reduceToNat]
                                    refine hK _ _ ?_; clear hK K
                                    refine OW_mv rfl ?_
                                    (first | refine OW_split (d := 73) rfl (fun g73 => ?_) (fun g73 => ?_) | skip)
                                    all_goals try (exfalso; exact cnA g73)
                                    all_goals (try simp only [decide_eq_true_eq, decide_eq_false_iff_not, Bool.not_eq_true, Bool.not_eq_false, Bool.and_eq_true, Bool.or_eq_true, Bool.or_eq_false_iff, Bool.not_eq_true, Bool.not_eq_eq_eq_not, Bool.not_true, Bool.not_false] at g73)
                                    all_goals
                                      try simp only [eX, ↓reduceIte, Nat.reduceEqDiff, Int.reduceToNat]
                                      first
                                      | refine OW_guardT rfl (lt_some (by decide)) rfl (fun K hK r => ?_)
                                        simp only [x_fieldAddr, fa47_5, add_mk, Nat.reduceAdd, Nat.zero_add, eX, ↓reduceIte, Nat.reduceEqDiff, Int.reduceToNat]
                                        refine hK _ _ ?_; clear hK K
                                      | refine OW_guardF rfl (lt_some (by decide)) rfl ?_
                                        simp only [eX, ↓reduceIte, Nat.reduceEqDiff, Int.reduceToNat]
                                      first
                                      | refine OW_guardT rfl (lt_some (by decide)) rfl (fun K hK r => ?_)
                                        simp only [x_load, eX, ↓reduceIte, Nat.reduceEqDiff, Int.reduceToNat]
                                        refine Lt_loadAt1 Try.underlying3 rfl hbA ldA ?_
                                        try simp only [eX, ↓reduceIte, Nat.reduceEqDiff, Int.reduceToNat]
                                        refine hK _ _ ?_; clear hK K
                                      | refine OW_guardF rfl (lt_some (by decide)) rfl ?_
                                        simp only [eX, ↓reduceIte, Nat.reduceEqDiff, Int.reduceToNat]
                                      first
                                      | refine OW_guardT rfl (lt_some (by decide)) rfl (fun K hK r => ?_)
                                        simp (disch := (first | omega | decide)) only [x_bin, g_int, b_leq, dec_lt_t, dec_lt_f, dec_le_t, dec_le_f, dec_eq_t, dec_eq_f, Bool.not_true, Bool.not_false, eX, ↓reduceIte, Nat.reduceEqDiff, Int.reduceToNat]
                                        refine hK _ _ ?_; clear hK K
                                      | refine OW_guardF rfl (lt_some (by decide)) rfl ?_
                                        simp only [eX, ↓reduceIte, Nat.reduceEqDiff, Int.reduceToNat]
                                      refine OW_opS (fun K hK r => ?_)
                                      simp only [x_pick, l_asBool, HL.ite_bool, if_true, if_false, Bool.false_eq_true, eX, ↓reduceIte, Nat.reduceEqDiff, Int.reduceToNat]
                                      refine hK _ _ ?_; clear hK K
                                      refine OW_as rfl ?_
                                      refine OW_nil ?_
                                      try simp only [Ex.thnH, Ex.inBlockH, ↓reduceIte, Nat.reduceEqDiff]
                                      refine hK41 _ _ ?_; try clear hK41 K41
                                      refine CW_ret ?_
                                      try simp only [Ex.thnH, Ex.inBlockH, ↓reduceIte, Nat.reduceEqDiff]
                                      refine ⟨[_], ⟨rfl, trivial⟩, _, Le.refl _, ?_, lhA⟩
                                      show Value.bool _ = _
                                      refine congrArg Value.bool ?_
                                      rw [← goodR_eq]
                                      unfold goodR
                                      first | (simp_all; done) | (simp_all; omega) | (simp_all <;> omega)
                                · first
                                  | (exfalso; exact cnA c69; done)
                                  | skip
                                    (try simp only [decide_eq_true_eq, decide_eq_false_iff_not, Bool.not_eq_true, Bool.not_eq_false, Bool.and_eq_true, Bool.or_eq_true, Bool.or_eq_false_iff, Bool.not_eq_true, Bool.not_eq_eq_eq_not, Bool.not_true, Bool.not_false] at c69)
                                    refine CW_skip ?_
                                    try simp only [Ex.thnH, Ex.inBlockH, ↓reduceIte, Nat.reduceEqDiff]
                                    refine hK39 _ _ ?_; try clear hK39 K39
                                    refine CW_seq (fun K42 hK42 => ?_)
                                    refine CW_region ?_
                                    refine OW_mv rfl ?_
                                    refine OW_opS (fun K hK r => ?_)
                                    simp only [x_callF _ bd52, List.map_toArray, List.map_cons, List.map_nil, eX, ↓reduceIte, Nat.reduceEqDiff, Int.reduceToNat]
                                    refine (uses_op _ x.op 110).mono ?_
                                    rintro v H' ⟨rfl, rfl⟩
                                    try simp only [eX, ↓reduceIte, Nat.reduceEqDiff, Int.reduceToNat]
                                    refine hK _ _ ?_; clear hK K
                                    refine OW_mv rfl ?_
                                    (first | refine OW_split (d := 80) rfl (fun g80 => ?_) (fun g80 => ?_) | skip)
                                    all_goals try (exfalso; exact cnA g80)
                                    all_goals (try simp only [decide_eq_true_eq, decide_eq_false_iff_not, Bool.not_eq_true, Bool.not_eq_false, Bool.and_eq_true, Bool.or_eq_true, Bool.or_eq_false_iff, Bool.not_eq_true, Bool.not_eq_eq_eq_not, Bool.not_true, Bool.not_false] at g80)
                                    all_goals
                                      try simp only [eX, ↓reduceIte, Nat.reduceEqDiff, Int.reduceToNat]
                                      first
                                      | refine OW_guardT rfl (lt_some (by decide)) rfl (fun K hK r => ?_)
                                        simp only [x_fieldAddr, fa47_5, add_mk, Nat.reduceAdd, Nat.zero_add, eX, ↓reduceIte, Nat.reduceEqDiff, Int.reduceToNat]
                                        refine hK _ _ ?_; clear hK K
                                      | refine OW_guardF rfl (lt_some (by decide)) rfl ?_
                                        simp only [eX, ↓reduceIte, Nat.reduceEqDiff, Int.reduceToNat]
                                      first
                                      | refine OW_guardT rfl (lt_some (by decide)) rfl (fun K hK r => ?_)
                                        simp only [x_load, eX, ↓reduceIte, Nat.reduceEqDiff, Int.reduceToNat]
                                        refine Lt_loadAt1 Try.underlying3 rfl hbA ldA ?_
                                        try simp only [eX, ↓reduceIte, Nat.reduceEqDiff, Int.reduceToNat]
                                        refine hK _ _ ?_; clear hK K
                                      | refine OW_guardF rfl (lt_some (by decide)) rfl ?_
                                        simp only [eX, ↓reduceIte, Nat.reduceEqDiff, Int.reduceToNat]
                                      first
                                      | refine OW_guardT rfl (lt_some (by decide)) rfl (fun K hK r => ?_)
                                        simp (disch := (first | omega | decide)) only [x_bin, g_int, b_eql, dec_lt_t, dec_lt_f, dec_le_t, dec_le_f, dec_eq_t, dec_eq_f, Bool.not_true, Bool.not_false, eX, ↓reduceIte, Nat.reduceEqDiff, Int.reduceToNat]
                                        refine hK _ _ ?_; clear hK K
                                      | refine OW_guardF rfl (lt_some (by decide)) rfl ?_
                                        simp only [eX, ↓reduceIte, Nat.reduceEqDiff, Int.reduceToNat]
                                      refine OW_opS (fun K hK r => ?_)
                                      simp only [x_pick, l_asBool, HL.ite_bool, if_true, if_false, Bool.false_eq_true, eX, ↓reduceIte, Nat.reduceEqDiff, Int.reduceToNat]
                                      refine hK _ _ ?_; clear hK K
                                      refine OW_as rfl ?_
                                      refine OW_nil ?_
                                      try simp only [Ex.thnH, Ex.inBlockH, ↓reduceIte, Nat.reduceEqDiff]
                                      refine hK42 _ _ ?_; try clear hK42 K42
                                      refine CW_ret ?_
                                      try simp only [Ex.thnH, Ex.inBlockH, ↓reduceIte, Nat.reduceEqDiff]
                                      refine ⟨[_], ⟨rfl, trivial⟩, _, Le.refl _, ?_, lhA⟩
                                      show Value.bool _ = _
                                      refine congrArg Value.bool ?_
                                      rw [← goodR_eq]
                                      unfold goodR
                                      first | (simp_all; done) | (simp_all; omega) | (simp_all <;> omega)
                  · first
                    | (exfalso; exact cnA c46; done)
                    | skip
                      (try simp only [decide_eq_true_eq, decide_eq_false_iff_not, Bool.not_eq_true, Bool.not_eq_false, Bool.and_eq_true, Bool.or_eq_true, Bool.or_eq_false_iff, Bool.not_eq_true, Bool.not_eq_eq_eq_not, Bool.not_true, Bool.not_false] at c46)
                      refine CW_seq (fun K43 hK43 => ?_)
                      refine CW_region ?_
                      refine OW_opS (fun K hK r => ?_)
                      simp only [x_fieldAddr, fa47_4, add_mk, Nat.reduceAdd, Nat.zero_add, eX, ↓reduceIte, Nat.reduceEqDiff, Int.reduceToNat]
                      refine hK _ _ ?_; clear hK K
                      refine OW_opS (fun K hK r => ?_)
                      simp only [x_load, eX, ↓reduceIte, Nat.reduceEqDiff, Int.reduceToNat]
                      refine Lt_loadAt1 Try.underlying3 rfl hbA ldA ?_
                      try simp only [eX, ↓reduceIte, Nat.reduceEqDiff, Int.reduceToNat]
                      refine hK _ _ ?_; clear hK K
                      refine OW_opS (fun K hK r => ?_)
                      simp (disch := (first | omega | decide)) only [x_bin, g_int, b_neq, dec_lt_t, dec_lt_f, dec_le_t, dec_le_f, dec_eq_t, dec_eq_f, Bool.not_true, Bool.not_false, eX, ↓reduceIte, Nat.reduceEqDiff, Int.reduceToNat]
                      refine hK _ _ ?_; clear hK K
                      refine OW_nil ?_
                      try simp only [Ex.thnH, Ex.inBlockH, ↓reduceIte, Nat.reduceEqDiff]
                      refine hK43 _ _ ?_; try clear hK43 K43
                      refine CW_cond (fun r => rfl) (fun c57 => ?_) (fun c57 => ?_)
                      · first
                        | (exfalso; exact cnA c57; done)
                        | skip
                          (try simp only [decide_eq_true_eq, decide_eq_false_iff_not, Bool.not_eq_true, Bool.not_eq_false, Bool.and_eq_true, Bool.or_eq_true, Bool.or_eq_false_iff, Bool.not_eq_true, Bool.not_eq_eq_eq_not, Bool.not_true, Bool.not_false] at c57)
                          refine CW_seq (fun K44 hK44 => ?_)
                          refine CW_region ?_
                          refine OW_as rfl ?_
                          refine OW_nil ?_
                          try simp only [Ex.thnH, Ex.inBlockH, ↓reduceIte, Nat.reduceEqDiff]
                          refine hK44 _ _ ?_; try clear hK44 K44
                          refine CW_ret ?_
                          try simp only [Ex.thnH, Ex.inBlockH, ↓reduceIte, Nat.reduceEqDiff]
                          refine ⟨[_], ⟨rfl, trivial⟩, _, Le.refl _, ?_, lhA⟩
                          show Value.bool _ = _
                          refine congrArg Value.bool ?_
                          rw [← goodR_eq]
                          unfold goodR
                          first | (simp_all; done) | (simp_all; omega) | (simp_all <;> omega)
                      · first
                        | (exfalso; exact cnA c57; done)
                        | skip
                          (try simp only [decide_eq_true_eq, decide_eq_false_iff_not, Bool.not_eq_true, Bool.not_eq_false, Bool.and_eq_true, Bool.or_eq_true, Bool.or_eq_false_iff, Bool.not_eq_true, Bool.not_eq_eq_eq_not, Bool.not_true, Bool.not_false] at c57)
                          refine CW_skip ?_
                          try simp only [Ex.thnH, Ex.inBlockH, ↓reduceIte, Nat.reduceEqDiff]
                          refine hK32 _ _ ?_; try clear hK32 K32
                          refine CW_seq (fun K45 hK45 => ?_)
                          refine CW_seq (fun K46 hK46 => ?_)
                          refine CW_region ?_
                          refine OW_mv rfl ?_
                          refine OW_opS (fun K hK r => ?_)
                          simp only [x_callF _ bd52, List.map_toArray, List.map_cons, List.map_nil, eX, ↓reduceIte, Nat.reduceEqDiff, Int.reduceToNat]
                          refine (uses_op _ x.op 107).mono ?_
                          rintro v H' ⟨rfl, rfl⟩
                          try simp only [eX, ↓reduceIte, Nat.reduceEqDiff, Int.reduceToNat]
                          refine hK _ _ ?_; clear hK K
                          refine OW_nil ?_
                          try simp only [Ex.thnH, Ex.inBlockH, ↓reduceIte, Nat.reduceEqDiff]
                          refine hK46 _ _ ?_; try clear hK46 K46
                          refine CW_cond (fun r => rfl) (fun c59 => ?_) (fun c59 => ?_)
                          · first
                            | (exfalso; exact cnA c59; done)
                            | skip
                              (try simp only [decide_eq_true_eq, decide_eq_false_iff_not, Bool.not_eq_true, Bool.not_eq_false, Bool.and_eq_true, Bool.or_eq_true, Bool.or_eq_false_iff, Bool.not_eq_true, Bool.not_eq_eq_eq_not, Bool.not_true, Bool.not_false] at c59)
                              refine CW_seq (fun K47 hK47 => ?_)
                              refine CW_region ?_
                              refine OW_opS (fun K hK r => ?_)
                              simp only [x_fieldAddr, fa47_5, add_mk, Nat.reduceAdd, Nat.zero_add, eX, ↓reduceIte, Nat.reduceEqDiff, Int.reduceToNat]
                              refine hK _ _ ?_; clear hK K
                              refine OW_opS (fun K hK r => ?_)
                              simp only [x_load, eX, ↓reduceIte, Nat.reduceEqDiff, Int.reduceToNat]
                              refine Lt_loadAt1 Try.underlying3 rfl hbA ldA ?_
                              try simp only [eX, ↓reduceIte, Nat.reduceEqDiff, Int.reduceToNat]
                              refine hK _ _ ?_; clear hK K
                              refine OW_opS (fun K hK r => ?_)
                              simp (disch := (first | omega | decide)) only [x_bin, g_int, b_geq, dec_lt_t, dec_lt_f, dec_le_t, dec_le_f, dec_eq_t, dec_eq_f, Bool.not_true, Bool.not_false, eX, ↓reduceIte, Nat.reduceEqDiff, Int.reduceToNat]
                              refine hK _ _ ?_; clear hK K
                              refine OW_mv rfl ?_
                              (first | refine OW_split (d := 63) rfl (fun g63 => ?_) (fun g63 => ?_) | skip)
                              all_goals try (exfalso; exact cnA g63)
                              all_goals (try simp only [decide_eq_true_eq, decide_eq_false_iff_not, Bool.not_eq_true, Bool.not_eq_false, Bool.and_eq_true, Bool.or_eq_true, Bool.or_eq_false_iff, Bool.not_eq_true, Bool.not_eq_eq_eq_not, Bool.not_true, Bool.not_false] at g63)
                              all_goals
                                try simp only [eX, ↓reduceIte, Nat.reduceEqDiff, Int.reduceToNat]
                                first
                                | refine OW_guardT rfl (lt_some (by decide)) rfl (fun K hK r => ?_)
                                  simp only [x_fieldAddr, fa47_5, add_mk, Nat.reduceAdd, Nat.zero_add, eX, ↓reduceIte, Nat.reduceEqDiff, Int.reduceToNat]
                                  refine hK _ _ ?_; clear hK K
                                | refine OW_guardF rfl (lt_some (by decide)) rfl ?_
                                  simp only [eX, ↓reduceIte, Nat.reduceEqDiff, Int.reduceToNat]
                                first
                                | refine OW_guardT rfl (lt_some (by decide)) rfl (fun K hK r => ?_)
                                  simp only [x_load, eX, ↓reduceIte, Nat.reduceEqDiff, Int.reduceToNat]
                                  refine Lt_loadAt1 Try.underlying3 rfl hbA ldA ?_
                                  try simp only [eX, ↓reduceIte, Nat.reduceEqDiff, Int.reduceToNat]
                                  refine hK _ _ ?_; clear hK K
                                | refine OW_guardF rfl (lt_some (by decide)) rfl ?_
                                  simp only [eX, ↓reduceIte, Nat.reduceEqDiff, Int.reduceToNat]
                                first
                                | refine OW_guardT rfl (lt_some (by decide)) rfl (fun K hK r => ?_)
                                  simp (disch := (first | omega | decide)) only [x_bin, g_int, b_leq, dec_lt_t, dec_lt_f, dec_le_t, dec_le_f, dec_eq_t, dec_eq_f, Bool.not_true, Bool.not_false, eX, ↓reduceIte, Nat.reduceEqDiff, Int.reduceToNat]
                                  refine hK _ _ ?_; clear hK K
                                | refine OW_guardF rfl (lt_some (by decide)) rfl ?_
                                  simp only [eX, ↓reduceIte, Nat.reduceEqDiff, Int.reduceToNat]
                                refine OW_opS (fun K hK r => ?_)
                                simp only [x_pick, l_asBool, HL.ite_bool, if_true, if_false, Bool.false_eq_true, eX, ↓reduceIte, Nat.reduceEqDiff, Int.reduceToNat]
                                refine hK _ _ ?_; clear hK K
                                refine OW_as rfl ?_
                                refine OW_nil ?_
                                try simp only [Ex.thnH, Ex.inBlockH, ↓reduceIte, Nat.reduceEqDiff]
                                refine hK47 _ _ ?_; try clear hK47 K47
                                refine CW_ret ?_
                                try simp only [Ex.thnH, Ex.inBlockH, ↓reduceIte, Nat.reduceEqDiff]
                                refine ⟨[_], ⟨rfl, trivial⟩, _, Le.refl _, ?_, lhA⟩
                                show Value.bool _ = _
                                refine congrArg Value.bool ?_
                                rw [← goodR_eq]
                                unfold goodR
                                first | (simp_all; done) | (simp_all; omega) | (simp_all <;> omega)
                          · first
                            | (exfalso; exact cnA c59; done)
                            | skip
                              (try simp only [decide_eq_true_eq, decide_eq_false_iff_not, Bool.not_eq_true, Bool.not_eq_false, Bool.and_eq_true, Bool.or_eq_true, Bool.or_eq_false_iff, Bool.not_eq_true, Bool.not_eq_eq_eq_not, Bool.not_true, Bool.not_false] at c59)
                              refine CW_skip ?_
                              try simp only [Ex.thnH, Ex.inBlockH, ↓reduceIte, Nat.reduceEqDiff]
                              refine hK45 _ _ ?_; try clear hK45 K45
                              refine CW_seq (fun K48 hK48 => ?_)
                              refine CW_seq (fun K49 hK49 => ?_)
                              refine CW_region ?_
                              refine OW_mv rfl ?_
                              refine OW_opS (fun K hK r => ?_)
                              simp only [x_callF _ bd52, List.map_toArray, List.map_cons, List.map_nil, eX, ↓reduceIte, Nat.reduceEqDiff, Int.reduceToNat]
                              refine (uses_op _ x.op 106).mono ?_
                              rintro v H' ⟨rfl, rfl⟩
                              try simp only [eX, ↓reduceIte, Nat.reduceEqDiff, Int.reduceToNat]
                              refine hK _ _ ?_; clear hK K
                              refine OW_nil ?_
                              try simp only [Ex.thnH, Ex.inBlockH, ↓reduceIte, Nat.reduceEqDiff]
                              refine hK49 _ _ ?_; try clear hK49 K49
                              refine CW_cond (fun r => rfl) (fun c69 => ?_) (fun c69 => ?_)
                              · first
                                | (exfalso; exact cnA c69; done)
                                | skip
                                  (try simp only [decide_eq_true_eq, decide_eq_false_iff_not, Bool.not_eq_true, Bool.not_eq_false, Bool.and_eq_true, Bool.or_eq_true, Bool.or_eq_false_iff, Bool.not_eq_true, Bool.not_eq_eq_eq_not, Bool.not_true, Bool.not_false] at c69)
                                  refine CW_seq (fun K50 hK50 => ?_)
                                  refine CW_region ?_
                                  refine OW_opS (fun K hK r => ?_)
                                  simp only [x_fieldAddr, fa47_5, add_mk, Nat.reduceAdd, Nat.zero_add, eX, ↓reduceIte, Nat.reduceEqDiff, Int.reduceToNat]
                                  refine hK _ _ ?_; clear hK K
                                  refine OW_opS (fun K hK r => ?_)
                                  simp only [x_load, eX, ↓reduceIte, Nat.reduceEqDiff, Int.reduceToNat]
                                  refine Lt_loadAt1 Try.underlying3 rfl hbA ldA ?_
                                  try simp only [eX, ↓reduceIte, Nat.reduceEqDiff, Int.reduceToNat]
                                  refine hK _ _ ?_; clear hK K
                                  refine OW_opS (fun K hK r => ?_)
                                  simp (disch := (first | omega | decide)) only [x_bin, g_int, b_geq, dec_lt_t, dec_lt_f, dec_le_t, dec_le_f, dec_eq_t, dec_eq_f, Bool.not_true, Bool.not_false, eX, ↓reduceIte, Nat.reduceEqDiff, Int.reduceToNat]
                                  refine hK _ _ ?_; clear hK K
                                  refine OW_mv rfl ?_
                                  (first | refine OW_split (d := 73) rfl (fun g73 => ?_) (fun g73 => ?_) | skip)
                                  all_goals try (exfalso; exact cnA g73)
                                  all_goals (try simp only [decide_eq_true_eq, decide_eq_false_iff_not, Bool.not_eq_true, Bool.not_eq_false, Bool.and_eq_true, Bool.or_eq_true, Bool.or_eq_false_iff, Bool.not_eq_true, Bool.not_eq_eq_eq_not, Bool.not_true, Bool.not_false] at g73)
                                  all_goals
                                    try simp only [eX, ↓reduceIte, Nat.reduceEqDiff, Int.reduceToNat]
                                    first
                                    | refine OW_guardT rfl (lt_some (by decide)) rfl (fun K hK r => ?_)
                                      simp only [x_fieldAddr, fa47_5, add_mk, Nat.reduceAdd, Nat.zero_add, eX, ↓reduceIte, Nat.reduceEqDiff, Int.reduceToNat]
                                      refine hK _ _ ?_; clear hK K
                                    | refine OW_guardF rfl (lt_some (by decide)) rfl ?_
                                      simp only [eX, ↓reduceIte, Nat.reduceEqDiff, Int.reduceToNat]
                                    first
                                    | refine OW_guardT rfl (lt_some (by decide)) rfl (fun K hK r => ?_)
                                      simp only [x_load, eX, ↓reduceIte, Nat.reduceEqDiff, Int.reduceToNat]
                                      refine Lt_loadAt1 Try.underlying3 rfl hbA ldA ?_
                                      try simp only [eX, ↓reduceIte, Nat.reduceEqDiff, Int.reduceToNat]
                                      refine hK _ _ ?_; clear hK K
                                    | refine OW_guardF rfl (lt_some (by decide)) rfl ?_
                                      simp only [eX, ↓reduceIte, Nat.reduceEqDiff, Int.reduceToNat]
                                    first
                                    | refine OW_guardT rfl (lt_some (by decide)) rfl (fun K hK r => ?_)
                                      simp (disch := (first | omega | decide)) only [x_bin, g_int, b_leq, dec_lt_t, dec_lt_f, dec_le_t, dec_le_f, dec_eq_t, dec_eq_f, Bool.not_true, Bool.not_false, eX, ↓reduceIte, Nat.reduceEqDiff, Int.reduceToNat]
                                      refine hK _ _ ?_; clear hK K
                                    | refine OW_guardF rfl (lt_some (by decide)) rfl ?_
                                      simp only [eX, ↓reduceIte, Nat.reduceEqDiff, Int.reduceToNat]
                                    refine OW_opS (fun K hK r => ?_)
                                    simp only [x_pick, l_asBool, HL.ite_bool, if_true, if_false, Bool.false_eq_true, eX, ↓reduceIte, Nat.reduceEqDiff, Int.reduceToNat]
                                    refine hK _ _ ?_; clear hK K
                                    refine OW_as rfl ?_
                                    refine OW_nil ?_
                                    try simp only [Ex.thnH, Ex.inBlockH, ↓reduceIte, Nat.reduceEqDiff]
                                    refine hK50 _ _ ?_; try clear hK50 K50
                                    refine CW_ret ?_
                                    try simp only [Ex.thnH, Ex.inBlockH, ↓reduceIte, Nat.reduceEqDiff]
                                    refine ⟨[_], ⟨rfl, trivial⟩, _, Le.refl _, ?_, lhA⟩
                                    show Value.bool _ = _
                                    refine congrArg Value.bool ?_
                                    rw [← goodR_eq]
                                    unfold goodR
                                    first | (simp_all; done) | (simp_all; omega) | (simp_all <;> omega)
                              · first
                                | (exfalso; exact cnA c69; done)
                                | skip
                                  (try simp only [decide_eq_true_eq, decide_eq_false_iff_not, Bool.not_eq_true, Bool.not_eq_false, Bool.and_eq_true, Bool.or_eq_true, Bool.or_eq_false_iff, Bool.not_eq_true, Bool.not_eq_eq_eq_not, Bool.not_true, Bool.not_false] at c69)
                                  refine CW_skip ?_
                                  try simp only [Ex.thnH, Ex.inBlockH, ↓reduceIte, Nat.reduceEqDiff]
                                  refine hK48 _ _ ?_; try clear hK48 K48
                                  refine CW_seq (fun K51 hK51 => ?_)
                                  refine CW_region ?_
                                  refine OW_mv rfl ?_
                                  refine OW_opS (fun K hK r => ?_)
                                  simp only [x_callF _ bd52, List.map_toArray, List.map_cons, List.map_nil, eX, ↓reduceIte, Nat.reduceEqDiff, Int.reduceToNat]
                                  refine (uses_op _ x.op 110).mono ?_
                                  rintro v H' ⟨rfl, rfl⟩
                                  try simp only [eX, ↓reduceIte, Nat.reduceEqDiff, Int.reduceToNat]
                                  refine hK _ _ ?_; clear hK K
                                  refine OW_mv rfl ?_
                                  (first | refine OW_split (d := 80) rfl (fun g80 => ?_) (fun g80 => ?_) | skip)
                                  all_goals try (exfalso; exact cnA g80)
                                  all_goals (try simp only [decide_eq_true_eq, decide_eq_false_iff_not, Bool.not_eq_true, Bool.not_eq_false, Bool.and_eq_true, Bool.or_eq_true, Bool.or_eq_false_iff, Bool.not_eq_true, Bool.not_eq_eq_eq_not, Bool.not_true, Bool.not_false] at g80)
                                  all_goals
                                    try simp only [eX, ↓reduceIte, Nat.reduceEqDiff, Int.reduceToNat]
                                    first
                                    | refine OW_guardT rfl (lt_some (by decide)) rfl (fun K hK r => ?_)
                                      simp only [x_fieldAddr, fa47_5, add_mk, Nat.reduceAdd, Nat.zero_add, eX, ↓reduceIte, Nat.reduceEqDiff, Int.reduceToNat]
                                      refine hK _ _ ?_; clear hK K
                                    | refine OW_guardF rfl (lt_some (by decide)) rfl ?_
                                      simp only [eX, ↓reduceIte, Nat.reduceEqDiff, Int.reduceToNat]
                                    first
                                    | refine OW_guardT rfl (lt_some (by decide)) rfl (fun K hK r => ?_)
                                      simp only [x_load, eX, ↓reduceIte, Nat.reduceEqDiff, Int.reduceToNat]
                                      refine Lt_loadAt1 Try.underlying3 rfl hbA ldA ?_
                                      try simp only [eX, ↓reduceIte, Nat.reduceEqDiff, Int.reduceToNat]
                                      refine hK _ _ ?_; clear hK K
                                    | refine OW_guardF rfl (lt_some (by decide)) rfl ?_
                                      simp only [eX, ↓reduceIte, Nat.reduceEqDiff, Int.reduceToNat]
                                    first
                                    | refine OW_guardT rfl (lt_some (by decide)) rfl (fun K hK r => ?_)
                                      simp (disch := (first | omega | decide)) only [x_bin, g_int, b_eql, dec_lt_t, dec_lt_f, dec_le_t, dec_le_f, dec_eq_t, dec_eq_f, Bool.not_true, Bool.not_false, eX, ↓reduceIte, Nat.reduceEqDiff, Int.reduceToNat]
                                      refine hK _ _ ?_; clear hK K
                                    | refine OW_guardF rfl (lt_some (by decide)) rfl ?_
                                      simp only [eX, ↓reduceIte, Nat.reduceEqDiff, Int.reduceToNat]
                                    refine OW_opS (fun K hK r => ?_)
                                    simp only [x_pick, l_asBool, HL.ite_bool, if_true, if_false, Bool.false_eq_true, eX, ↓reduceIte, Nat.reduceEqDiff, Int.reduceToNat]
                                    refine hK _ _ ?_; clear hK K
                                    refine OW_as rfl ?_
                                    refine OW_nil ?_
                                    try simp only [Ex.thnH, Ex.inBlockH, ↓reduceIte, Nat.reduceEqDiff]
                                    refine hK51 _ _ ?_; try clear hK51 K51
                                    refine CW_ret ?_
                                    try simp only [Ex.thnH, Ex.inBlockH, ↓reduceIte, Nat.reduceEqDiff]
                                    refine ⟨[_], ⟨rfl, trivial⟩, _, Le.refl _, ?_, lhA⟩
                                    show Value.bool _ = _
                                    refine congrArg Value.bool ?_
                                    rw [← goodR_eq]
                                    unfold goodR
                                    first | (simp_all; done) | (simp_all; omega) | (simp_all <;> omega)

end Go.Proofs.Ytlkopcgoaldpeaa.HL
end
