/- Contracts of functions of the program, walked through. -/
import Derived.Test.YtbeepknfcjejkaaT25
import Derived.Test.YtbeepknfcjejkaaMd07
import Derived.Test.YtbeepknfcjejkaaHLField
namespace Go.Proofs.Ytbeepknfcjejkaa.HL
open Go Go.Proofs
set_option linter.unusedSimpArgs false
set_option linter.unusedVariables false
attribute [local irreducible] Lt Lq CW OW TW CallH

set_option maxRecDepth 100000 in
set_option maxHeartbeats 8000000 in
theorem BigDiv_ok (H : Hp) (va vb : Value) (ba bb : Bool) (a b : List Int) (na nb : Nat) (ha : BigV H va ba a na) (hb : BigV H vb bb b nb) (sa : na ≤ 5000) (sb : nb ≤ 5000) (hb0 : dec b ≠ 0) : CallH Try.prog 18 #[va, vb] H (fun v H' => Le H H' ∧ ∃ q r cq lq cr lr, v = .tuple #[q, r] ∧ BigV H' q cq lq 5000 ∧ BigV H' r cr lr 5001 ∧ bval cq lq = (bval ba a).tdiv (bval bb b) ∧ bval cr lr = (bval ba a).tmod (bval bb b)) := by
  refine CallH_enter (l := [_, _]) (rl := [.cell 4 25, .cell 5 25]) (n := 60) Try.func18 rfl rfl rfl rfl rfl ?_
  simp only [envOf, Nat.reduceAdd]
  obtain ⟨xa, rfl, hxa, hca, da, nba, lna⟩ := ha
  obtain ⟨xb, rfl, hxb, hcb, db, nbb, lnb⟩ := hb
  obtain ⟨aa, ca, rfl, hca'⟩ := hca
  obtain ⟨ab, cb, rfl, hcb'⟩ := hcb
  have hbp : 0 < dec b := by have := dec_nonneg db; omega
  refine CW_seq (fun K1 hK1 => ?_)
  refine CW_region ?_
  refine OW_op rfl (lt_some (by decide)) (fun K hK r => ?_)
  simp only [x_box, Value.cells, ev, Env.get, Option.getD_some, ↓reduceIte, Nat.reduceEqDiff, NextH, Env.putO, Env.put, ↓reduceIte, Nat.reduceEqDiff, upd_upd, Int.reduceToNat]
  intro b2 hb2
  have f2_H : H b2 = none := none_of_le lhA hb2
  try simp only [ev, Env.get, Option.getD_some, ↓reduceIte, Nat.reduceEqDiff, NextH, Env.putO, Env.put, ↓reduceIte, Nat.reduceEqDiff, upd_upd, Int.reduceToNat]
  refine hK _ _ ?_; clear hK K
  refine OW_op rfl (lt_some (by decide)) (fun K hK r => ?_)
  simp only [x_box, Value.cells, ev, Env.get, Option.getD_some, ↓reduceIte, Nat.reduceEqDiff, NextH, Env.putO, Env.put, ↓reduceIte, Nat.reduceEqDiff, upd_upd, Int.reduceToNat]
  intro b3 hb3
  try have n3_b2 : b2 ≠ b3 := ne_of_none hbA hb3
  have f3_H : H b3 = none := none_of_le lhA hb3
  try simp only [ev, Env.get, Option.getD_some, ↓reduceIte, Nat.reduceEqDiff, NextH, Env.putO, Env.put, ↓reduceIte, Nat.reduceEqDiff, upd_upd, Int.reduceToNat]
  refine hK _ _ ?_; clear hK K
  refine OW_op rfl (lt_some (by decide)) (fun K hK r => ?_)
  simp only [x_alloc, zr25, orF_some, Value.cells, ev, Env.get, Option.getD_some, ↓reduceIte, Nat.reduceEqDiff, NextH, Env.putO, Env.put, ↓reduceIte, Nat.reduceEqDiff, upd_upd, Int.reduceToNat]
  intro b4 hb4
  try have n4_b2 : b2 ≠ b4 := ne_of_none hbA hb4
  try have n4_b3 : b3 ≠ b4 := ne_of_none hbA hb4
  have f4_H : H b4 = none := none_of_le lhA hb4
  try simp only [ev, Env.get, Option.getD_some, ↓reduceIte, Nat.reduceEqDiff, NextH, Env.putO, Env.put, ↓reduceIte, Nat.reduceEqDiff, upd_upd, Int.reduceToNat]
  refine hK _ _ ?_; clear hK K
  refine OW_op rfl (lt_some (by decide)) (fun K hK r => ?_)
  simp only [x_alloc, zr25, orF_some, Value.cells, ev, Env.get, Option.getD_some, ↓reduceIte, Nat.reduceEqDiff, NextH, Env.putO, Env.put, ↓reduceIte, Nat.reduceEqDiff, upd_upd, Int.reduceToNat]
  intro b5 hb5
  try have n5_b2 : b2 ≠ b5 := ne_of_none hbA hb5
  try have n5_b3 : b3 ≠ b5 := ne_of_none hbA hb5
  try have n5_b4 : b4 ≠ b5 := ne_of_none hbA hb5
  have f5_H : H b5 = none := none_of_le lhA hb5
  try simp only [ev, Env.get, Option.getD_some, ↓reduceIte, Nat.reduceEqDiff, NextH, Env.putO, Env.put, ↓reduceIte, Nat.reduceEqDiff, upd_upd, Int.reduceToNat]
  refine hK _ _ ?_; clear hK K
  refine OW_nil ?_
  try simp only [Ex.thnH, Ex.inBlockH, ↓reduceIte, Nat.reduceEqDiff]
  refine hK1 _ _ ?_; try clear hK1 K1
  refine CW_seq (fun K2 hK2 => ?_)
  refine CW_region ?_
  refine OW_op rfl (lt_some (by decide)) (fun K hK r => ?_)
  simp only [x_assign, ev, Env.get, Option.getD_some, ↓reduceIte, Nat.reduceEqDiff, NextH, Env.putO, Env.put, ↓reduceIte, Nat.reduceEqDiff, upd_upd, Int.reduceToNat]
  refine hK _ _ ?_; clear hK K
  refine OW_op rfl (lt_some (by decide)) (fun K hK r => ?_)
  simp only [x_assign, ev, Env.get, Option.getD_some, ↓reduceIte, Nat.reduceEqDiff, NextH, Env.putO, Env.put, ↓reduceIte, Nat.reduceEqDiff, upd_upd, Int.reduceToNat]
  refine hK _ _ ?_; clear hK K
  refine OW_nil ?_
  try simp only [Ex.thnH, Ex.inBlockH, ↓reduceIte, Nat.reduceEqDiff]
  refine hK2 _ _ ?_; try clear hK2 K2
  refine CW_seq (fun K3 hK3 => ?_)
  refine CW_seq (fun K4 hK4 => ?_)
  refine CW_region ?_
  refine OW_op rfl (lt_some (by decide)) (fun K hK r => ?_)
  simp only [x_fieldAddr, fa25_1, add_mk, Nat.reduceAdd, Nat.zero_add, ev, Env.get, Option.getD_some, ↓reduceIte, Nat.reduceEqDiff, NextH, Env.putO, Env.put, ↓reduceIte, Nat.reduceEqDiff, upd_upd, Int.reduceToNat]
  refine hK _ _ ?_; clear hK K
  refine OW_op rfl (lt_some (by decide)) (fun K hK r => ?_)
  simp only [x_load, ev, Env.get, Option.getD_some, ↓reduceIte, Nat.reduceEqDiff, NextH, Env.putO, Env.put, ↓reduceIte, Nat.reduceEqDiff, upd_upd, Int.reduceToNat]
  refine Lt_loadAt1 Try.underlying22 rfl hbA ldA ?_
  try simp only [ev, Env.get, Option.getD_some, ↓reduceIte, Nat.reduceEqDiff, NextH, Env.putO, Env.put, ↓reduceIte, Nat.reduceEqDiff, upd_upd, Int.reduceToNat]
  refine hK _ _ ?_; clear hK K
  refine OW_op rfl (lt_some (by decide)) (fun K hK r => ?_)
  simp only [x_builtin, l_len, List.map_toArray, List.map_cons, List.map_nil, i_len_slice _ _ Try.underlying22, ev, Env.get, Option.getD_some, ↓reduceIte, Nat.reduceEqDiff, NextH, Env.putO, Env.put, ↓reduceIte, Nat.reduceEqDiff, upd_upd, Int.reduceToNat]
  refine hK _ _ ?_; clear hK K
  refine OW_op rfl (lt_some (by decide)) (fun K hK r => ?_)
  simp (disch := (first | omega | decide)) only [x_bin, g_int, b_sub, wrap_i64, wrap_u64, wrap_u32, wrap_u8, ev, Env.get, Option.getD_some, ↓reduceIte, Nat.reduceEqDiff, NextH, Env.putO, Env.put, ↓reduceIte, Nat.reduceEqDiff, upd_upd, Int.reduceToNat]
  refine hK _ _ ?_; clear hK K
  refine OW_op rfl (lt_some (by decide)) (fun K hK r => ?_)
  simp only [x_assign, ev, Env.get, Option.getD_some, ↓reduceIte, Nat.reduceEqDiff, NextH, Env.putO, Env.put, ↓reduceIte, Nat.reduceEqDiff, upd_upd, Int.reduceToNat]
  refine hK _ _ ?_; clear hK K
  refine OW_nil ?_
  try simp only [Ex.thnH, Ex.inBlockH, ↓reduceIte, Nat.reduceEqDiff]
  refine hK4 _ _ ?_; try clear hK4 K4
  refine CW_block ?_
  refine CW_loop (fun m e H_ => ∃ (k : Nat) (qq rr : List Int) (aq ar : Option Addr) (cq cr : Nat), k ≤ a.length ∧ m = k ∧ Holds H_ 1 (.slice aq qq.length cq) qq.length (i64s qq) ∧ qq.length ≤ cq ∧ Dig qq ∧ qq.length + k ≤ a.length ∧ Holds H_ 1 (.slice ar rr.length cr) rr.length (i64s rr) ∧ rr.length ≤ cr ∧ Dig rr ∧ Norm rr ∧ dec (a.drop k) = dec qq * dec b + dec rr ∧ dec rr < dec b ∧ Env.has [(2, .pointer (some ⟨b2, 0, none⟩)), (3, .pointer (some ⟨b3, 0, none⟩)), (4, .pointer (some ⟨b4, 0, none⟩)), (5, .pointer (some ⟨b5, 0, none⟩)), (6, .slice aq qq.length cq), (7, .slice ar rr.length cr), (8, .int .i64 ((k : Int) - 1))] e ∧ H_ b2 = some (.cells #[.bool ba, .slice aa a.length ca] 25) ∧ H_ b3 = some (.cells #[.bool bb, .slice ab b.length cb] 25) ∧ H_ b4 = some (.cells #[.bool false, .slice none 0 0] 25) ∧ H_ b5 = some (.cells #[.bool false, .slice none 0 0] 25) ∧ Le H H_) (a.length) ?_ ?_
  · skip
    refine ⟨a.length, [], [], none, none, 0, 0, by omega, rfl, ⟨by simp, .inl ⟨_, _, rfl, rfl⟩⟩, Nat.le_refl _, Dig.nil, by simp, ⟨by simp, .inl ⟨_, _, rfl, rfl⟩⟩, Nat.le_refl _, Dig.nil, NB.nil.1, ?_, hbp, ⟨rfl, rfl, rfl, rfl, rfl, rfl, rfl, trivial⟩, hbA, hbA, hbA, hbA, lhA⟩
    rw [List.drop_eq_nil_of_le (by omega)]; simp [dec, D]
  intro m_ e_ H_ hI_
  obtain ⟨k, qq, rr, aq, ar, cq, cr, hk, hmk, hq, hcq, dq, lq, hr, hcr, dr, nr, hval, hrb, he, hb2_, hb3_, hb4_, hb5_, hle⟩ := hI_
  obtain ⟨HC, hHC⟩ : ∃ HC : Hp, HC = H_ := ⟨_, rfl⟩
  subst hHC
  have lrb := len_le db dr nr (by omega)
  refine CW_env he.sub ?_; clear he e_
  refine CW_seq (fun K5 hK5 => ?_)
  refine CW_seq (fun K6 hK6 => ?_)
  refine CW_region ?_
  refine OW_op rfl (lt_some (by decide)) (fun K hK r => ?_)
  simp only [x_move, ev, Env.get, Option.getD_some, ↓reduceIte, Nat.reduceEqDiff, NextH, Env.putO, Env.put, ↓reduceIte, Nat.reduceEqDiff, upd_upd, Int.reduceToNat]
  refine hK _ _ ?_; clear hK K
  refine OW_op rfl (lt_some (by decide)) (fun K hK r => ?_)
  simp (disch := (first | omega | decide)) only [x_bin, g_int, b_geq, dec_lt_t, dec_lt_f, dec_le_t, dec_le_f, dec_eq_t, dec_eq_f, Bool.not_true, Bool.not_false, ev, Env.get, Option.getD_some, ↓reduceIte, Nat.reduceEqDiff, NextH, Env.putO, Env.put, ↓reduceIte, Nat.reduceEqDiff, upd_upd, Int.reduceToNat]
  refine hK _ _ ?_; clear hK K
  refine OW_nil ?_
  try simp only [Ex.thnH, Ex.inBlockH, ↓reduceIte, Nat.reduceEqDiff]
  refine hK6 _ _ ?_; try clear hK6 K6
  refine CW_cond (fun r => rfl) (fun c15 => ?_) (fun c15 => ?_)
  · first
    | (exfalso; exact cnA c15; done)
    | skip
      (try simp only [decide_eq_true_eq, decide_eq_false_iff_not, Bool.not_eq_true, Bool.not_eq_false, Bool.and_eq_true, Bool.or_eq_true, Bool.or_eq_false_iff, Bool.not_eq_true, Bool.not_eq_eq_eq_not, Bool.not_true, Bool.not_false] at c15)
      obtain ⟨i, rfl⟩ : ∃ i, k = i + 1 := ⟨k - 1, by omega⟩
      have ei : (((i + 1 : Nat) : Int) - 1) = i := by omega
      simp only [ei] at c15 ⊢
      have hb9 := da.at i
      obtain ⟨bl, ol, ql, Tl, Fl, rfl, hbl, hsl, atl⟩ := hxa.at (by omega)
      refine CW_skip ?_
      try simp only [Ex.thnH, Ex.inBlockH, ↓reduceIte, Nat.reduceEqDiff]
      refine hK5 _ _ ?_; try clear hK5 K5
      refine CW_seq (fun K7 hK7 => ?_)
      refine CW_block ?_
      refine CW_seq (fun K8 hK8 => ?_)
      refine CW_region ?_
      refine OW_op rfl (lt_some (by decide)) (fun K hK r => ?_)
      simp only [x_fieldAddr, fa25_1, add_mk, Nat.reduceAdd, Nat.zero_add, ev, Env.get, Option.getD_some, ↓reduceIte, Nat.reduceEqDiff, NextH, Env.putO, Env.put, ↓reduceIte, Nat.reduceEqDiff, upd_upd, Int.reduceToNat]
      refine hK _ _ ?_; clear hK K
      refine OW_op rfl (lt_some (by decide)) (fun K hK r => ?_)
      simp only [x_load, ev, Env.get, Option.getD_some, ↓reduceIte, Nat.reduceEqDiff, NextH, Env.putO, Env.put, ↓reduceIte, Nat.reduceEqDiff, upd_upd, Int.reduceToNat]
      refine Lt_loadAt1 Try.underlying22 rfl hbA ldA ?_
      try simp only [ev, Env.get, Option.getD_some, ↓reduceIte, Nat.reduceEqDiff, NextH, Env.putO, Env.put, ↓reduceIte, Nat.reduceEqDiff, upd_upd, Int.reduceToNat]
      refine hK _ _ ?_; clear hK K
      refine OW_op rfl (lt_some (by decide)) (fun K hK r => ?_)
      simp only [x_move, ev, Env.get, Option.getD_some, ↓reduceIte, Nat.reduceEqDiff, NextH, Env.putO, Env.put, ↓reduceIte, Nat.reduceEqDiff, upd_upd, Int.reduceToNat]
      refine hK _ _ ?_; clear hK K
      refine OW_op rfl (lt_some (by decide)) (fun K hK r => ?_)
      simp only [x_indexAddr, ev, Env.get, Option.getD_some, ↓reduceIte, Nat.reduceEqDiff, NextH, Env.putO, Env.put, ↓reduceIte, Nat.reduceEqDiff, upd_upd, Int.reduceToNat]
      refine Lt_indexS Try.underlying22 sz3 ixA ixA ?_
      try simp only [add_mk, Nat.mul_one, Nat.zero_add, Int.reduceToNat]
      try simp only [ev, Env.get, Option.getD_some, ↓reduceIte, Nat.reduceEqDiff, NextH, Env.putO, Env.put, ↓reduceIte, Nat.reduceEqDiff, upd_upd, Int.reduceToNat]
      refine hK _ _ ?_; clear hK K
      refine OW_op rfl (lt_some (by decide)) (fun K hK r => ?_)
      simp only [x_load, ev, Env.get, Option.getD_some, ↓reduceIte, Nat.reduceEqDiff, NextH, Env.putO, Env.put, ↓reduceIte, Nat.reduceEqDiff, upd_upd, Int.reduceToNat]
      have hbl_ := hle bl _ hbl
      refine Lt_loadAt1 Try.underlying3 rfl hbA (v := .int .i64 (a.getD i 0)) (by first | exact ints_at atl rfl _ (by omega) | (simp only [Int.toNat_natCast, Nat.mul_one]; exact ints_at atl rfl _ (by omega))) ?_
      refine hK _ _ ?_; clear hK K
      refine OW_op rfl (lt_some (by decide)) (fun K hK r => ?_)
      simp only [x_buildSlice, List.map_toArray, List.map_cons, List.map_nil, ev, Env.get, Option.getD_some, ↓reduceIte, Nat.reduceEqDiff, NextH, Env.putO, Env.put, ↓reduceIte, Nat.reduceEqDiff, upd_upd, Int.reduceToNat]
      refine Lt_buildSlice (vs := [_]) Try.underlying22 sz3 zr3 rfl bsA (by first | decide | (simp; done)) ?_
      simp only [List.flatMap_cons, List.flatMap_nil, Value.cells, List.append_nil, List.cons_append, List.nil_append, List.length_cons, List.length_nil, Nat.zero_add, Nat.reduceAdd]
      intro b23 hb23
      try have n23_b2 : b2 ≠ b23 := ne_of_none hbA hb23
      try have n23_b3 : b3 ≠ b23 := ne_of_none hbA hb23
      try have n23_b4 : b4 ≠ b23 := ne_of_none hbA hb23
      try have n23_b5 : b5 ≠ b23 := ne_of_none hbA hb23
      have f23_H : H b23 = none := none_of_le lhA hb23
      try simp only [ev, Env.get, Option.getD_some, ↓reduceIte, Nat.reduceEqDiff, NextH, Env.putO, Env.put, ↓reduceIte, Nat.reduceEqDiff, upd_upd, Int.reduceToNat]
      refine hK _ _ ?_; clear hK K
      refine OW_op rfl (lt_some (by decide)) (fun K hK r => ?_)
      simp only [x_move, ev, Env.get, Option.getD_some, ↓reduceIte, Nat.reduceEqDiff, NextH, Env.putO, Env.put, ↓reduceIte, Nat.reduceEqDiff, upd_upd, Int.reduceToNat]
      refine hK _ _ ?_; clear hK K
      refine OW_op rfl (lt_some (by decide)) (fun K hK r => ?_)
      simp only [x_builtin, l_append, List.map_toArray, List.map_cons, List.map_nil, ev, Env.get, Option.getD_some, ↓reduceIte, Nat.reduceEqDiff, NextH, Env.putO, Env.put, ↓reduceIte, Nat.reduceEqDiff, upd_upd, Int.reduceToNat]
      refine Lt_append Try.underlying22 Try.underlying22 (by simp) sz3 by3 (by decide) zr3 rfl _ (n := 1) (m := rr.length) (cs := [.int .i64 (a.getD i 0)]) (rs := some b23) (ds := i64s rr) ⟨rfl, .inr ⟨b23, 1, _, rfl, hbA, Nat.le_refl _, rfl, by simp, rfl⟩⟩ (fun K => len_holds (hr.le (le_upd _ _ _ hb23)) K) (fun K => first_slice (hr.le (le_upd _ _ _ hb23)) K) (by simp) (PlainL.ints _ _) (by omega) ?_
      intro v25 H25 rs25 hg25 ho25 hr25
      have lH25_H : Le H H25 := hg25.le (H0 := H) lhA (fun z hz => by cases hz; exact f23_H)
      have lH25_C : Le HC H25 := hg25.le (H0 := HC) (by first | exact le_upd _ _ _ hb23 | exact Le.trans l_C (le_upd _ _ _ hb23)) (fun z hz => by cases hz; first | exact hb23 | exact none_of_le l_C hb23)
      have k25_b2 := lH25_C b2 _ hb2_
      have k25_b3 := lH25_C b3 _ hb3_
      have k25_b4 := lH25_C b4 _ hb4_
      have k25_b5 := lH25_C b5 _ hb5_
      obtain ⟨a25, c25, rfl⟩ := ho25.holds.form
      have el25 : 1 + rr.length = (a.getD i 0 :: rr).length := by rw [List.length_cons]; omega
      have hs25 := ho25.holds
      have hc25 := ho25.capOk
      rw [el25] at hs25 hc25
      rw [el25]
      have e25 := hg25
      refine hK _ _ ?_; clear hK K
      refine OW_op rfl (lt_some (by decide)) (fun K hK r => ?_)
      simp only [x_build, bp25, List.map_toArray, List.map_cons, List.map_nil, ev, Env.get, Option.getD_some, ↓reduceIte, Nat.reduceEqDiff, NextH, Env.putO, Env.put, ↓reduceIte, Nat.reduceEqDiff, upd_upd, Int.reduceToNat]
      rw [fill_one rfl clA bdA]
      simp only [fill_nil, orF_some, List.setIfInBounds_toArray, List.set_cons_zero, List.set_cons_succ]
      try simp only [ev, Env.get, Option.getD_some, ↓reduceIte, Nat.reduceEqDiff, NextH, Env.putO, Env.put, ↓reduceIte, Nat.reduceEqDiff, upd_upd, Int.reduceToNat]
      refine hK _ _ ?_; clear hK K
      refine OW_op rfl (lt_some (by decide)) (fun K hK r => ?_)
      simp only [x_callF _ bd27, List.map_toArray, List.map_cons, List.map_nil, ev, Env.get, Option.getD_some, ↓reduceIte, Nat.reduceEqDiff, NextH, Env.putO, Env.put, ↓reduceIte, Nat.reduceEqDiff, upd_upd, Int.reduceToNat]
      have hd25 : Dig (a.getD i 0 :: rr) := fun d hd => by
        rcases List.mem_cons.1 hd with rfl | hd
        · exact hb9
        · exact dr d hd
      refine (trim_ok _ _ false (a.getD i 0 :: rr) hs25 hc25 hd25 (by first | omega | (simp only [List.length_cons]; omega))).mono ?_
      rintro v27 H27 ⟨hH27, b27, l27, hb27, hdec27, hbv27⟩
      have hH27 := hH27.symm; subst hH27
      obtain ⟨x27, rfl, hx27, hcx27, dx27, nx27, lx27⟩ := hb27
      obtain ⟨a27, c27, rfl, hcc27⟩ := hcx27
      try simp only [ev, Env.get, Option.getD_some, ↓reduceIte, Nat.reduceEqDiff, NextH, Env.putO, Env.put, ↓reduceIte, Nat.reduceEqDiff, upd_upd, Int.reduceToNat]
      refine hK _ _ ?_; clear hK K
      refine OW_op rfl (lt_some (by decide)) (fun K hK r => ?_)
      simp only [x_field, ev, Env.get, Option.getD_some, ↓reduceIte, Nat.reduceEqDiff, NextH, Env.putO, Env.put, ↓reduceIte, Nat.reduceEqDiff, upd_upd, Int.reduceToNat]
      refine Lt_fieldV Try.underlying25 rfl Try.underlying22 rfl rfl ?_
      refine hK _ _ ?_; clear hK K
      refine OW_op rfl (lt_some (by decide)) (fun K hK r => ?_)
      simp only [x_assign, ev, Env.get, Option.getD_some, ↓reduceIte, Nat.reduceEqDiff, NextH, Env.putO, Env.put, ↓reduceIte, Nat.reduceEqDiff, upd_upd, Int.reduceToNat]
      refine hK _ _ ?_; clear hK K
      refine OW_nil ?_
      try simp only [Ex.thnH, Ex.inBlockH, ↓reduceIte, Nat.reduceEqDiff]
      refine hK8 _ _ ?_; try clear hK8 K8
      refine CW_seq (fun K9 hK9 => ?_)
      refine CW_region ?_
      refine OW_op rfl (lt_some (by decide)) (fun K hK r => ?_)
      simp only [x_assign, ev, Env.get, Option.getD_some, ↓reduceIte, Nat.reduceEqDiff, NextH, Env.putO, Env.put, ↓reduceIte, Nat.reduceEqDiff, upd_upd, Int.reduceToNat]
      refine hK _ _ ?_; clear hK K
      refine OW_nil ?_
      try simp only [Ex.thnH, Ex.inBlockH, ↓reduceIte, Nat.reduceEqDiff]
      refine hK9 _ _ ?_; try clear hK9 K9
      refine CW_seq (fun K10 hK10 => ?_)
      refine CW_block ?_
      refine CW_loop (fun m e H_ => ∃ (n : Nat) (s : List Int) (az : Option Addr) (cs : Nat), m = (dec s).toNat ∧ Holds H_ 1 (.slice az s.length cs) s.length (i64s s) ∧ s.length ≤ cs ∧ Dig s ∧ Norm s ∧ s.length ≤ rr.length + 1 ∧ dec s + (n : Int) * dec b = a.getD i 0 + 10 * dec rr ∧ (n : Int) ≤ 9 ∧ Env.has [(2, .pointer (some ⟨b2, 0, none⟩)), (3, .pointer (some ⟨b3, 0, none⟩)), (4, .pointer (some ⟨b4, 0, none⟩)), (5, .pointer (some ⟨b5, 0, none⟩)), (6, .slice aq qq.length cq), (7, .slice az s.length cs), (8, .int .i64 i), (9, .int .i64 n)] e ∧ Le H25 H_) ((dec l27).toNat) ?_ ?_
      · skip
        refine ⟨0, l27, _, _, rfl, hx27, hcc27, dx27, nx27.1, by simpa using lx27, ?_, by omega, ⟨rfl, rfl, rfl, rfl, rfl, rfl, rfl, rfl, trivial⟩, Le.refl _⟩
        rw [hdec27, dec_cons]; simp
      intro m_ e_ H_ hI_
      obtain ⟨n, s, az, cs, rfl, hs, hcs, ds, ns, ls, hvs, hn9, he, hle2⟩ := hI_
      have l_C := Le.trans lH25_C hle2
      have l_H := Le.trans lH25_H hle2
      have kb2 := l_C b2 _ hb2_
      have kb3 := l_C b3 _ hb3_
      have kb4 := l_C b4 _ hb4_
      have kb5 := l_C b5 _ hb5_
      refine CW_env he.sub ?_; clear he e_
      have hds0 := dec_nonneg ds
      refine CW_seq (fun K11 hK11 => ?_)
      refine CW_seq (fun K12 hK12 => ?_)
      refine CW_region ?_
      refine OW_op rfl (lt_some (by decide)) (fun K hK r => ?_)
      simp only [x_move, ev, Env.get, Option.getD_some, ↓reduceIte, Nat.reduceEqDiff, NextH, Env.putO, Env.put, ↓reduceIte, Nat.reduceEqDiff, upd_upd, Int.reduceToNat]
      refine hK _ _ ?_; clear hK K
      refine OW_op rfl (lt_some (by decide)) (fun K hK r => ?_)
      simp only [x_fieldAddr, fa25_1, add_mk, Nat.reduceAdd, Nat.zero_add, ev, Env.get, Option.getD_some, ↓reduceIte, Nat.reduceEqDiff, NextH, Env.putO, Env.put, ↓reduceIte, Nat.reduceEqDiff, upd_upd, Int.reduceToNat]
      refine hK _ _ ?_; clear hK K
      refine OW_op rfl (lt_some (by decide)) (fun K hK r => ?_)
      simp only [x_load, ev, Env.get, Option.getD_some, ↓reduceIte, Nat.reduceEqDiff, NextH, Env.putO, Env.put, ↓reduceIte, Nat.reduceEqDiff, upd_upd, Int.reduceToNat]
      refine Lt_loadAt1 Try.underlying22 rfl hbA ldA ?_
      try simp only [ev, Env.get, Option.getD_some, ↓reduceIte, Nat.reduceEqDiff, NextH, Env.putO, Env.put, ↓reduceIte, Nat.reduceEqDiff, upd_upd, Int.reduceToNat]
      refine hK _ _ ?_; clear hK K
      refine OW_op rfl (lt_some (by decide)) (fun K hK r => ?_)
      simp only [x_callF _ bd29, List.map_toArray, List.map_cons, List.map_nil, ev, Env.get, Option.getD_some, ↓reduceIte, Nat.reduceEqDiff, NextH, Env.putO, Env.put, ↓reduceIte, Nat.reduceEqDiff, upd_upd, Int.reduceToNat]
      refine (less_ok _ _ _ s b hs (hxb.le lhA) ds db (by omega) (by omega)).mono ?_
      rintro v H' ⟨rfl, rfl⟩
      try simp only [ev, Env.get, Option.getD_some, ↓reduceIte, Nat.reduceEqDiff, NextH, Env.putO, Env.put, ↓reduceIte, Nat.reduceEqDiff, upd_upd, Int.reduceToNat]
      refine hK _ _ ?_; clear hK K
      refine OW_op rfl (lt_some (by decide)) (fun K hK r => ?_)
      simp only [x_un, u_not, ev, Env.get, Option.getD_some, ↓reduceIte, Nat.reduceEqDiff, NextH, Env.putO, Env.put, ↓reduceIte, Nat.reduceEqDiff, upd_upd, Int.reduceToNat]
      refine hK _ _ ?_; clear hK K
      refine OW_nil ?_
      try simp only [Ex.thnH, Ex.inBlockH, ↓reduceIte, Nat.reduceEqDiff]
      refine hK12 _ _ ?_; try clear hK12 K12
      refine CW_cond (fun r => rfl) (fun c33 => ?_) (fun c33 => ?_)
      · first
        | (exfalso; exact cnA c33; done)
        | skip
          (try simp only [decide_eq_true_eq, decide_eq_false_iff_not, Bool.not_eq_true, Bool.not_eq_false, Bool.and_eq_true, Bool.or_eq_true, Bool.or_eq_false_iff, Bool.not_eq_true, Bool.not_eq_eq_eq_not, Bool.not_true, Bool.not_false] at c33)
          have hge : dec b ≤ dec s := by omega
          refine CW_skip ?_
          try simp only [Ex.thnH, Ex.inBlockH, ↓reduceIte, Nat.reduceEqDiff]
          refine hK11 _ _ ?_; try clear hK11 K11
          refine CW_block ?_
          refine CW_seq (fun K13 hK13 => ?_)
          refine CW_region ?_
          refine OW_op rfl (lt_some (by decide)) (fun K hK r => ?_)
          simp only [x_move, ev, Env.get, Option.getD_some, ↓reduceIte, Nat.reduceEqDiff, NextH, Env.putO, Env.put, ↓reduceIte, Nat.reduceEqDiff, upd_upd, Int.reduceToNat]
          refine hK _ _ ?_; clear hK K
          refine OW_op rfl (lt_some (by decide)) (fun K hK r => ?_)
          simp only [x_fieldAddr, fa25_1, add_mk, Nat.reduceAdd, Nat.zero_add, ev, Env.get, Option.getD_some, ↓reduceIte, Nat.reduceEqDiff, NextH, Env.putO, Env.put, ↓reduceIte, Nat.reduceEqDiff, upd_upd, Int.reduceToNat]
          refine hK _ _ ?_; clear hK K
          refine OW_op rfl (lt_some (by decide)) (fun K hK r => ?_)
          simp only [x_load, ev, Env.get, Option.getD_some, ↓reduceIte, Nat.reduceEqDiff, NextH, Env.putO, Env.put, ↓reduceIte, Nat.reduceEqDiff, upd_upd, Int.reduceToNat]
          refine Lt_loadAt1 Try.underlying22 rfl hbA ldA ?_
          try simp only [ev, Env.get, Option.getD_some, ↓reduceIte, Nat.reduceEqDiff, NextH, Env.putO, Env.put, ↓reduceIte, Nat.reduceEqDiff, upd_upd, Int.reduceToNat]
          refine hK _ _ ?_; clear hK K
          refine OW_op rfl (lt_some (by decide)) (fun K hK r => ?_)
          simp only [x_callF _ bd30, List.map_toArray, List.map_cons, List.map_nil, ev, Env.get, Option.getD_some, ↓reduceIte, Nat.reduceEqDiff, NextH, Env.putO, Env.put, ↓reduceIte, Nat.reduceEqDiff, upd_upd, Int.reduceToNat]
          refine (rest_ok _ _ _ s b hs (hxb.le lhA) ds db (by omega) (len_le ds db nbb.1 hge) hge).mono ?_
          rintro v37 H37 ⟨hl37, out37, hs37, ⟨w37, y37, rfl, hcv37⟩, hd37, he37, hn37⟩
          have hc37 : CapOk (.slice w37 out37.length y37) out37.length := ⟨_, _, rfl, hcv37⟩
          try simp only [ev, Env.get, Option.getD_some, ↓reduceIte, Nat.reduceEqDiff, NextH, Env.putO, Env.put, ↓reduceIte, Nat.reduceEqDiff, upd_upd, Int.reduceToNat]
          refine hK _ _ ?_; clear hK K
          refine OW_op rfl (lt_some (by decide)) (fun K hK r => ?_)
          simp only [x_build, bp25, List.map_toArray, List.map_cons, List.map_nil, ev, Env.get, Option.getD_some, ↓reduceIte, Nat.reduceEqDiff, NextH, Env.putO, Env.put, ↓reduceIte, Nat.reduceEqDiff, upd_upd, Int.reduceToNat]
          rw [fill_one rfl clA bdA]
          simp only [fill_nil, orF_some, List.setIfInBounds_toArray, List.set_cons_zero, List.set_cons_succ]
          try simp only [ev, Env.get, Option.getD_some, ↓reduceIte, Nat.reduceEqDiff, NextH, Env.putO, Env.put, ↓reduceIte, Nat.reduceEqDiff, upd_upd, Int.reduceToNat]
          refine hK _ _ ?_; clear hK K
          refine OW_op rfl (lt_some (by decide)) (fun K hK r => ?_)
          simp only [x_callF _ bd27, List.map_toArray, List.map_cons, List.map_nil, ev, Env.get, Option.getD_some, ↓reduceIte, Nat.reduceEqDiff, NextH, Env.putO, Env.put, ↓reduceIte, Nat.reduceEqDiff, upd_upd, Int.reduceToNat]
          refine (trim_ok _ _ false (out37) hs37 hc37 hd37 (by first | omega | (simp only [List.length_cons]; omega))).mono ?_
          rintro v39 H39 ⟨hH39, b39, l39, hb39, hdec39, hbv39⟩
          have hH39 := hH39.symm; subst hH39
          obtain ⟨x39, rfl, hx39, hcx39, dx39, nx39, lx39⟩ := hb39
          obtain ⟨a39, c39, rfl, hcc39⟩ := hcx39
          try simp only [ev, Env.get, Option.getD_some, ↓reduceIte, Nat.reduceEqDiff, NextH, Env.putO, Env.put, ↓reduceIte, Nat.reduceEqDiff, upd_upd, Int.reduceToNat]
          refine hK _ _ ?_; clear hK K
          refine OW_op rfl (lt_some (by decide)) (fun K hK r => ?_)
          simp only [x_field, ev, Env.get, Option.getD_some, ↓reduceIte, Nat.reduceEqDiff, NextH, Env.putO, Env.put, ↓reduceIte, Nat.reduceEqDiff, upd_upd, Int.reduceToNat]
          refine Lt_fieldV Try.underlying25 rfl Try.underlying22 rfl rfl ?_
          refine hK _ _ ?_; clear hK K
          refine OW_op rfl (lt_some (by decide)) (fun K hK r => ?_)
          simp only [x_assign, ev, Env.get, Option.getD_some, ↓reduceIte, Nat.reduceEqDiff, NextH, Env.putO, Env.put, ↓reduceIte, Nat.reduceEqDiff, upd_upd, Int.reduceToNat]
          refine hK _ _ ?_; clear hK K
          refine OW_nil ?_
          try simp only [Ex.thnH, Ex.inBlockH, ↓reduceIte, Nat.reduceEqDiff]
          refine hK13 _ _ ?_; try clear hK13 K13
          refine CW_region ?_
          refine OW_op rfl (lt_some (by decide)) (fun K hK r => ?_)
          simp only [x_move, ev, Env.get, Option.getD_some, ↓reduceIte, Nat.reduceEqDiff, NextH, Env.putO, Env.put, ↓reduceIte, Nat.reduceEqDiff, upd_upd, Int.reduceToNat]
          refine hK _ _ ?_; clear hK K
          refine OW_op rfl (lt_some (by decide)) (fun K hK r => ?_)
          simp (disch := (first | omega | decide)) only [x_bin, g_int, b_add, wrap_i64, wrap_u64, wrap_u32, wrap_u8, ev, Env.get, Option.getD_some, ↓reduceIte, Nat.reduceEqDiff, NextH, Env.putO, Env.put, ↓reduceIte, Nat.reduceEqDiff, upd_upd, Int.reduceToNat]
          refine hK _ _ ?_; clear hK K
          refine OW_op rfl (lt_some (by decide)) (fun K hK r => ?_)
          simp only [x_assign, ev, Env.get, Option.getD_some, ↓reduceIte, Nat.reduceEqDiff, NextH, Env.putO, Env.put, ↓reduceIte, Nat.reduceEqDiff, upd_upd, Int.reduceToNat]
          refine hK _ _ ?_; clear hK K
          refine OW_nil ?_
          try simp only [Ex.thnH, Ex.inBlockH, ↓reduceIte, Nat.reduceEqDiff]
          have hn1 := div_digit (n := n + 1) (s := dec s - dec b) (by omega) (Int.le_of_lt hbp) (by rw [Int.add_mul]; omega) (div_lt hb9.2 hrb)
          refine ⟨_, ?_, n + 1, l39, _, _, rfl, hx39, hcc39, dx39, nx39.1, by omega, ?_, by simpa using hn1, ⟨rfl, rfl, rfl, rfl, rfl, rfl, rfl, rfl, trivial⟩, Le.trans hle2 hl37⟩
          · rw [hdec39, he37]; omega
          · rw [hdec39, he37, Int.natCast_add, Int.add_mul]; simp only [Int.natCast_one, Int.one_mul]; omega
      · first
        | (exfalso; exact cnA c33; done)
        | skip
          (try simp only [decide_eq_true_eq, decide_eq_false_iff_not, Bool.not_eq_true, Bool.not_eq_false, Bool.and_eq_true, Bool.or_eq_true, Bool.or_eq_false_iff, Bool.not_eq_true, Bool.not_eq_eq_eq_not, Bool.not_true, Bool.not_false] at c33)
          have hslt : dec s < dec b := by omega
          refine CW_exit ?_
          try simp only [Ex.thnH, Ex.inBlockH, ↓reduceIte, Nat.reduceEqDiff]
          refine hK10 _ _ ?_; try clear hK10 K10
          refine CW_region ?_
          refine OW_op rfl (lt_some (by decide)) (fun K hK r => ?_)
          simp only [x_move, ev, Env.get, Option.getD_some, ↓reduceIte, Nat.reduceEqDiff, NextH, Env.putO, Env.put, ↓reduceIte, Nat.reduceEqDiff, upd_upd, Int.reduceToNat]
          refine hK _ _ ?_; clear hK K
          refine OW_op rfl (lt_some (by decide)) (fun K hK r => ?_)
          simp only [x_buildSlice, List.map_toArray, List.map_cons, List.map_nil, ev, Env.get, Option.getD_some, ↓reduceIte, Nat.reduceEqDiff, NextH, Env.putO, Env.put, ↓reduceIte, Nat.reduceEqDiff, upd_upd, Int.reduceToNat]
          refine Lt_buildSlice (vs := [_]) Try.underlying22 sz3 zr3 rfl bsA (by first | decide | (simp; done)) ?_
          simp only [List.flatMap_cons, List.flatMap_nil, Value.cells, List.append_nil, List.cons_append, List.nil_append, List.length_cons, List.length_nil, Nat.zero_add, Nat.reduceAdd]
          intro b44 hb44
          try have n44_b2 : b2 ≠ b44 := ne_of_none hbA hb44
          try have n44_b3 : b3 ≠ b44 := ne_of_none hbA hb44
          try have n44_b4 : b4 ≠ b44 := ne_of_none hbA hb44
          try have n44_b5 : b5 ≠ b44 := ne_of_none hbA hb44
          try have n44_b23 : b23 ≠ b44 := ne_of_none hbA hb44
          have f44_H : H b44 = none := none_of_le lhA hb44
          try simp only [ev, Env.get, Option.getD_some, ↓reduceIte, Nat.reduceEqDiff, NextH, Env.putO, Env.put, ↓reduceIte, Nat.reduceEqDiff, upd_upd, Int.reduceToNat]
          refine hK _ _ ?_; clear hK K
          refine OW_op rfl (lt_some (by decide)) (fun K hK r => ?_)
          simp only [x_move, ev, Env.get, Option.getD_some, ↓reduceIte, Nat.reduceEqDiff, NextH, Env.putO, Env.put, ↓reduceIte, Nat.reduceEqDiff, upd_upd, Int.reduceToNat]
          refine hK _ _ ?_; clear hK K
          refine OW_op rfl (lt_some (by decide)) (fun K hK r => ?_)
          simp only [x_builtin, l_append, List.map_toArray, List.map_cons, List.map_nil, ev, Env.get, Option.getD_some, ↓reduceIte, Nat.reduceEqDiff, NextH, Env.putO, Env.put, ↓reduceIte, Nat.reduceEqDiff, upd_upd, Int.reduceToNat]
          refine Lt_append Try.underlying22 Try.underlying22 (by simp) sz3 by3 (by decide) zr3 rfl _ (n := 1) (m := qq.length) (cs := [.int .i64 ((n : Int))]) (rs := some b44) (ds := i64s qq) ⟨rfl, .inr ⟨b44, 1, _, rfl, hbA, Nat.le_refl _, rfl, by simp, rfl⟩⟩ (fun K => len_holds ((hq.le (Le.trans lH25_C hle2)).le (le_upd _ _ _ hb44)) K) (fun K => first_slice ((hq.le (Le.trans lH25_C hle2)).le (le_upd _ _ _ hb44)) K) (by simp) (PlainL.ints _ _) (by omega) ?_
          intro v46 H46 rs46 hg46 ho46 hr46
          have lH46_H : Le H H46 := hg46.le (H0 := H) lhA (fun z hz => by cases hz; exact f44_H)
          have lH46_C : Le HC H46 := hg46.le (H0 := HC) (by first | exact le_upd _ _ _ hb44 | exact Le.trans l_C (le_upd _ _ _ hb44)) (fun z hz => by cases hz; first | exact hb44 | exact none_of_le l_C hb44)
          have k46_b2 := lH46_C b2 _ hb2_
          have k46_b3 := lH46_C b3 _ hb3_
          have k46_b4 := lH46_C b4 _ hb4_
          have k46_b5 := lH46_C b5 _ hb5_
          obtain ⟨a46, c46, rfl⟩ := ho46.holds.form
          have el46 : 1 + qq.length = ((n : Int) :: qq).length := by rw [List.length_cons]; omega
          have hs46 := ho46.holds
          have hc46 := ho46.capOk
          rw [el46] at hs46 hc46
          rw [el46]
          have e46 := hg46
          have hs46' := hs.le (hg46.le (le_upd _ _ _ hb44) (fun z hz => by cases hz; exact hb44))
          refine hK _ _ ?_; clear hK K
          refine OW_op rfl (lt_some (by decide)) (fun K hK r => ?_)
          simp only [x_assign, ev, Env.get, Option.getD_some, ↓reduceIte, Nat.reduceEqDiff, NextH, Env.putO, Env.put, ↓reduceIte, Nat.reduceEqDiff, upd_upd, Int.reduceToNat]
          refine hK _ _ ?_; clear hK K
          refine OW_nil ?_
          try simp only [Ex.thnH, Ex.inBlockH, ↓reduceIte, Nat.reduceEqDiff]
          refine hK7 _ _ ?_; try clear hK7 K7
          refine CW_region ?_
          refine OW_op rfl (lt_some (by decide)) (fun K hK r => ?_)
          simp only [x_move, ev, Env.get, Option.getD_some, ↓reduceIte, Nat.reduceEqDiff, NextH, Env.putO, Env.put, ↓reduceIte, Nat.reduceEqDiff, upd_upd, Int.reduceToNat]
          refine hK _ _ ?_; clear hK K
          refine OW_op rfl (lt_some (by decide)) (fun K hK r => ?_)
          simp (disch := (first | omega | decide)) only [x_bin, g_int, b_sub, wrap_i64, wrap_u64, wrap_u32, wrap_u8, ev, Env.get, Option.getD_some, ↓reduceIte, Nat.reduceEqDiff, NextH, Env.putO, Env.put, ↓reduceIte, Nat.reduceEqDiff, upd_upd, Int.reduceToNat]
          refine hK _ _ ?_; clear hK K
          refine OW_op rfl (lt_some (by decide)) (fun K hK r => ?_)
          simp only [x_assign, ev, Env.get, Option.getD_some, ↓reduceIte, Nat.reduceEqDiff, NextH, Env.putO, Env.put, ↓reduceIte, Nat.reduceEqDiff, upd_upd, Int.reduceToNat]
          refine hK _ _ ?_; clear hK K
          refine OW_nil ?_
          try simp only [Ex.thnH, Ex.inBlockH, ↓reduceIte, Nat.reduceEqDiff]
          refine ⟨i, by omega, i, (n : Int) :: qq, s, _, _, _, _, by omega, rfl, ?_, ?_, ?_, by simp; omega, hs46', hcs, ds, ns, ?_, by omega, ⟨rfl, rfl, rfl, rfl, rfl, rfl, rfl, trivial⟩, hbA, hbA, hbA, hbA, lhA⟩
          · exact hs46
          · obtain ⟨_, _, e46, hc46⟩ := hc46; cases e46; exact hc46
          · intro d hd
            rcases List.mem_cons.1 hd with rfl | hd
            · omega
            · exact dq d hd
          · rw [drop_dec (by omega), dec_cons, hval]; exact div_step hvs
  · first
    | (exfalso; exact cnA c15; done)
    | skip
      (try simp only [decide_eq_true_eq, decide_eq_false_iff_not, Bool.not_eq_true, Bool.not_eq_false, Bool.and_eq_true, Bool.or_eq_true, Bool.or_eq_false_iff, Bool.not_eq_true, Bool.not_eq_eq_eq_not, Bool.not_true, Bool.not_false] at c15)
      refine CW_exit ?_
      try simp only [Ex.thnH, Ex.inBlockH, ↓reduceIte, Nat.reduceEqDiff]
      refine hK3 _ _ ?_; try clear hK3 K3
      refine CW_seq (fun K14 hK14 => ?_)
      obtain ⟨R11, hR11⟩ : ∃ R : Hp, R = (emptyHp.upd b2 (.cells #[.bool ba, .slice aa a.length ca] 25)).upd b3 (.cells #[.bool bb, .slice ab b.length cb] 25) := ⟨_, rfl⟩
      refine CW_drawR [0, 1, 0, 1, 0, 0, 0, 2, 0, 1, 0, 0, 2, 2, 3] [0, 1, 2, 3, 4, 5, 6, 7, 8, 9, 10, 11, 12, 13, 14] R11 (by kernel_rfl) (by kernel_rfl) (by subst hR11; exact le_put (le_put (le_empty _) hb2_) hb3_) (fun lR11 => ?_)
      apply TW_pure rfl (lt_some (by decide)) rfl
      · intro r
        simp only [x_fieldAddr, fa25_0, add_mk, Nat.reduceAdd, Nat.zero_add, ev, Env.get, Option.getD_some, ↓reduceIte, Nat.reduceEqDiff]
        exact ⟨rfl, Le.refl _⟩
      simp only [NextH, Env.putO, Env.put, ↓reduceIte, Nat.reduceEqDiff, upd_upd, Int.reduceToNat]
      apply TW_look rfl (lt_some (by decide)) rfl
      · intro r
        simp only [x_load, ev, Env.get, Option.getD_some, ↓reduceIte, Nat.reduceEqDiff]
        refine Lt_loadAt1 Try.underlying4 rfl hbA ldA ?_
        exact ⟨rfl, Le.refl _⟩
      simp only [NextH, Env.putO, Env.put, ↓reduceIte, Nat.reduceEqDiff, upd_upd, Int.reduceToNat]
      apply TW_pure rfl (lt_some (by decide)) rfl
      · intro r
        simp only [x_fieldAddr, fa25_0, add_mk, Nat.reduceAdd, Nat.zero_add, ev, Env.get, Option.getD_some, ↓reduceIte, Nat.reduceEqDiff]
        exact ⟨rfl, Le.refl _⟩
      simp only [NextH, Env.putO, Env.put, ↓reduceIte, Nat.reduceEqDiff, upd_upd, Int.reduceToNat]
      apply TW_look rfl (lt_some (by decide)) rfl
      · intro r
        simp only [x_load, ev, Env.get, Option.getD_some, ↓reduceIte, Nat.reduceEqDiff]
        refine Lt_loadAt1 Try.underlying4 rfl hbA ldA ?_
        exact ⟨rfl, Le.refl _⟩
      simp only [NextH, Env.putO, Env.put, ↓reduceIte, Nat.reduceEqDiff, upd_upd, Int.reduceToNat]
      apply TW_pure rfl (lt_some (by decide)) rfl
      · intro r
        simp only [x_bin, g_int, g_bool, g_string, g_pointer, g_slice, g_map, g_func, g_nilFunc, g_iface, g_nil_iface, g_nil_r, g_nil_l, ev, Env.get, Option.getD_some, ↓reduceIte, Nat.reduceEqDiff]
        rw [e_neq _ _ _ _ (by simp)]
        rw [q_equal, q_bool _ _ Try.underlying4]
        exact ⟨rfl, Le.refl _⟩
      simp only [NextH, Env.putO, Env.put, ↓reduceIte, Nat.reduceEqDiff, upd_upd, Int.reduceToNat]
      apply TW_pure rfl (lt_some (by decide)) rfl
      · intro r
        simp only [x_move, ev, Env.get, Option.getD_some, ↓reduceIte, Nat.reduceEqDiff]
        exact ⟨rfl, Le.refl _⟩
      simp only [NextH, Env.putO, Env.put, ↓reduceIte, Nat.reduceEqDiff, upd_upd, Int.reduceToNat]
      apply TW_pure rfl (lt_some (by decide)) rfl
      · intro r
        simp only [x_build, bp25, List.map_toArray, List.map_cons, List.map_nil, ev, Env.get, Option.getD_some, ↓reduceIte, Nat.reduceEqDiff]
        rw [fill_one rfl clA bdA]
        rw [fill_one rfl clA bdA]
        simp only [fill_nil, orF_some, List.setIfInBounds_toArray, List.set_cons_zero, List.set_cons_succ]
        exact ⟨rfl, Le.refl _⟩
      simp only [NextH, Env.putO, Env.put, ↓reduceIte, Nat.reduceEqDiff, upd_upd, Int.reduceToNat]
      refine TW_chain rfl (lt_some (by decide)) rfl (fun K hK r => ?_)
      simp only [x_callF _ bd27, List.map_toArray, List.map_cons, List.map_nil, ev, Env.get, Option.getD_some, ↓reduceIte, Nat.reduceEqDiff, NextH, Env.putO, Env.put, ↓reduceIte, Nat.reduceEqDiff, upd_upd, Int.reduceToNat]
      have rb4 : R11 b4 = none := by subst hR11; rw [upd_ne _ _ (Ne.symm n4_b3), upd_ne _ _ (Ne.symm n4_b2)]; rfl
      refine (trim_ok _ _ (!(ba == bb)) _ (hq.le lhA) ⟨_, _, rfl, hcq⟩ dq (by omega)).mono ?_
      rintro v54 H54 ⟨hH54, b54, l54, hb54, hdec54, hbv54⟩
      have hH54 := hH54.symm; subst hH54
      obtain ⟨x54, rfl, hx54, hcx54, dx54, nx54, lx54⟩ := hb54
      obtain ⟨a54, c54, rfl, hcc54⟩ := hcx54
      try simp only [ev, Env.get, Option.getD_some, ↓reduceIte, Nat.reduceEqDiff, NextH, Env.putO, Env.put, ↓reduceIte, Nat.reduceEqDiff, upd_upd, Int.reduceToNat]
      refine hK _ _ leA ?_; clear hK K
      apply TW_pure rfl (lt_some (by decide)) rfl
      · intro r
        simp only [x_fieldAddr, fa25_0, add_mk, Nat.reduceAdd, Nat.zero_add, ev, Env.get, Option.getD_some, ↓reduceIte, Nat.reduceEqDiff]
        exact ⟨rfl, Le.refl _⟩
      simp only [NextH, Env.putO, Env.put, ↓reduceIte, Nat.reduceEqDiff, upd_upd, Int.reduceToNat]
      apply TW_look rfl (lt_some (by decide)) rfl
      · intro r
        simp only [x_load, ev, Env.get, Option.getD_some, ↓reduceIte, Nat.reduceEqDiff]
        refine Lt_loadAt1 Try.underlying4 rfl hbA ldA ?_
        exact ⟨rfl, Le.refl _⟩
      simp only [NextH, Env.putO, Env.put, ↓reduceIte, Nat.reduceEqDiff, upd_upd, Int.reduceToNat]
      apply TW_pure rfl (lt_some (by decide)) rfl
      · intro r
        simp only [x_move, ev, Env.get, Option.getD_some, ↓reduceIte, Nat.reduceEqDiff]
        exact ⟨rfl, Le.refl _⟩
      simp only [NextH, Env.putO, Env.put, ↓reduceIte, Nat.reduceEqDiff, upd_upd, Int.reduceToNat]
      apply TW_pure rfl (lt_some (by decide)) rfl
      · intro r
        simp only [x_build, bp25, List.map_toArray, List.map_cons, List.map_nil, ev, Env.get, Option.getD_some, ↓reduceIte, Nat.reduceEqDiff]
        rw [fill_one rfl clA bdA]
        rw [fill_one rfl clA bdA]
        simp only [fill_nil, orF_some, List.setIfInBounds_toArray, List.set_cons_zero, List.set_cons_succ]
        exact ⟨rfl, Le.refl _⟩
      simp only [NextH, Env.putO, Env.put, ↓reduceIte, Nat.reduceEqDiff, upd_upd, Int.reduceToNat]
      refine TW_chain rfl (lt_some (by decide)) rfl (fun K hK r => ?_)
      simp only [x_callF _ bd27, List.map_toArray, List.map_cons, List.map_nil, ev, Env.get, Option.getD_some, ↓reduceIte, Nat.reduceEqDiff, NextH, Env.putO, Env.put, ↓reduceIte, Nat.reduceEqDiff, upd_upd, Int.reduceToNat]
      refine (trim_ok _ _ ba _ (hr.le lhA) ⟨_, _, rfl, hcr⟩ dr (by omega)).mono ?_
      rintro v59 H59 ⟨hH59, b59, l59, hb59, hdec59, hbv59⟩
      have hH59 := hH59.symm; subst hH59
      obtain ⟨x59, rfl, hx59, hcx59, dx59, nx59, lx59⟩ := hb59
      obtain ⟨a59, c59, rfl, hcc59⟩ := hcx59
      try simp only [ev, Env.get, Option.getD_some, ↓reduceIte, Nat.reduceEqDiff, NextH, Env.putO, Env.put, ↓reduceIte, Nat.reduceEqDiff, upd_upd, Int.reduceToNat]
      refine hK _ _ leA ?_; clear hK K
      refine TW_chain rfl (lt_none) rfl (fun K hK r => ?_)
      simp only [x_store, ev, Env.get, Option.getD_some, ↓reduceIte, Nat.reduceEqDiff, NextH, Env.putO, Env.put, ↓reduceIte, Nat.reduceEqDiff, upd_upd, Int.reduceToNat]
      first | refine Lt_storeAll sz25 bdA hbA bdA plA (by decide) ?_ | refine Lt_storeAtA sz25 bdA hbA bdA plA (by decide) ?_
      try simp only [ev, Env.get, Option.getD_some, ↓reduceIte, Nat.reduceEqDiff, NextH, Env.putO, Env.put, ↓reduceIte, Nat.reduceEqDiff, upd_upd, Int.reduceToNat]
      refine hK _ _ leA ?_; clear hK K
      refine TW_last rfl (lt_none) rfl (fun K hK r => ?_)
      simp only [x_store, ev, Env.get, Option.getD_some, ↓reduceIte, Nat.reduceEqDiff, NextH, Env.putO, Env.put, ↓reduceIte, Nat.reduceEqDiff, upd_upd, Int.reduceToNat]
      first | refine Lt_storeAll sz25 bdA hbA bdA plA (by decide) ?_ | refine Lt_storeAtA sz25 bdA hbA bdA plA (by decide) ?_
      try simp only [ev, Env.get, Option.getD_some, ↓reduceIte, Nat.reduceEqDiff, NextH, Env.putO, Env.put, ↓reduceIte, Nat.reduceEqDiff, upd_upd, Int.reduceToNat]
      refine hK _ _ ?_; clear hK K
      refine TW_nil ?_
      try simp only [Ex.thnH, Ex.inBlockH, ↓reduceIte, Nat.reduceEqDiff]
      refine hK14 _ _ ?_; try clear hK14 K14
      refine CW_ret ?_
      try simp only [Ex.thnH, Ex.inBlockH, ↓reduceIte, Nat.reduceEqDiff]
      obtain rfl : k = 0 := by omega
      rw [List.drop_zero] at hval
      have hsg := div_sign hval (dec_nonneg dr) hrb (dec_nonneg da) ba bb
      refine ⟨[_, _], ⟨⟨_, rfl, Lq_loadAll Try.underlying25 rfl sz25 hbA bdA⟩, ⟨_, rfl, Lq_loadAll Try.underlying25 rfl sz25 hbA bdA⟩, trivial⟩, _, Le.refl _, lhA, _, _, b54, l54, b59, l59, rfl, ⟨_, rfl, (hx54.upd_big hbA (by simp) (by simp)).upd_big hbA (by simp) (by simp), ⟨_, _, rfl, hcc54⟩, dx54, nx54, by omega⟩, ⟨_, rfl, (hx59.upd_big hbA (by simp) (by simp)).upd_big hbA (by simp) (by simp), ⟨_, _, rfl, hcc59⟩, dx59, nx59, by omega⟩, ?_, ?_⟩
      · rw [hbv54]; exact hsg.1
      · rw [hbv59]; exact hsg.2

end Go.Proofs.Ytbeepknfcjejkaa.HL
