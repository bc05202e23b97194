/- Contracts of functions of the program, walked through. -/
import Derived.Test.YthpflieimocfbaaT4
import Derived.Test.YthpflieimocfbaaS04Ty
namespace Go.Proofs.Ythpflieimocfbaa.HL
open Go Go.Proofs
set_option linter.unusedSimpArgs false
set_option linter.unusedVariables false
attribute [local irreducible] Lt Lq CW OW TW CallH

set_option maxRecDepth 100000 in
set_option maxHeartbeats 1000000 in
theorem rSeal_ok (H : Hp) (st kd : Int) (data : Value) (l : List Int) (hd : Holds H 1 data l.length (u8s l)) :
    CallH Try.prog 11 #[.agg #[.int .i64 st, .int .i64 kd, data]] H (fun v H' => v = .tuple #[.agg (u8s (sealI st kd l)).toArray, .int .i64 ((badI st kd l).getD 0)] ∧ H' = H) := by
  refine CallH_enter (l := [_]) (rl := [.cell 2 28, .tmp 3]) (n := 77) Try.func11 rfl rfl rfl rfl rfl ?_
  simp only [envOf, Nat.reduceAdd]
  obtain ⟨a, cap, rfl⟩ := hd.form
  refine CW_seq (fun K1 hK1 => ?_)
  refine CW_region ?_
  refine OW_op rfl (lt_some (by decide)) (fun K hK r => ?_)
  simp only [x_box, Value.cells, ev, Env.get, Option.getD_some, ↓reduceIte, Nat.reduceEqDiff, NextH, Env.putO, Env.put, ↓reduceIte, Nat.reduceEqDiff, upd_upd, Int.reduceToNat]
  intro b1 hb1
  have f1_H : H b1 = none := none_of_le lhA hb1
  try simp only [ev, Env.get, Option.getD_some, ↓reduceIte, Nat.reduceEqDiff, NextH, Env.putO, Env.put, ↓reduceIte, Nat.reduceEqDiff, upd_upd, Int.reduceToNat]
  refine hK _ _ ?_; clear hK K
  refine OW_op rfl (lt_some (by decide)) (fun K hK r => ?_)
  simp only [x_alloc, zr28, orF_some, Value.cells, ev, Env.get, Option.getD_some, ↓reduceIte, Nat.reduceEqDiff, NextH, Env.putO, Env.put, ↓reduceIte, Nat.reduceEqDiff, upd_upd, Int.reduceToNat]
  intro b2 hb2
  have n2_b1 : b1 ≠ b2 := ne_of_none hbA hb2
  have f2_H : H b2 = none := none_of_le lhA hb2
  try simp only [ev, Env.get, Option.getD_some, ↓reduceIte, Nat.reduceEqDiff, NextH, Env.putO, Env.put, ↓reduceIte, Nat.reduceEqDiff, upd_upd, Int.reduceToNat]
  refine hK _ _ ?_; clear hK K
  refine OW_op rfl (lt_some (by decide)) (fun K hK r => ?_)
  simp only [x_assign, ev, Env.get, Option.getD_some, ↓reduceIte, Nat.reduceEqDiff, NextH, Env.putO, Env.put, ↓reduceIte, Nat.reduceEqDiff, upd_upd, Int.reduceToNat]
  refine hK _ _ ?_; clear hK K
  refine OW_nil ?_
  try simp only [Ex.thnH, Ex.inBlockH, ↓reduceIte, Nat.reduceEqDiff]
  refine hK1 _ _ ?_; try clear hK1 K1
  refine CW_seq (fun K2 hK2 => ?_)
  refine CW_region ?_
  refine OW_op rfl (lt_some (by decide)) (fun K hK r => ?_)
  simp only [x_build, List.map_toArray, List.map_cons, List.map_nil, ev, Env.get, Option.getD_some, ↓reduceIte, Nat.reduceEqDiff, NextH, Env.putO, Env.put, ↓reduceIte, Nat.reduceEqDiff, upd_upd, Int.reduceToNat]
  rw [l_buildArr Try.underlying28 sz5 zr28]
  simp only [Value.cells]
  simp only [fill_nil, orF_some, List.setIfInBounds_toArray, List.set_cons_zero, List.set_cons_succ]
  try simp only [ev, Env.get, Option.getD_some, ↓reduceIte, Nat.reduceEqDiff, NextH, Env.putO, Env.put, ↓reduceIte, Nat.reduceEqDiff, upd_upd, Int.reduceToNat]
  refine hK _ _ ?_; clear hK K
  refine OW_op rfl (lt_some (by decide)) (fun K hK r => ?_)
  simp only [x_alloc, zr28, orF_some, Value.cells, ev, Env.get, Option.getD_some, ↓reduceIte, Nat.reduceEqDiff, NextH, Env.putO, Env.put, ↓reduceIte, Nat.reduceEqDiff, upd_upd, Int.reduceToNat]
  intro b4 hb4
  have n4_b1 : b1 ≠ b4 := ne_of_none hbA hb4
  have n4_b2 : b2 ≠ b4 := ne_of_none hbA hb4
  have f4_H : H b4 = none := none_of_le lhA hb4
  try simp only [ev, Env.get, Option.getD_some, ↓reduceIte, Nat.reduceEqDiff, NextH, Env.putO, Env.put, ↓reduceIte, Nat.reduceEqDiff, upd_upd, Int.reduceToNat]
  refine hK _ _ ?_; clear hK K
  refine OW_op rfl (lt_none) (fun K hK r => ?_)
  simp only [x_store, ev, Env.get, Option.getD_some, ↓reduceIte, Nat.reduceEqDiff, NextH, Env.putO, Env.put, ↓reduceIte, Nat.reduceEqDiff, upd_upd, Int.reduceToNat]
  first | refine Lt_storeAll sz28 bdA hbA bdA plA (by decide) ?_ | refine Lt_storeAtA sz28 bdA hbA bdA plA (by decide) ?_
  try simp only [ev, Env.get, Option.getD_some, ↓reduceIte, Nat.reduceEqDiff, NextH, Env.putO, Env.put, ↓reduceIte, Nat.reduceEqDiff, upd_upd, Int.reduceToNat]
  refine hK _ _ ?_; clear hK K
  refine OW_nil ?_
  try simp only [Ex.thnH, Ex.inBlockH, ↓reduceIte, Nat.reduceEqDiff]
  refine hK2 _ _ ?_; try clear hK2 K2
  refine CW_seq (fun K3 hK3 => ?_)
  refine CW_seq (fun K4 hK4 => ?_)
  refine CW_region ?_
  refine OW_op rfl (lt_some (by decide)) (fun K hK r => ?_)
  simp only [x_fieldAddr, fa24_0, add_mk, Nat.reduceAdd, Nat.zero_add, ev, Env.get, Option.getD_some, ↓reduceIte, Nat.reduceEqDiff, NextH, Env.putO, Env.put, ↓reduceIte, Nat.reduceEqDiff, upd_upd, Int.reduceToNat]
  refine hK _ _ ?_; clear hK K
  refine OW_op rfl (lt_some (by decide)) (fun K hK r => ?_)
  simp only [x_load, ev, Env.get, Option.getD_some, ↓reduceIte, Nat.reduceEqDiff, NextH, Env.putO, Env.put, ↓reduceIte, Nat.reduceEqDiff, upd_upd, Int.reduceToNat]
  refine Lt_loadAt1 Try.underlying3 rfl hbA ldA ?_
  try simp only [ev, Env.get, Option.getD_some, ↓reduceIte, Nat.reduceEqDiff, NextH, Env.putO, Env.put, ↓reduceIte, Nat.reduceEqDiff, upd_upd, Int.reduceToNat]
  refine hK _ _ ?_; clear hK K
  refine OW_op rfl (lt_some (by decide)) (fun K hK r => ?_)
  simp (disch := (first | omega | decide)) only [x_bin, g_int, b_lss, dec_lt_t, dec_lt_f, dec_le_t, dec_le_f, dec_eq_t, dec_eq_f, Bool.not_true, Bool.not_false, ev, Env.get, Option.getD_some, ↓reduceIte, Nat.reduceEqDiff, NextH, Env.putO, Env.put, ↓reduceIte, Nat.reduceEqDiff, upd_upd, Int.reduceToNat]
  refine hK _ _ ?_; clear hK K
  refine OW_op rfl (lt_some (by decide)) (fun K hK r => ?_)
  simp only [x_move, ev, Env.get, Option.getD_some, ↓reduceIte, Nat.reduceEqDiff, NextH, Env.putO, Env.put, ↓reduceIte, Nat.reduceEqDiff, upd_upd, Int.reduceToNat]
  refine hK _ _ ?_; clear hK K
  (first | refine OW_split (d := 12) rfl (fun g12 => ?_) (fun g12 => ?_) | skip)
  all_goals try (exfalso; exact cnA g12)
  all_goals (try simp only [decide_eq_true_eq, decide_eq_false_iff_not, Bool.not_eq_true, Bool.not_eq_false, Bool.and_eq_true, Bool.or_eq_true, Bool.or_eq_false_iff, Bool.not_eq_true, Bool.not_eq_eq_eq_not, Bool.not_true, Bool.not_false] at g12)
  all_goals
    try simp only [NextH, Env.putO, Env.put, ↓reduceIte, Nat.reduceEqDiff, upd_upd, Int.reduceToNat]
    first
    | refine OW_guardT rfl (lt_some (by decide)) rfl (fun K hK r => ?_)
      simp only [x_fieldAddr, fa24_0, add_mk, Nat.reduceAdd, Nat.zero_add, ev, Env.get, Option.getD_some, ↓reduceIte, Nat.reduceEqDiff, NextH, Env.putO, Env.put, ↓reduceIte, Nat.reduceEqDiff, upd_upd, Int.reduceToNat]
      refine hK _ _ ?_; clear hK K
    | refine OW_guardF rfl (lt_some (by decide)) rfl ?_
      simp only [NextH, Env.putO, Env.put, ↓reduceIte, Nat.reduceEqDiff, upd_upd, Int.reduceToNat]
    first
    | refine OW_guardT rfl (lt_some (by decide)) rfl (fun K hK r => ?_)
      simp only [x_load, ev, Env.get, Option.getD_some, ↓reduceIte, Nat.reduceEqDiff, NextH, Env.putO, Env.put, ↓reduceIte, Nat.reduceEqDiff, upd_upd, Int.reduceToNat]
      refine Lt_loadAt1 Try.underlying3 rfl hbA ldA ?_
      try simp only [ev, Env.get, Option.getD_some, ↓reduceIte, Nat.reduceEqDiff, NextH, Env.putO, Env.put, ↓reduceIte, Nat.reduceEqDiff, upd_upd, Int.reduceToNat]
      refine hK _ _ ?_; clear hK K
    | refine OW_guardF rfl (lt_some (by decide)) rfl ?_
      simp only [NextH, Env.putO, Env.put, ↓reduceIte, Nat.reduceEqDiff, upd_upd, Int.reduceToNat]
    first
    | refine OW_guardT rfl (lt_some (by decide)) rfl (fun K hK r => ?_)
      simp (disch := (first | omega | decide)) only [x_bin, g_int, b_gtr, dec_lt_t, dec_lt_f, dec_le_t, dec_le_f, dec_eq_t, dec_eq_f, Bool.not_true, Bool.not_false, ev, Env.get, Option.getD_some, ↓reduceIte, Nat.reduceEqDiff, NextH, Env.putO, Env.put, ↓reduceIte, Nat.reduceEqDiff, upd_upd, Int.reduceToNat]
      refine hK _ _ ?_; clear hK K
    | refine OW_guardF rfl (lt_some (by decide)) rfl ?_
      simp only [NextH, Env.putO, Env.put, ↓reduceIte, Nat.reduceEqDiff, upd_upd, Int.reduceToNat]
    refine OW_op rfl (lt_some (by decide)) (fun K hK r => ?_)
    simp only [x_pick, l_asBool, HL.ite_bool, if_true, if_false, Bool.false_eq_true, ev, Env.get, Option.getD_some, ↓reduceIte, Nat.reduceEqDiff, NextH, Env.putO, Env.put, ↓reduceIte, Nat.reduceEqDiff, upd_upd, Int.reduceToNat]
    refine hK _ _ ?_; clear hK K
    refine OW_op rfl (lt_some (by decide)) (fun K hK r => ?_)
    simp only [x_move, ev, Env.get, Option.getD_some, ↓reduceIte, Nat.reduceEqDiff, NextH, Env.putO, Env.put, ↓reduceIte, Nat.reduceEqDiff, upd_upd, Int.reduceToNat]
    refine hK _ _ ?_; clear hK K
    (first | refine OW_split (d := 17) rfl (fun g17 => ?_) (fun g17 => ?_) | skip)
    all_goals try (exfalso; exact cnA g17)
    all_goals (try simp only [decide_eq_true_eq, decide_eq_false_iff_not, Bool.not_eq_true, Bool.not_eq_false, Bool.and_eq_true, Bool.or_eq_true, Bool.or_eq_false_iff, Bool.not_eq_true, Bool.not_eq_eq_eq_not, Bool.not_true, Bool.not_false] at g17)
    all_goals
      try simp only [NextH, Env.putO, Env.put, ↓reduceIte, Nat.reduceEqDiff, upd_upd, Int.reduceToNat]
      first
      | refine OW_guardT rfl (lt_some (by decide)) rfl (fun K hK r => ?_)
        simp only [x_fieldAddr, fa24_1, add_mk, Nat.reduceAdd, Nat.zero_add, ev, Env.get, Option.getD_some, ↓reduceIte, Nat.reduceEqDiff, NextH, Env.putO, Env.put, ↓reduceIte, Nat.reduceEqDiff, upd_upd, Int.reduceToNat]
        refine hK _ _ ?_; clear hK K
      | refine OW_guardF rfl (lt_some (by decide)) rfl ?_
        simp only [NextH, Env.putO, Env.put, ↓reduceIte, Nat.reduceEqDiff, upd_upd, Int.reduceToNat]
      first
      | refine OW_guardT rfl (lt_some (by decide)) rfl (fun K hK r => ?_)
        simp only [x_load, ev, Env.get, Option.getD_some, ↓reduceIte, Nat.reduceEqDiff, NextH, Env.putO, Env.put, ↓reduceIte, Nat.reduceEqDiff, upd_upd, Int.reduceToNat]
        refine Lt_loadAt1 Try.underlying3 rfl hbA ldA ?_
        try simp only [ev, Env.get, Option.getD_some, ↓reduceIte, Nat.reduceEqDiff, NextH, Env.putO, Env.put, ↓reduceIte, Nat.reduceEqDiff, upd_upd, Int.reduceToNat]
        refine hK _ _ ?_; clear hK K
      | refine OW_guardF rfl (lt_some (by decide)) rfl ?_
        simp only [NextH, Env.putO, Env.put, ↓reduceIte, Nat.reduceEqDiff, upd_upd, Int.reduceToNat]
      first
      | refine OW_guardT rfl (lt_some (by decide)) rfl (fun K hK r => ?_)
        simp (disch := (first | omega | decide)) only [x_bin, g_int, b_lss, dec_lt_t, dec_lt_f, dec_le_t, dec_le_f, dec_eq_t, dec_eq_f, Bool.not_true, Bool.not_false, ev, Env.get, Option.getD_some, ↓reduceIte, Nat.reduceEqDiff, NextH, Env.putO, Env.put, ↓reduceIte, Nat.reduceEqDiff, upd_upd, Int.reduceToNat]
        refine hK _ _ ?_; clear hK K
      | refine OW_guardF rfl (lt_some (by decide)) rfl ?_
        simp only [NextH, Env.putO, Env.put, ↓reduceIte, Nat.reduceEqDiff, upd_upd, Int.reduceToNat]
      refine OW_op rfl (lt_some (by decide)) (fun K hK r => ?_)
      simp only [x_pick, l_asBool, HL.ite_bool, if_true, if_false, Bool.false_eq_true, ev, Env.get, Option.getD_some, ↓reduceIte, Nat.reduceEqDiff, NextH, Env.putO, Env.put, ↓reduceIte, Nat.reduceEqDiff, upd_upd, Int.reduceToNat]
      refine hK _ _ ?_; clear hK K
      refine OW_op rfl (lt_some (by decide)) (fun K hK r => ?_)
      simp only [x_move, ev, Env.get, Option.getD_some, ↓reduceIte, Nat.reduceEqDiff, NextH, Env.putO, Env.put, ↓reduceIte, Nat.reduceEqDiff, upd_upd, Int.reduceToNat]
      refine hK _ _ ?_; clear hK K
      (first | refine OW_split (d := 22) rfl (fun g22 => ?_) (fun g22 => ?_) | skip)
      all_goals try (exfalso; exact cnA g22)
      all_goals (try simp only [decide_eq_true_eq, decide_eq_false_iff_not, Bool.not_eq_true, Bool.not_eq_false, Bool.and_eq_true, Bool.or_eq_true, Bool.or_eq_false_iff, Bool.not_eq_true, Bool.not_eq_eq_eq_not, Bool.not_true, Bool.not_false] at g22)
      all_goals
        try simp only [NextH, Env.putO, Env.put, ↓reduceIte, Nat.reduceEqDiff, upd_upd, Int.reduceToNat]
        first
        | refine OW_guardT rfl (lt_some (by decide)) rfl (fun K hK r => ?_)
          simp only [x_fieldAddr, fa24_1, add_mk, Nat.reduceAdd, Nat.zero_add, ev, Env.get, Option.getD_some, ↓reduceIte, Nat.reduceEqDiff, NextH, Env.putO, Env.put, ↓reduceIte, Nat.reduceEqDiff, upd_upd, Int.reduceToNat]
          refine hK _ _ ?_; clear hK K
        | refine OW_guardF rfl (lt_some (by decide)) rfl ?_
          simp only [NextH, Env.putO, Env.put, ↓reduceIte, Nat.reduceEqDiff, upd_upd, Int.reduceToNat]
        first
        | refine OW_guardT rfl (lt_some (by decide)) rfl (fun K hK r => ?_)
          simp only [x_load, ev, Env.get, Option.getD_some, ↓reduceIte, Nat.reduceEqDiff, NextH, Env.putO, Env.put, ↓reduceIte, Nat.reduceEqDiff, upd_upd, Int.reduceToNat]
          refine Lt_loadAt1 Try.underlying3 rfl hbA ldA ?_
          try simp only [ev, Env.get, Option.getD_some, ↓reduceIte, Nat.reduceEqDiff, NextH, Env.putO, Env.put, ↓reduceIte, Nat.reduceEqDiff, upd_upd, Int.reduceToNat]
          refine hK _ _ ?_; clear hK K
        | refine OW_guardF rfl (lt_some (by decide)) rfl ?_
          simp only [NextH, Env.putO, Env.put, ↓reduceIte, Nat.reduceEqDiff, upd_upd, Int.reduceToNat]
        first
        | refine OW_guardT rfl (lt_some (by decide)) rfl (fun K hK r => ?_)
          simp (disch := (first | omega | decide)) only [x_bin, g_int, b_gtr, dec_lt_t, dec_lt_f, dec_le_t, dec_le_f, dec_eq_t, dec_eq_f, Bool.not_true, Bool.not_false, ev, Env.get, Option.getD_some, ↓reduceIte, Nat.reduceEqDiff, NextH, Env.putO, Env.put, ↓reduceIte, Nat.reduceEqDiff, upd_upd, Int.reduceToNat]
          refine hK _ _ ?_; clear hK K
        | refine OW_guardF rfl (lt_some (by decide)) rfl ?_
          simp only [NextH, Env.putO, Env.put, ↓reduceIte, Nat.reduceEqDiff, upd_upd, Int.reduceToNat]
        refine OW_op rfl (lt_some (by decide)) (fun K hK r => ?_)
        simp only [x_pick, l_asBool, HL.ite_bool, if_true, if_false, Bool.false_eq_true, ev, Env.get, Option.getD_some, ↓reduceIte, Nat.reduceEqDiff, NextH, Env.putO, Env.put, ↓reduceIte, Nat.reduceEqDiff, upd_upd, Int.reduceToNat]
        refine hK _ _ ?_; clear hK K
        refine OW_nil ?_
        try simp only [Ex.thnH, Ex.inBlockH, ↓reduceIte, Nat.reduceEqDiff]
        refine hK4 _ _ ?_; try clear hK4 K4
        refine CW_cond (fun r => rfl) (fun c26 => ?_) (fun c26 => ?_)
        · first
          | (exfalso; exact cnA c26; done)
          | skip
            (try simp only [decide_eq_true_eq, decide_eq_false_iff_not, Bool.not_eq_true, Bool.not_eq_false, Bool.and_eq_true, Bool.or_eq_true, Bool.or_eq_false_iff, Bool.not_eq_true, Bool.not_eq_eq_eq_not, Bool.not_true, Bool.not_false] at c26)
            refine CW_seq (fun K5 hK5 => ?_)
            refine CW_region ?_
            refine OW_op rfl (lt_some (by decide)) (fun K hK r => ?_)
            simp only [x_load, ev, Env.get, Option.getD_some, ↓reduceIte, Nat.reduceEqDiff, NextH, Env.putO, Env.put, ↓reduceIte, Nat.reduceEqDiff, upd_upd, Int.reduceToNat]
            first | refine Lt_loadAll Try.underlying28 rfl sz28 hbA bdA ?_ | refine Lt_loadAtA Try.underlying28 rfl sz28 hbA bdA ?_
            try simp only [ev, Env.get, Option.getD_some, ↓reduceIte, Nat.reduceEqDiff, NextH, Env.putO, Env.put, ↓reduceIte, Nat.reduceEqDiff, upd_upd, Int.reduceToNat]
            refine hK _ _ ?_; clear hK K
            refine OW_op rfl (lt_none) (fun K hK r => ?_)
            simp only [x_store, ev, Env.get, Option.getD_some, ↓reduceIte, Nat.reduceEqDiff, NextH, Env.putO, Env.put, ↓reduceIte, Nat.reduceEqDiff, upd_upd, Int.reduceToNat]
            first | refine Lt_storeAll sz28 bdA hbA bdA plA (by decide) ?_ | refine Lt_storeAtA sz28 bdA hbA bdA plA (by decide) ?_
            try simp only [ev, Env.get, Option.getD_some, ↓reduceIte, Nat.reduceEqDiff, NextH, Env.putO, Env.put, ↓reduceIte, Nat.reduceEqDiff, upd_upd, Int.reduceToNat]
            refine hK _ _ ?_; clear hK K
            refine OW_op rfl (lt_some (by decide)) (fun K hK r => ?_)
            simp only [x_assign, ev, Env.get, Option.getD_some, ↓reduceIte, Nat.reduceEqDiff, NextH, Env.putO, Env.put, ↓reduceIte, Nat.reduceEqDiff, upd_upd, Int.reduceToNat]
            refine hK _ _ ?_; clear hK K
            refine OW_nil ?_
            try simp only [Ex.thnH, Ex.inBlockH, ↓reduceIte, Nat.reduceEqDiff]
            refine hK5 _ _ ?_; try clear hK5 K5
            refine CW_ret ?_
            try simp only [Ex.thnH, Ex.inBlockH, ↓reduceIte, Nat.reduceEqDiff]
            have hb : badI st kd l = some 1 := by simp only [badI]; rw [if_pos (by omega)]
            refine ⟨[_, _], ⟨⟨_, rfl, Lq_loadAll Try.underlying28 rfl sz28 hbA bdA⟩, rfl, trivial⟩, H, lhA, ?_, rfl⟩
            show Value.tuple #[_, _] = _
            rw [sealI, hb]; simp only [zero_cells]; rfl
        · first
          | (exfalso; exact cnA c26; done)
          | skip
            (try simp only [decide_eq_true_eq, decide_eq_false_iff_not, Bool.not_eq_true, Bool.not_eq_false, Bool.and_eq_true, Bool.or_eq_true, Bool.or_eq_false_iff, Bool.not_eq_true, Bool.not_eq_eq_eq_not, Bool.not_true, Bool.not_false] at c26)
            refine CW_skip ?_
            try simp only [Ex.thnH, Ex.inBlockH, ↓reduceIte, Nat.reduceEqDiff]
            refine hK3 _ _ ?_; try clear hK3 K3
            refine CW_seq (fun K6 hK6 => ?_)
            refine CW_seq (fun K7 hK7 => ?_)
            refine CW_region ?_
            refine OW_op rfl (lt_some (by decide)) (fun K hK r => ?_)
            simp only [x_fieldAddr, fa24_2, add_mk, Nat.reduceAdd, Nat.zero_add, ev, Env.get, Option.getD_some, ↓reduceIte, Nat.reduceEqDiff, NextH, Env.putO, Env.put, ↓reduceIte, Nat.reduceEqDiff, upd_upd, Int.reduceToNat]
            refine hK _ _ ?_; clear hK K
            refine OW_op rfl (lt_some (by decide)) (fun K hK r => ?_)
            simp only [x_load, ev, Env.get, Option.getD_some, ↓reduceIte, Nat.reduceEqDiff, NextH, Env.putO, Env.put, ↓reduceIte, Nat.reduceEqDiff, upd_upd, Int.reduceToNat]
            refine Lt_loadAt1 Try.underlying22 rfl hbA ldA ?_
            try simp only [ev, Env.get, Option.getD_some, ↓reduceIte, Nat.reduceEqDiff, NextH, Env.putO, Env.put, ↓reduceIte, Nat.reduceEqDiff, upd_upd, Int.reduceToNat]
            refine hK _ _ ?_; clear hK K
            refine OW_op rfl (lt_some (by decide)) (fun K hK r => ?_)
            simp only [x_builtin, l_len, List.map_toArray, List.map_cons, List.map_nil, i_len_slice _ _ Try.underlying22, ev, Env.get, Option.getD_some, ↓reduceIte, Nat.reduceEqDiff, NextH, Env.putO, Env.put, ↓reduceIte, Nat.reduceEqDiff, upd_upd, Int.reduceToNat]
            refine hK _ _ ?_; clear hK K
            refine OW_op rfl (lt_some (by decide)) (fun K hK r => ?_)
            simp (disch := (first | omega | decide)) only [x_bin, g_int, b_gtr, dec_lt_t, dec_lt_f, dec_le_t, dec_le_f, dec_eq_t, dec_eq_f, Bool.not_true, Bool.not_false, ev, Env.get, Option.getD_some, ↓reduceIte, Nat.reduceEqDiff, NextH, Env.putO, Env.put, ↓reduceIte, Nat.reduceEqDiff, upd_upd, Int.reduceToNat]
            refine hK _ _ ?_; clear hK K
            refine OW_nil ?_
            try simp only [Ex.thnH, Ex.inBlockH, ↓reduceIte, Nat.reduceEqDiff]
            refine hK7 _ _ ?_; try clear hK7 K7
            refine CW_cond (fun r => rfl) (fun c31 => ?_) (fun c31 => ?_)
            · first
              | (exfalso; exact cnA c31; done)
              | skip
                (try simp only [decide_eq_true_eq, decide_eq_false_iff_not, Bool.not_eq_true, Bool.not_eq_false, Bool.and_eq_true, Bool.or_eq_true, Bool.or_eq_false_iff, Bool.not_eq_true, Bool.not_eq_eq_eq_not, Bool.not_true, Bool.not_false] at c31)
                refine CW_seq (fun K8 hK8 => ?_)
                refine CW_region ?_
                refine OW_op rfl (lt_some (by decide)) (fun K hK r => ?_)
                simp only [x_load, ev, Env.get, Option.getD_some, ↓reduceIte, Nat.reduceEqDiff, NextH, Env.putO, Env.put, ↓reduceIte, Nat.reduceEqDiff, upd_upd, Int.reduceToNat]
                first | refine Lt_loadAll Try.underlying28 rfl sz28 hbA bdA ?_ | refine Lt_loadAtA Try.underlying28 rfl sz28 hbA bdA ?_
                try simp only [ev, Env.get, Option.getD_some, ↓reduceIte, Nat.reduceEqDiff, NextH, Env.putO, Env.put, ↓reduceIte, Nat.reduceEqDiff, upd_upd, Int.reduceToNat]
                refine hK _ _ ?_; clear hK K
                refine OW_op rfl (lt_none) (fun K hK r => ?_)
                simp only [x_store, ev, Env.get, Option.getD_some, ↓reduceIte, Nat.reduceEqDiff, NextH, Env.putO, Env.put, ↓reduceIte, Nat.reduceEqDiff, upd_upd, Int.reduceToNat]
                first | refine Lt_storeAll sz28 bdA hbA bdA plA (by decide) ?_ | refine Lt_storeAtA sz28 bdA hbA bdA plA (by decide) ?_
                try simp only [ev, Env.get, Option.getD_some, ↓reduceIte, Nat.reduceEqDiff, NextH, Env.putO, Env.put, ↓reduceIte, Nat.reduceEqDiff, upd_upd, Int.reduceToNat]
                refine hK _ _ ?_; clear hK K
                refine OW_op rfl (lt_some (by decide)) (fun K hK r => ?_)
                simp only [x_assign, ev, Env.get, Option.getD_some, ↓reduceIte, Nat.reduceEqDiff, NextH, Env.putO, Env.put, ↓reduceIte, Nat.reduceEqDiff, upd_upd, Int.reduceToNat]
                refine hK _ _ ?_; clear hK K
                refine OW_nil ?_
                try simp only [Ex.thnH, Ex.inBlockH, ↓reduceIte, Nat.reduceEqDiff]
                refine hK8 _ _ ?_; try clear hK8 K8
                refine CW_ret ?_
                try simp only [Ex.thnH, Ex.inBlockH, ↓reduceIte, Nat.reduceEqDiff]
                have hb : badI st kd l = some 2 := by simp only [badI]; rw [if_neg (by omega), if_pos (by omega)]
                refine ⟨[_, _], ⟨⟨_, rfl, Lq_loadAll Try.underlying28 rfl sz28 hbA bdA⟩, rfl, trivial⟩, H, lhA, ?_, rfl⟩
                show Value.tuple #[_, _] = _
                rw [sealI, hb]; simp only [zero_cells]; rfl
            · first
              | (exfalso; exact cnA c31; done)
              | skip
                (try simp only [decide_eq_true_eq, decide_eq_false_iff_not, Bool.not_eq_true, Bool.not_eq_false, Bool.and_eq_true, Bool.or_eq_true, Bool.or_eq_false_iff, Bool.not_eq_true, Bool.not_eq_eq_eq_not, Bool.not_true, Bool.not_false] at c31)
                refine CW_skip ?_
                try simp only [Ex.thnH, Ex.inBlockH, ↓reduceIte, Nat.reduceEqDiff]
                refine hK6 _ _ ?_; try clear hK6 K6
                refine CW_seq (fun K9 hK9 => ?_)
                refine CW_region ?_
                refine OW_op rfl (lt_some (by decide)) (fun K hK r => ?_)
                simp only [x_fieldAddr, fa24_0, add_mk, Nat.reduceAdd, Nat.zero_add, ev, Env.get, Option.getD_some, ↓reduceIte, Nat.reduceEqDiff, NextH, Env.putO, Env.put, ↓reduceIte, Nat.reduceEqDiff, upd_upd, Int.reduceToNat]
                refine hK _ _ ?_; clear hK K
                refine OW_op rfl (lt_some (by decide)) (fun K hK r => ?_)
                simp only [x_load, ev, Env.get, Option.getD_some, ↓reduceIte, Nat.reduceEqDiff, NextH, Env.putO, Env.put, ↓reduceIte, Nat.reduceEqDiff, upd_upd, Int.reduceToNat]
                refine Lt_loadAt1 Try.underlying3 rfl hbA ldA ?_
                try simp only [ev, Env.get, Option.getD_some, ↓reduceIte, Nat.reduceEqDiff, NextH, Env.putO, Env.put, ↓reduceIte, Nat.reduceEqDiff, upd_upd, Int.reduceToNat]
                refine hK _ _ ?_; clear hK K
                refine OW_op rfl (lt_some (by decide)) (fun K hK r => ?_)
                simp only [x_assign, ev, Env.get, Option.getD_some, ↓reduceIte, Nat.reduceEqDiff, NextH, Env.putO, Env.put, ↓reduceIte, Nat.reduceEqDiff, upd_upd, Int.reduceToNat]
                refine hK _ _ ?_; clear hK K
                refine OW_nil ?_
                try simp only [Ex.thnH, Ex.inBlockH, ↓reduceIte, Nat.reduceEqDiff]
                refine hK9 _ _ ?_; try clear hK9 K9
                refine CW_seq (fun K10 hK10 => ?_)
                refine CW_seq (fun K11 hK11 => ?_)
                refine CW_region ?_
                refine OW_op rfl (lt_some (by decide)) (fun K hK r => ?_)
                simp only [x_assign, ev, Env.get, Option.getD_some, ↓reduceIte, Nat.reduceEqDiff, NextH, Env.putO, Env.put, ↓reduceIte, Nat.reduceEqDiff, upd_upd, Int.reduceToNat]
                refine hK _ _ ?_; clear hK K
                refine OW_nil ?_
                try simp only [Ex.thnH, Ex.inBlockH, ↓reduceIte, Nat.reduceEqDiff]
                refine hK11 _ _ ?_; try clear hK11 K11
                refine CW_block ?_
                refine CW_loop (fun m e H_ => ∃ k : Nat, k ≤ 6 ∧ m = 6 - k ∧ Env.has [(1, .pointer (some ⟨b1, 0, none⟩)), (2, .pointer (some ⟨b2, 0, none⟩)), (4, .pointer (some ⟨b4, 0, none⟩)), (5, .int .i64 (dvK k st)), (6, .int .i64 k)] e ∧ H_ = ((H.upd b1 (.cells #[.int .i64 st, .int .i64 kd, .slice a l.length cap] 24)).upd b2 (.cells (Array.replicate 64 (.int .u8 0)) 28)).upd b4 (.cells (u8s (refS st k)).toArray 28)) (6) ?_ ?_
                · skip
                  exact ⟨0, by omega, rfl, ⟨rfl, rfl, rfl, rfl, rfl, trivial⟩, rfl⟩
                intro m_ e_ H_ hI_
                obtain ⟨k, hk6, rfl, he, rfl⟩ := hI_
                refine CW_env he.sub ?_; clear he e_
                have hr := dvK_range k st (by omega) (by omega)
                have hsz := refS_size st k hk6
                have e1 : (dvK k st).tmod 256 = dvK k st % 256 := Int.tmod_eq_emod_of_nonneg hr.1
                have e2 : (dvK k st).tdiv 256 = dvK k st / 256 := Int.tdiv_eq_ediv_of_nonneg hr.1
                refine CW_seq (fun K12 hK12 => ?_)
                refine CW_seq (fun K13 hK13 => ?_)
                refine CW_region ?_
                refine OW_op rfl (lt_some (by decide)) (fun K hK r => ?_)
                simp only [x_move, ev, Env.get, Option.getD_some, ↓reduceIte, Nat.reduceEqDiff, NextH, Env.putO, Env.put, ↓reduceIte, Nat.reduceEqDiff, upd_upd, Int.reduceToNat]
                refine hK _ _ ?_; clear hK K
                refine OW_op rfl (lt_some (by decide)) (fun K hK r => ?_)
                simp (disch := (first | omega | decide)) only [x_bin, g_int, b_lss, dec_lt_t, dec_lt_f, dec_le_t, dec_le_f, dec_eq_t, dec_eq_f, Bool.not_true, Bool.not_false, ev, Env.get, Option.getD_some, ↓reduceIte, Nat.reduceEqDiff, NextH, Env.putO, Env.put, ↓reduceIte, Nat.reduceEqDiff, upd_upd, Int.reduceToNat]
                refine hK _ _ ?_; clear hK K
                refine OW_nil ?_
                try simp only [Ex.thnH, Ex.inBlockH, ↓reduceIte, Nat.reduceEqDiff]
                refine hK13 _ _ ?_; try clear hK13 K13
                refine CW_cond (fun r => rfl) (fun c36 => ?_) (fun c36 => ?_)
                · first
                  | (exfalso; exact cnA c36; done)
                  | skip
                    (try simp only [decide_eq_true_eq, decide_eq_false_iff_not, Bool.not_eq_true, Bool.not_eq_false, Bool.and_eq_true, Bool.or_eq_true, Bool.or_eq_false_iff, Bool.not_eq_true, Bool.not_eq_eq_eq_not, Bool.not_true, Bool.not_false] at c36)
                    refine CW_skip ?_
                    try simp only [Ex.thnH, Ex.inBlockH, ↓reduceIte, Nat.reduceEqDiff]
                    refine hK12 _ _ ?_; try clear hK12 K12
                    refine CW_seq (fun K14 hK14 => ?_)
                    refine CW_block ?_
                    refine CW_seq (fun K15 hK15 => ?_)
                    refine CW_region ?_
                    refine OW_op rfl (lt_some (by decide)) (fun K hK r => ?_)
                    simp only [x_move, ev, Env.get, Option.getD_some, ↓reduceIte, Nat.reduceEqDiff, NextH, Env.putO, Env.put, ↓reduceIte, Nat.reduceEqDiff, upd_upd, Int.reduceToNat]
                    refine hK _ _ ?_; clear hK K
                    refine OW_op rfl (lt_some (by decide)) (fun K hK r => ?_)
                    simp only [x_move, ev, Env.get, Option.getD_some, ↓reduceIte, Nat.reduceEqDiff, NextH, Env.putO, Env.put, ↓reduceIte, Nat.reduceEqDiff, upd_upd, Int.reduceToNat]
                    refine hK _ _ ?_; clear hK K
                    refine OW_op rfl (lt_some (by decide)) (fun K hK r => ?_)
                    simp (disch := (first | omega | decide)) only [x_bin, g_int, b_rem, wrap_i64, wrap_u64, wrap_u32, wrap_u8, ev, Env.get, Option.getD_some, ↓reduceIte, Nat.reduceEqDiff, NextH, Env.putO, Env.put, ↓reduceIte, Nat.reduceEqDiff, upd_upd, Int.reduceToNat]
                    refine hK _ _ ?_; clear hK K
                    refine OW_op rfl (lt_some (by decide)) (fun K hK r => ?_)
                    simp (disch := (first | omega | decide)) only [x_convert, c_int _ _ _ _ Try.underlying3 Try.underlying5, wrap_i64, wrap_u64, wrap_u32, wrap_u8, ev, Env.get, Option.getD_some, ↓reduceIte, Nat.reduceEqDiff, NextH, Env.putO, Env.put, ↓reduceIte, Nat.reduceEqDiff, upd_upd, Int.reduceToNat]
                    refine hK _ _ ?_; clear hK K
                    refine OW_op rfl (lt_some (by decide)) (fun K hK r => ?_)
                    simp only [x_indexAddr, ev, Env.get, Option.getD_some, ↓reduceIte, Nat.reduceEqDiff, NextH, Env.putO, Env.put, ↓reduceIte, Nat.reduceEqDiff, upd_upd, Int.reduceToNat]
                    refine Lt_indexA Try.underlying28 sz5 ixA ixA ?_
                    try simp only [add_mk, Nat.mul_one, Nat.zero_add, Int.reduceToNat]
                    try simp only [ev, Env.get, Option.getD_some, ↓reduceIte, Nat.reduceEqDiff, NextH, Env.putO, Env.put, ↓reduceIte, Nat.reduceEqDiff, upd_upd, Int.reduceToNat]
                    refine hK _ _ ?_; clear hK K
                    refine OW_op rfl (lt_none) (fun K hK r => ?_)
                    simp only [x_store, ev, Env.get, Option.getD_some, ↓reduceIte, Nat.reduceEqDiff, NextH, Env.putO, Env.put, ↓reduceIte, Nat.reduceEqDiff, upd_upd, Int.reduceToNat]
                    refine Lt_storeAt1 sz5 hbA bdA plA fzA ?_
                    try simp only [setL0, setL1, setL2, setL3, setL4, setL5, setL6, setL7, setL8, setL9]
                    try simp only [ev, Env.get, Option.getD_some, ↓reduceIte, Nat.reduceEqDiff, NextH, Env.putO, Env.put, ↓reduceIte, Nat.reduceEqDiff, upd_upd, Int.reduceToNat]
                    refine hK _ _ ?_; clear hK K
                    refine OW_nil ?_
                    try simp only [Ex.thnH, Ex.inBlockH, ↓reduceIte, Nat.reduceEqDiff]
                    refine hK15 _ _ ?_; try clear hK15 K15
                    refine CW_seq (fun K16 hK16 => ?_)
                    refine CW_region ?_
                    refine OW_op rfl (lt_some (by decide)) (fun K hK r => ?_)
                    simp only [x_move, ev, Env.get, Option.getD_some, ↓reduceIte, Nat.reduceEqDiff, NextH, Env.putO, Env.put, ↓reduceIte, Nat.reduceEqDiff, upd_upd, Int.reduceToNat]
                    refine hK _ _ ?_; clear hK K
                    refine OW_op rfl (lt_some (by decide)) (fun K hK r => ?_)
                    simp (disch := (first | omega | decide)) only [x_bin, g_int, b_add, wrap_i64, wrap_u64, wrap_u32, wrap_u8, ev, Env.get, Option.getD_some, ↓reduceIte, Nat.reduceEqDiff, NextH, Env.putO, Env.put, ↓reduceIte, Nat.reduceEqDiff, upd_upd, Int.reduceToNat]
                    refine hK _ _ ?_; clear hK K
                    refine OW_op rfl (lt_some (by decide)) (fun K hK r => ?_)
                    simp only [x_move, ev, Env.get, Option.getD_some, ↓reduceIte, Nat.reduceEqDiff, NextH, Env.putO, Env.put, ↓reduceIte, Nat.reduceEqDiff, upd_upd, Int.reduceToNat]
                    refine hK _ _ ?_; clear hK K
                    refine OW_op rfl (lt_some (by decide)) (fun K hK r => ?_)
                    simp (disch := (first | omega | decide)) only [x_bin, g_int, b_rem, wrap_i64, wrap_u64, wrap_u32, wrap_u8, ev, Env.get, Option.getD_some, ↓reduceIte, Nat.reduceEqDiff, NextH, Env.putO, Env.put, ↓reduceIte, Nat.reduceEqDiff, upd_upd, Int.reduceToNat]
                    refine hK _ _ ?_; clear hK K
                    refine OW_op rfl (lt_some (by decide)) (fun K hK r => ?_)
                    simp (disch := (first | omega | decide)) only [x_convert, c_int _ _ _ _ Try.underlying3 Try.underlying5, wrap_i64, wrap_u64, wrap_u32, wrap_u8, ev, Env.get, Option.getD_some, ↓reduceIte, Nat.reduceEqDiff, NextH, Env.putO, Env.put, ↓reduceIte, Nat.reduceEqDiff, upd_upd, Int.reduceToNat]
                    refine hK _ _ ?_; clear hK K
                    refine OW_op rfl (lt_some (by decide)) (fun K hK r => ?_)
                    simp only [x_indexAddr, ev, Env.get, Option.getD_some, ↓reduceIte, Nat.reduceEqDiff, NextH, Env.putO, Env.put, ↓reduceIte, Nat.reduceEqDiff, upd_upd, Int.reduceToNat]
                    refine Lt_indexA Try.underlying28 sz5 ixA ixA ?_
                    try simp only [add_mk, Nat.mul_one, Nat.zero_add, Int.reduceToNat]
                    try simp only [ev, Env.get, Option.getD_some, ↓reduceIte, Nat.reduceEqDiff, NextH, Env.putO, Env.put, ↓reduceIte, Nat.reduceEqDiff, upd_upd, Int.reduceToNat]
                    refine hK _ _ ?_; clear hK K
                    refine OW_op rfl (lt_none) (fun K hK r => ?_)
                    simp only [x_store, ev, Env.get, Option.getD_some, ↓reduceIte, Nat.reduceEqDiff, NextH, Env.putO, Env.put, ↓reduceIte, Nat.reduceEqDiff, upd_upd, Int.reduceToNat]
                    refine Lt_storeAt1 sz5 hbA bdA plA fzA ?_
                    try simp only [setL0, setL1, setL2, setL3, setL4, setL5, setL6, setL7, setL8, setL9]
                    try simp only [ev, Env.get, Option.getD_some, ↓reduceIte, Nat.reduceEqDiff, NextH, Env.putO, Env.put, ↓reduceIte, Nat.reduceEqDiff, upd_upd, Int.reduceToNat]
                    refine hK _ _ ?_; clear hK K
                    refine OW_nil ?_
                    try simp only [Ex.thnH, Ex.inBlockH, ↓reduceIte, Nat.reduceEqDiff]
                    refine hK16 _ _ ?_; try clear hK16 K16
                    refine CW_region ?_
                    refine OW_op rfl (lt_some (by decide)) (fun K hK r => ?_)
                    simp only [x_move, ev, Env.get, Option.getD_some, ↓reduceIte, Nat.reduceEqDiff, NextH, Env.putO, Env.put, ↓reduceIte, Nat.reduceEqDiff, upd_upd, Int.reduceToNat]
                    refine hK _ _ ?_; clear hK K
                    refine OW_op rfl (lt_some (by decide)) (fun K hK r => ?_)
                    simp (disch := (first | omega | decide)) only [x_bin, g_int, b_quo, wrap_i64, wrap_u64, wrap_u32, wrap_u8, ev, Env.get, Option.getD_some, ↓reduceIte, Nat.reduceEqDiff, NextH, Env.putO, Env.put, ↓reduceIte, Nat.reduceEqDiff, upd_upd, Int.reduceToNat]
                    refine hK _ _ ?_; clear hK K
                    refine OW_op rfl (lt_some (by decide)) (fun K hK r => ?_)
                    simp only [x_assign, ev, Env.get, Option.getD_some, ↓reduceIte, Nat.reduceEqDiff, NextH, Env.putO, Env.put, ↓reduceIte, Nat.reduceEqDiff, upd_upd, Int.reduceToNat]
                    refine hK _ _ ?_; clear hK K
                    refine OW_nil ?_
                    try simp only [Ex.thnH, Ex.inBlockH, ↓reduceIte, Nat.reduceEqDiff]
                    refine hK14 _ _ ?_; try clear hK14 K14
                    refine CW_region ?_
                    refine OW_op rfl (lt_some (by decide)) (fun K hK r => ?_)
                    simp only [x_move, ev, Env.get, Option.getD_some, ↓reduceIte, Nat.reduceEqDiff, NextH, Env.putO, Env.put, ↓reduceIte, Nat.reduceEqDiff, upd_upd, Int.reduceToNat]
                    refine hK _ _ ?_; clear hK K
                    refine OW_op rfl (lt_some (by decide)) (fun K hK r => ?_)
                    simp (disch := (first | omega | decide)) only [x_bin, g_int, b_add, wrap_i64, wrap_u64, wrap_u32, wrap_u8, ev, Env.get, Option.getD_some, ↓reduceIte, Nat.reduceEqDiff, NextH, Env.putO, Env.put, ↓reduceIte, Nat.reduceEqDiff, upd_upd, Int.reduceToNat]
                    refine hK _ _ ?_; clear hK K
                    refine OW_op rfl (lt_some (by decide)) (fun K hK r => ?_)
                    simp only [x_assign, ev, Env.get, Option.getD_some, ↓reduceIte, Nat.reduceEqDiff, NextH, Env.putO, Env.put, ↓reduceIte, Nat.reduceEqDiff, upd_upd, Int.reduceToNat]
                    refine hK _ _ ?_; clear hK K
                    refine OW_nil ?_
                    try simp only [Ex.thnH, Ex.inBlockH, ↓reduceIte, Nat.reduceEqDiff]
                    refine ⟨6 - (k + 1), by omega, k + 1, by omega, rfl, ⟨rfl, rfl, rfl, ?_, rfl, trivial⟩, ?_⟩
                    · show some (Value.int _ _) = _
                      rw [dvK_succ, e2]
                    · have e3 : (58 + (k : Int)).toNat = 58 + k := by omega
                      rw [Int.toNat_natCast, e3, e1, u8s_set, u8s_set, refS_step st k (by omega)]
                · first
                  | (exfalso; exact cnA c36; done)
                  | skip
                    (try simp only [decide_eq_true_eq, decide_eq_false_iff_not, Bool.not_eq_true, Bool.not_eq_false, Bool.and_eq_true, Bool.or_eq_true, Bool.or_eq_false_iff, Bool.not_eq_true, Bool.not_eq_eq_eq_not, Bool.not_true, Bool.not_false] at c36)
                    refine CW_exit ?_
                    try simp only [Ex.thnH, Ex.inBlockH, ↓reduceIte, Nat.reduceEqDiff]
                    refine hK10 _ _ ?_; try clear hK10 K10
                    refine CW_seq (fun K17 hK17 => ?_)
                    refine CW_region ?_
                    refine OW_op rfl (lt_some (by decide)) (fun K hK r => ?_)
                    simp only [x_fieldAddr, fa24_1, add_mk, Nat.reduceAdd, Nat.zero_add, ev, Env.get, Option.getD_some, ↓reduceIte, Nat.reduceEqDiff, NextH, Env.putO, Env.put, ↓reduceIte, Nat.reduceEqDiff, upd_upd, Int.reduceToNat]
                    refine hK _ _ ?_; clear hK K
                    refine OW_op rfl (lt_some (by decide)) (fun K hK r => ?_)
                    simp only [x_load, ev, Env.get, Option.getD_some, ↓reduceIte, Nat.reduceEqDiff, NextH, Env.putO, Env.put, ↓reduceIte, Nat.reduceEqDiff, upd_upd, Int.reduceToNat]
                    refine Lt_loadAt1 Try.underlying3 rfl hbA ldA ?_
                    try simp only [ev, Env.get, Option.getD_some, ↓reduceIte, Nat.reduceEqDiff, NextH, Env.putO, Env.put, ↓reduceIte, Nat.reduceEqDiff, upd_upd, Int.reduceToNat]
                    refine hK _ _ ?_; clear hK K
                    refine OW_op rfl (lt_some (by decide)) (fun K hK r => ?_)
                    simp (disch := (first | omega | decide)) only [x_convert, c_int _ _ _ _ Try.underlying3 Try.underlying5, wrap_i64, wrap_u64, wrap_u32, wrap_u8, ev, Env.get, Option.getD_some, ↓reduceIte, Nat.reduceEqDiff, NextH, Env.putO, Env.put, ↓reduceIte, Nat.reduceEqDiff, upd_upd, Int.reduceToNat]
                    refine hK _ _ ?_; clear hK K
                    refine OW_op rfl (lt_some (by decide)) (fun K hK r => ?_)
                    simp only [x_indexAddr, ev, Env.get, Option.getD_some, ↓reduceIte, Nat.reduceEqDiff, NextH, Env.putO, Env.put, ↓reduceIte, Nat.reduceEqDiff, upd_upd, Int.reduceToNat]
                    refine Lt_indexA Try.underlying28 sz5 ixA ixA ?_
                    try simp only [add_mk, Nat.mul_one, Nat.zero_add, Int.reduceToNat]
                    try simp only [ev, Env.get, Option.getD_some, ↓reduceIte, Nat.reduceEqDiff, NextH, Env.putO, Env.put, ↓reduceIte, Nat.reduceEqDiff, upd_upd, Int.reduceToNat]
                    refine hK _ _ ?_; clear hK K
                    refine OW_op rfl (lt_none) (fun K hK r => ?_)
                    simp only [x_store, ev, Env.get, Option.getD_some, ↓reduceIte, Nat.reduceEqDiff, NextH, Env.putO, Env.put, ↓reduceIte, Nat.reduceEqDiff, upd_upd, Int.reduceToNat]
                    refine Lt_storeAt1 sz5 hbA bdA plA fzA ?_
                    try simp only [setL0, setL1, setL2, setL3, setL4, setL5, setL6, setL7, setL8, setL9]
                    try simp only [ev, Env.get, Option.getD_some, ↓reduceIte, Nat.reduceEqDiff, NextH, Env.putO, Env.put, ↓reduceIte, Nat.reduceEqDiff, upd_upd, Int.reduceToNat]
                    refine hK _ _ ?_; clear hK K
                    refine OW_nil ?_
                    try simp only [Ex.thnH, Ex.inBlockH, ↓reduceIte, Nat.reduceEqDiff]
                    refine hK17 _ _ ?_; try clear hK17 K17
                    refine CW_seq (fun K18 hK18 => ?_)
                    refine CW_region ?_
                    refine OW_op rfl (lt_some (by decide)) (fun K hK r => ?_)
                    simp only [x_fieldAddr, fa24_2, add_mk, Nat.reduceAdd, Nat.zero_add, ev, Env.get, Option.getD_some, ↓reduceIte, Nat.reduceEqDiff, NextH, Env.putO, Env.put, ↓reduceIte, Nat.reduceEqDiff, upd_upd, Int.reduceToNat]
                    refine hK _ _ ?_; clear hK K
                    refine OW_op rfl (lt_some (by decide)) (fun K hK r => ?_)
                    simp only [x_load, ev, Env.get, Option.getD_some, ↓reduceIte, Nat.reduceEqDiff, NextH, Env.putO, Env.put, ↓reduceIte, Nat.reduceEqDiff, upd_upd, Int.reduceToNat]
                    refine Lt_loadAt1 Try.underlying22 rfl hbA ldA ?_
                    try simp only [ev, Env.get, Option.getD_some, ↓reduceIte, Nat.reduceEqDiff, NextH, Env.putO, Env.put, ↓reduceIte, Nat.reduceEqDiff, upd_upd, Int.reduceToNat]
                    refine hK _ _ ?_; clear hK K
                    refine OW_op rfl (lt_some (by decide)) (fun K hK r => ?_)
                    simp only [x_builtin, l_len, List.map_toArray, List.map_cons, List.map_nil, i_len_slice _ _ Try.underlying22, ev, Env.get, Option.getD_some, ↓reduceIte, Nat.reduceEqDiff, NextH, Env.putO, Env.put, ↓reduceIte, Nat.reduceEqDiff, upd_upd, Int.reduceToNat]
                    refine hK _ _ ?_; clear hK K
                    refine OW_op rfl (lt_some (by decide)) (fun K hK r => ?_)
                    simp (disch := (first | omega | decide)) only [x_convert, c_int _ _ _ _ Try.underlying3 Try.underlying5, wrap_i64, wrap_u64, wrap_u32, wrap_u8, ev, Env.get, Option.getD_some, ↓reduceIte, Nat.reduceEqDiff, NextH, Env.putO, Env.put, ↓reduceIte, Nat.reduceEqDiff, upd_upd, Int.reduceToNat]
                    refine hK _ _ ?_; clear hK K
                    refine OW_op rfl (lt_some (by decide)) (fun K hK r => ?_)
                    simp only [x_indexAddr, ev, Env.get, Option.getD_some, ↓reduceIte, Nat.reduceEqDiff, NextH, Env.putO, Env.put, ↓reduceIte, Nat.reduceEqDiff, upd_upd, Int.reduceToNat]
                    refine Lt_indexA Try.underlying28 sz5 ixA ixA ?_
                    try simp only [add_mk, Nat.mul_one, Nat.zero_add, Int.reduceToNat]
                    try simp only [ev, Env.get, Option.getD_some, ↓reduceIte, Nat.reduceEqDiff, NextH, Env.putO, Env.put, ↓reduceIte, Nat.reduceEqDiff, upd_upd, Int.reduceToNat]
                    refine hK _ _ ?_; clear hK K
                    refine OW_op rfl (lt_none) (fun K hK r => ?_)
                    simp only [x_store, ev, Env.get, Option.getD_some, ↓reduceIte, Nat.reduceEqDiff, NextH, Env.putO, Env.put, ↓reduceIte, Nat.reduceEqDiff, upd_upd, Int.reduceToNat]
                    refine Lt_storeAt1 sz5 hbA bdA plA fzA ?_
                    try simp only [setL0, setL1, setL2, setL3, setL4, setL5, setL6, setL7, setL8, setL9]
                    try simp only [ev, Env.get, Option.getD_some, ↓reduceIte, Nat.reduceEqDiff, NextH, Env.putO, Env.put, ↓reduceIte, Nat.reduceEqDiff, upd_upd, Int.reduceToNat]
                    refine hK _ _ ?_; clear hK K
                    refine OW_nil ?_
                    try simp only [Ex.thnH, Ex.inBlockH, ↓reduceIte, Nat.reduceEqDiff]
                    refine hK18 _ _ ?_; try clear hK18 K18
                    refine CW_seq (fun K19 hK19 => ?_)
                    refine CW_seq (fun K20 hK20 => ?_)
                    refine CW_region ?_
                    refine OW_op rfl (lt_some (by decide)) (fun K hK r => ?_)
                    simp only [x_assign, ev, Env.get, Option.getD_some, ↓reduceIte, Nat.reduceEqDiff, NextH, Env.putO, Env.put, ↓reduceIte, Nat.reduceEqDiff, upd_upd, Int.reduceToNat]
                    refine hK _ _ ?_; clear hK K
                    refine OW_nil ?_
                    try simp only [Ex.thnH, Ex.inBlockH, ↓reduceIte, Nat.reduceEqDiff]
                    refine hK20 _ _ ?_; try clear hK20 K20
                    refine CW_block ?_
                    refine CW_loop (fun m e H_ => ∃ k : Nat, k ≤ l.length ∧ m = l.length - k ∧ Env.has [(1, .pointer (some ⟨b1, 0, none⟩)), (2, .pointer (some ⟨b2, 0, none⟩)), (4, .pointer (some ⟨b4, 0, none⟩)), (7, .int .i64 k)] e ∧ H_ = ((H.upd b1 (.cells #[.int .i64 st, .int .i64 kd, .slice a l.length cap] 24)).upd b2 (.cells (Array.replicate 64 (.int .u8 0)) 28)).upd b4 (.cells (u8s (refD st kd l k)).toArray 28)) (l.length) ?_ ?_
                    · skip
                      obtain rfl : k = 6 := by omega
                      exact ⟨0, by omega, rfl, ⟨rfl, rfl, rfl, rfl, trivial⟩, by rw [u8s_set, u8s_set, refD_zero]⟩
                    intro m_ e_ H_ hI_
                    obtain ⟨k, hk6, rfl, he, rfl⟩ := hI_
                    refine CW_env he.sub ?_; clear he e_
                    have hsz := refD_size st kd l k (by omega) hk6
                    refine CW_seq (fun K21 hK21 => ?_)
                    refine CW_seq (fun K22 hK22 => ?_)
                    refine CW_region ?_
                    refine OW_op rfl (lt_some (by decide)) (fun K hK r => ?_)
                    simp only [x_move, ev, Env.get, Option.getD_some, ↓reduceIte, Nat.reduceEqDiff, NextH, Env.putO, Env.put, ↓reduceIte, Nat.reduceEqDiff, upd_upd, Int.reduceToNat]
                    refine hK _ _ ?_; clear hK K
                    refine OW_op rfl (lt_some (by decide)) (fun K hK r => ?_)
                    simp only [x_fieldAddr, fa24_2, add_mk, Nat.reduceAdd, Nat.zero_add, ev, Env.get, Option.getD_some, ↓reduceIte, Nat.reduceEqDiff, NextH, Env.putO, Env.put, ↓reduceIte, Nat.reduceEqDiff, upd_upd, Int.reduceToNat]
                    refine hK _ _ ?_; clear hK K
                    refine OW_op rfl (lt_some (by decide)) (fun K hK r => ?_)
                    simp only [x_load, ev, Env.get, Option.getD_some, ↓reduceIte, Nat.reduceEqDiff, NextH, Env.putO, Env.put, ↓reduceIte, Nat.reduceEqDiff, upd_upd, Int.reduceToNat]
                    refine Lt_loadAt1 Try.underlying22 rfl hbA ldA ?_
                    try simp only [ev, Env.get, Option.getD_some, ↓reduceIte, Nat.reduceEqDiff, NextH, Env.putO, Env.put, ↓reduceIte, Nat.reduceEqDiff, upd_upd, Int.reduceToNat]
                    refine hK _ _ ?_; clear hK K
                    refine OW_op rfl (lt_some (by decide)) (fun K hK r => ?_)
                    simp only [x_builtin, l_len, List.map_toArray, List.map_cons, List.map_nil, i_len_slice _ _ Try.underlying22, ev, Env.get, Option.getD_some, ↓reduceIte, Nat.reduceEqDiff, NextH, Env.putO, Env.put, ↓reduceIte, Nat.reduceEqDiff, upd_upd, Int.reduceToNat]
                    refine hK _ _ ?_; clear hK K
                    refine OW_op rfl (lt_some (by decide)) (fun K hK r => ?_)
                    simp (disch := (first | omega | decide)) only [x_bin, g_int, b_lss, dec_lt_t, dec_lt_f, dec_le_t, dec_le_f, dec_eq_t, dec_eq_f, Bool.not_true, Bool.not_false, ev, Env.get, Option.getD_some, ↓reduceIte, Nat.reduceEqDiff, NextH, Env.putO, Env.put, ↓reduceIte, Nat.reduceEqDiff, upd_upd, Int.reduceToNat]
                    refine hK _ _ ?_; clear hK K
                    refine OW_nil ?_
                    try simp only [Ex.thnH, Ex.inBlockH, ↓reduceIte, Nat.reduceEqDiff]
                    refine hK22 _ _ ?_; try clear hK22 K22
                    refine CW_cond (fun r => rfl) (fun c65 => ?_) (fun c65 => ?_)
                    · first
                      | (exfalso; exact cnA c65; done)
                      | skip
                        (try simp only [decide_eq_true_eq, decide_eq_false_iff_not, Bool.not_eq_true, Bool.not_eq_false, Bool.and_eq_true, Bool.or_eq_true, Bool.or_eq_false_iff, Bool.not_eq_true, Bool.not_eq_eq_eq_not, Bool.not_true, Bool.not_false] at c65)
                        obtain ⟨b0, o0, c0, T0, f0, rfl, hb0, hs0, hc0⟩ := hd.at (by omega)
                        have n0_b1 : b0 ≠ b1 := ne_of_none hb0 f1_H
                        have n0_b2 : b0 ≠ b2 := ne_of_none hb0 f2_H
                        have n0_b4 : b0 ≠ b4 := ne_of_none hb0 f4_H
                        refine CW_skip ?_
                        try simp only [Ex.thnH, Ex.inBlockH, ↓reduceIte, Nat.reduceEqDiff]
                        refine hK21 _ _ ?_; try clear hK21 K21
                        refine CW_seq (fun K23 hK23 => ?_)
                        refine CW_block ?_
                        refine CW_region ?_
                        refine OW_op rfl (lt_some (by decide)) (fun K hK r => ?_)
                        simp only [x_move, ev, Env.get, Option.getD_some, ↓reduceIte, Nat.reduceEqDiff, NextH, Env.putO, Env.put, ↓reduceIte, Nat.reduceEqDiff, upd_upd, Int.reduceToNat]
                        refine hK _ _ ?_; clear hK K
                        refine OW_op rfl (lt_some (by decide)) (fun K hK r => ?_)
                        simp (disch := (first | omega | decide)) only [x_bin, g_int, b_add, wrap_i64, wrap_u64, wrap_u32, wrap_u8, ev, Env.get, Option.getD_some, ↓reduceIte, Nat.reduceEqDiff, NextH, Env.putO, Env.put, ↓reduceIte, Nat.reduceEqDiff, upd_upd, Int.reduceToNat]
                        refine hK _ _ ?_; clear hK K
                        refine OW_op rfl (lt_some (by decide)) (fun K hK r => ?_)
                        simp only [x_fieldAddr, fa24_2, add_mk, Nat.reduceAdd, Nat.zero_add, ev, Env.get, Option.getD_some, ↓reduceIte, Nat.reduceEqDiff, NextH, Env.putO, Env.put, ↓reduceIte, Nat.reduceEqDiff, upd_upd, Int.reduceToNat]
                        refine hK _ _ ?_; clear hK K
                        refine OW_op rfl (lt_some (by decide)) (fun K hK r => ?_)
                        simp only [x_load, ev, Env.get, Option.getD_some, ↓reduceIte, Nat.reduceEqDiff, NextH, Env.putO, Env.put, ↓reduceIte, Nat.reduceEqDiff, upd_upd, Int.reduceToNat]
                        refine Lt_loadAt1 Try.underlying22 rfl hbA ldA ?_
                        try simp only [ev, Env.get, Option.getD_some, ↓reduceIte, Nat.reduceEqDiff, NextH, Env.putO, Env.put, ↓reduceIte, Nat.reduceEqDiff, upd_upd, Int.reduceToNat]
                        refine hK _ _ ?_; clear hK K
                        refine OW_op rfl (lt_some (by decide)) (fun K hK r => ?_)
                        simp only [x_move, ev, Env.get, Option.getD_some, ↓reduceIte, Nat.reduceEqDiff, NextH, Env.putO, Env.put, ↓reduceIte, Nat.reduceEqDiff, upd_upd, Int.reduceToNat]
                        refine hK _ _ ?_; clear hK K
                        refine OW_op rfl (lt_some (by decide)) (fun K hK r => ?_)
                        simp only [x_indexAddr, ev, Env.get, Option.getD_some, ↓reduceIte, Nat.reduceEqDiff, NextH, Env.putO, Env.put, ↓reduceIte, Nat.reduceEqDiff, upd_upd, Int.reduceToNat]
                        refine Lt_indexS Try.underlying22 sz5 ixA ixA ?_
                        try simp only [add_mk, Nat.mul_one, Nat.zero_add, Int.reduceToNat]
                        try simp only [ev, Env.get, Option.getD_some, ↓reduceIte, Nat.reduceEqDiff, NextH, Env.putO, Env.put, ↓reduceIte, Nat.reduceEqDiff, upd_upd, Int.reduceToNat]
                        refine hK _ _ ?_; clear hK K
                        refine OW_op rfl (lt_some (by decide)) (fun K hK r => ?_)
                        simp only [x_load, ev, Env.get, Option.getD_some, ↓reduceIte, Nat.reduceEqDiff, NextH, Env.putO, Env.put, ↓reduceIte, Nat.reduceEqDiff, upd_upd, Int.reduceToNat]
                        refine Lt_loadAt1 Try.underlying5 rfl hbA (v := .int .u8 (l.getD k 0)) ?_ ?_
                        · simp only [Int.toNat_natCast, Nat.mul_one]
                          rw [hc0 k (by omega), List.getElem?_map, getD_of_lt l k (by omega)]; rfl
                        refine hK _ _ ?_; clear hK K
                        refine OW_op rfl (lt_some (by decide)) (fun K hK r => ?_)
                        simp only [x_indexAddr, ev, Env.get, Option.getD_some, ↓reduceIte, Nat.reduceEqDiff, NextH, Env.putO, Env.put, ↓reduceIte, Nat.reduceEqDiff, upd_upd, Int.reduceToNat]
                        refine Lt_indexA Try.underlying28 sz5 ixA ixA ?_
                        try simp only [add_mk, Nat.mul_one, Nat.zero_add, Int.reduceToNat]
                        try simp only [ev, Env.get, Option.getD_some, ↓reduceIte, Nat.reduceEqDiff, NextH, Env.putO, Env.put, ↓reduceIte, Nat.reduceEqDiff, upd_upd, Int.reduceToNat]
                        refine hK _ _ ?_; clear hK K
                        refine OW_op rfl (lt_none) (fun K hK r => ?_)
                        simp only [x_store, ev, Env.get, Option.getD_some, ↓reduceIte, Nat.reduceEqDiff, NextH, Env.putO, Env.put, ↓reduceIte, Nat.reduceEqDiff, upd_upd, Int.reduceToNat]
                        refine Lt_storeAt1 sz5 hbA bdA plA fzA ?_
                        try simp only [setL0, setL1, setL2, setL3, setL4, setL5, setL6, setL7, setL8, setL9]
                        try simp only [ev, Env.get, Option.getD_some, ↓reduceIte, Nat.reduceEqDiff, NextH, Env.putO, Env.put, ↓reduceIte, Nat.reduceEqDiff, upd_upd, Int.reduceToNat]
                        refine hK _ _ ?_; clear hK K
                        refine OW_nil ?_
                        try simp only [Ex.thnH, Ex.inBlockH, ↓reduceIte, Nat.reduceEqDiff]
                        refine hK23 _ _ ?_; try clear hK23 K23
                        refine CW_region ?_
                        refine OW_op rfl (lt_some (by decide)) (fun K hK r => ?_)
                        simp only [x_move, ev, Env.get, Option.getD_some, ↓reduceIte, Nat.reduceEqDiff, NextH, Env.putO, Env.put, ↓reduceIte, Nat.reduceEqDiff, upd_upd, Int.reduceToNat]
                        refine hK _ _ ?_; clear hK K
                        refine OW_op rfl (lt_some (by decide)) (fun K hK r => ?_)
                        simp (disch := (first | omega | decide)) only [x_bin, g_int, b_add, wrap_i64, wrap_u64, wrap_u32, wrap_u8, ev, Env.get, Option.getD_some, ↓reduceIte, Nat.reduceEqDiff, NextH, Env.putO, Env.put, ↓reduceIte, Nat.reduceEqDiff, upd_upd, Int.reduceToNat]
                        refine hK _ _ ?_; clear hK K
                        refine OW_op rfl (lt_some (by decide)) (fun K hK r => ?_)
                        simp only [x_assign, ev, Env.get, Option.getD_some, ↓reduceIte, Nat.reduceEqDiff, NextH, Env.putO, Env.put, ↓reduceIte, Nat.reduceEqDiff, upd_upd, Int.reduceToNat]
                        refine hK _ _ ?_; clear hK K
                        refine OW_nil ?_
                        try simp only [Ex.thnH, Ex.inBlockH, ↓reduceIte, Nat.reduceEqDiff]
                        refine ⟨l.length - (k + 1), by omega, k + 1, by omega, rfl, ⟨rfl, rfl, rfl, rfl, trivial⟩, ?_⟩
                        have e3 : (8 + (k : Int)).toNat = 8 + k := by omega
                        rw [e3, u8s_set, refD_step st kd l k (by omega) (by omega)]
                    · first
                      | (exfalso; exact cnA c65; done)
                      | skip
                        (try simp only [decide_eq_true_eq, decide_eq_false_iff_not, Bool.not_eq_true, Bool.not_eq_false, Bool.and_eq_true, Bool.or_eq_true, Bool.or_eq_false_iff, Bool.not_eq_true, Bool.not_eq_eq_eq_not, Bool.not_true, Bool.not_false] at c65)
                        refine CW_exit ?_
                        try simp only [Ex.thnH, Ex.inBlockH, ↓reduceIte, Nat.reduceEqDiff]
                        refine hK19 _ _ ?_; try clear hK19 K19
                        refine CW_seq (fun K24 hK24 => ?_)
                        refine CW_region ?_
                        refine OW_op rfl (lt_some (by decide)) (fun K hK r => ?_)
                        simp only [x_load, ev, Env.get, Option.getD_some, ↓reduceIte, Nat.reduceEqDiff, NextH, Env.putO, Env.put, ↓reduceIte, Nat.reduceEqDiff, upd_upd, Int.reduceToNat]
                        first | refine Lt_loadAll Try.underlying28 rfl sz28 hbA bdA ?_ | refine Lt_loadAtA Try.underlying28 rfl sz28 hbA bdA ?_
                        try simp only [ev, Env.get, Option.getD_some, ↓reduceIte, Nat.reduceEqDiff, NextH, Env.putO, Env.put, ↓reduceIte, Nat.reduceEqDiff, upd_upd, Int.reduceToNat]
                        refine hK _ _ ?_; clear hK K
                        refine OW_op rfl (lt_none) (fun K hK r => ?_)
                        simp only [x_store, ev, Env.get, Option.getD_some, ↓reduceIte, Nat.reduceEqDiff, NextH, Env.putO, Env.put, ↓reduceIte, Nat.reduceEqDiff, upd_upd, Int.reduceToNat]
                        first | refine Lt_storeAll sz28 bdA hbA bdA plA (by decide) ?_ | refine Lt_storeAtA sz28 bdA hbA bdA plA (by decide) ?_
                        try simp only [ev, Env.get, Option.getD_some, ↓reduceIte, Nat.reduceEqDiff, NextH, Env.putO, Env.put, ↓reduceIte, Nat.reduceEqDiff, upd_upd, Int.reduceToNat]
                        refine hK _ _ ?_; clear hK K
                        refine OW_op rfl (lt_some (by decide)) (fun K hK r => ?_)
                        simp only [x_assign, ev, Env.get, Option.getD_some, ↓reduceIte, Nat.reduceEqDiff, NextH, Env.putO, Env.put, ↓reduceIte, Nat.reduceEqDiff, upd_upd, Int.reduceToNat]
                        refine hK _ _ ?_; clear hK K
                        refine OW_nil ?_
                        try simp only [Ex.thnH, Ex.inBlockH, ↓reduceIte, Nat.reduceEqDiff]
                        refine hK24 _ _ ?_; try clear hK24 K24
                        refine CW_ret ?_
                        try simp only [Ex.thnH, Ex.inBlockH, ↓reduceIte, Nat.reduceEqDiff]
                        have hb : badI st kd l = none := by simp only [badI]; rw [if_neg (by omega), if_neg (by omega)]
                        obtain rfl : k = l.length := by omega
                        refine ⟨[_, _], ⟨⟨_, rfl, Lq_loadAll Try.underlying28 rfl sz28 hbA bdA⟩, rfl, trivial⟩, H, lhA, ?_, rfl⟩
                        show Value.tuple #[_, _] = _
                        rw [← refD_full st kd l hb, hb]; rfl

end Go.Proofs.Ythpflieimocfbaa.HL
