/- Parts of the proof, one behind the other: P15, P30, P40, P27, P28. -/
import Derived.Test.YtlkopcgoaldpeaaX5
set_option linter.unusedSimpArgs false
set_option linter.unusedVariables false
section
namespace Go.Proofs.Ytlkopcgoaldpeaa.HL
open Go Go.Proofs
set_option linter.unusedSimpArgs false
set_option linter.unusedVariables false
attribute [local irreducible] Lt Lq CW OW TW CallH

set_option maxRecDepth 100000 in
set_option maxHeartbeats 1000000 in
theorem rcheck_ok (H : Hp) (fuel : Int) (vc : Value) (cs : List Cd) (hv : Holds H 6 vc cs.length (cds cs)) (hn : cs.length ≤ 1000000) : CallH Try.prog 15 #[.agg #[.int .i64 fuel, vc]] H (fun v H' => v = .int .i64 (checkP fuel cs) ∧ Le H H') := by
  refine CallH_enter (l := [_]) (rl := [.tmp 2]) (n := 45) Try.func15 rfl rfl rfl rfl rfl ?_
  simp only [envOf, Nat.reduceAdd]
  obtain ⟨av, kv, rfl⟩ := hv.form
  refine CW_seq (fun K1 hK1 => ?_)
  refine CW_region ?_
  refine OW_opS (fun K hK r => ?_)
  simp only [x_box, Value.cells, eX, ↓reduceIte, Nat.reduceEqDiff, Int.reduceToNat]
  intro b1 hb1
  have f1_H : H b1 = none := none_of_le lhA hb1
  try simp only [eX, ↓reduceIte, Nat.reduceEqDiff, Int.reduceToNat]
  refine hK _ _ ?_; clear hK K
  refine OW_as rfl ?_
  refine OW_nil ?_
  try simp only [Ex.thnH, Ex.inBlockH, ↓reduceIte, Nat.reduceEqDiff]
  refine hK1 _ _ ?_; try clear hK1 K1
  refine CW_seq (fun K2 hK2 => ?_)
  refine CW_seq (fun K3 hK3 => ?_)
  refine CW_region_cut (fun e H_ => Env.has [(1, .pointer (some ⟨b1, 0, none⟩)), (23, .bool (decide (¬ (1 ≤ fuel ∧ fuel ≤ 1000 ∧ 1 ≤ cs.length ∧ cs.length ≤ 32))))] e ∧ H_ = H.upd b1 (.cells #[.int .i64 fuel, .slice av cs.length kv] 24)) ?_ ?_
  · skip
    refine OW_opS (fun K hK r => ?_)
    simp only [x_fieldAddr, fa24_0, add_mk, Nat.reduceAdd, Nat.zero_add, eX, ↓reduceIte, Nat.reduceEqDiff, Int.reduceToNat]
    refine hK _ _ ?_; clear hK K
    refine OW_opS (fun K hK r => ?_)
    simp only [x_load, eX, ↓reduceIte, Nat.reduceEqDiff, Int.reduceToNat]
    refine Lt_loadAt1 Try.underlying3 rfl hbA ldA ?_
    try simp only [eX, ↓reduceIte, Nat.reduceEqDiff, Int.reduceToNat]
    refine hK _ _ ?_; clear hK K
    refine OW_opS (fun K hK r => ?_)
    simp (disch := (first | omega | decide)) only [x_bin, g_int, b_lss, dec_lt_t, dec_lt_f, dec_le_t, dec_le_f, dec_eq_t, dec_eq_f, Bool.not_true, Bool.not_false, eX, ↓reduceIte, Nat.reduceEqDiff, Int.reduceToNat]
    refine hK _ _ ?_; clear hK K
    refine OW_mv rfl ?_
    (first | refine OW_split (d := 7) rfl (fun g7 => ?_) (fun g7 => ?_) | skip)
    all_goals try (exfalso; exact cnA g7)
    all_goals (try simp only [decide_eq_true_eq, decide_eq_false_iff_not, Bool.not_eq_true, Bool.not_eq_false, Bool.and_eq_true, Bool.or_eq_true, Bool.or_eq_false_iff, Bool.not_eq_true, Bool.not_eq_eq_eq_not, Bool.not_true, Bool.not_false] at g7)
    all_goals
      try simp only [eX, ↓reduceIte, Nat.reduceEqDiff, Int.reduceToNat]
      first
      | refine OW_guardT rfl (lt_some (by decide)) rfl (fun K hK r => ?_)
        simp only [x_fieldAddr, fa24_0, add_mk, Nat.reduceAdd, Nat.zero_add, eX, ↓reduceIte, Nat.reduceEqDiff, Int.reduceToNat]
        refine hK _ _ ?_; clear hK K
      | refine OW_guardF rfl (lt_some (by decide)) rfl ?_
        simp only [eX, ↓reduceIte, Nat.reduceEqDiff, Int.reduceToNat]
      first
      | refine OW_guardT rfl (lt_some (by decide)) rfl (fun K hK r => ?_)
        simp only [x_load, eX, ↓reduceIte, Nat.reduceEqDiff, Int.reduceToNat]
        refine Lt_loadAt1 Try.underlying3 rfl hbA ldA ?_
        try simp only [eX, ↓reduceIte, Nat.reduceEqDiff, Int.reduceToNat]
        refine hK _ _ ?_; clear hK K
      | refine OW_guardF rfl (lt_some (by decide)) rfl ?_
        simp only [eX, ↓reduceIte, Nat.reduceEqDiff, Int.reduceToNat]
      first
      | refine OW_guardT rfl (lt_some (by decide)) rfl (fun K hK r => ?_)
        simp (disch := (first | omega | decide)) only [x_bin, g_int, b_gtr, dec_lt_t, dec_lt_f, dec_le_t, dec_le_f, dec_eq_t, dec_eq_f, Bool.not_true, Bool.not_false, eX, ↓reduceIte, Nat.reduceEqDiff, Int.reduceToNat]
        refine hK _ _ ?_; clear hK K
      | refine OW_guardF rfl (lt_some (by decide)) rfl ?_
        simp only [eX, ↓reduceIte, Nat.reduceEqDiff, Int.reduceToNat]
      refine OW_opS (fun K hK r => ?_)
      simp only [x_pick, l_asBool, HL.ite_bool, if_true, if_false, Bool.false_eq_true, eX, ↓reduceIte, Nat.reduceEqDiff, Int.reduceToNat]
      refine hK _ _ ?_; clear hK K
      refine OW_mv rfl ?_
      (first | refine OW_split (d := 12) rfl (fun g12 => ?_) (fun g12 => ?_) | skip)
      all_goals try (exfalso; exact cnA g12)
      all_goals (try simp only [decide_eq_true_eq, decide_eq_false_iff_not, Bool.not_eq_true, Bool.not_eq_false, Bool.and_eq_true, Bool.or_eq_true, Bool.or_eq_false_iff, Bool.not_eq_true, Bool.not_eq_eq_eq_not, Bool.not_true, Bool.not_false] at g12)
      all_goals
        try simp only [eX, ↓reduceIte, Nat.reduceEqDiff, Int.reduceToNat]
        first
        | refine OW_guardT rfl (lt_some (by decide)) rfl (fun K hK r => ?_)
          simp only [x_fieldAddr, fa24_1, add_mk, Nat.reduceAdd, Nat.zero_add, eX, ↓reduceIte, Nat.reduceEqDiff, Int.reduceToNat]
          refine hK _ _ ?_; clear hK K
        | refine OW_guardF rfl (lt_some (by decide)) rfl ?_
          simp only [eX, ↓reduceIte, Nat.reduceEqDiff, Int.reduceToNat]
        first
        | refine OW_guardT rfl (lt_some (by decide)) rfl (fun K hK r => ?_)
          simp only [x_load, eX, ↓reduceIte, Nat.reduceEqDiff, Int.reduceToNat]
          refine Lt_loadAt1 Try.underlying22 rfl hbA ldA ?_
          try simp only [eX, ↓reduceIte, Nat.reduceEqDiff, Int.reduceToNat]
          refine hK _ _ ?_; clear hK K
        | refine OW_guardF rfl (lt_some (by decide)) rfl ?_
          simp only [eX, ↓reduceIte, Nat.reduceEqDiff, Int.reduceToNat]
        first
        | refine OW_guardT rfl (lt_some (by decide)) rfl (fun K hK r => ?_)
          simp only [x_builtin, l_len, List.map_toArray, List.map_cons, List.map_nil, i_len_slice _ _ Try.underlying22, eX, ↓reduceIte, Nat.reduceEqDiff, Int.reduceToNat]
          refine hK _ _ ?_; clear hK K
        | refine OW_guardF rfl (lt_some (by decide)) rfl ?_
          simp only [eX, ↓reduceIte, Nat.reduceEqDiff, Int.reduceToNat]
        first
        | refine OW_guardT rfl (lt_some (by decide)) rfl (fun K hK r => ?_)
          simp (disch := (first | omega | decide)) only [x_bin, g_int, b_lss, dec_lt_t, dec_lt_f, dec_le_t, dec_le_f, dec_eq_t, dec_eq_f, Bool.not_true, Bool.not_false, eX, ↓reduceIte, Nat.reduceEqDiff, Int.reduceToNat]
          refine hK _ _ ?_; clear hK K
        | refine OW_guardF rfl (lt_some (by decide)) rfl ?_
          simp only [eX, ↓reduceIte, Nat.reduceEqDiff, Int.reduceToNat]
        refine OW_opS (fun K hK r => ?_)
        simp only [x_pick, l_asBool, HL.ite_bool, if_true, if_false, Bool.false_eq_true, eX, ↓reduceIte, Nat.reduceEqDiff, Int.reduceToNat]
        refine hK _ _ ?_; clear hK K
        refine OW_mv rfl ?_
        (first | refine OW_split (d := 18) rfl (fun g18 => ?_) (fun g18 => ?_) | skip)
        all_goals try (exfalso; exact cnA g18)
        all_goals (try simp only [decide_eq_true_eq, decide_eq_false_iff_not, Bool.not_eq_true, Bool.not_eq_false, Bool.and_eq_true, Bool.or_eq_true, Bool.or_eq_false_iff, Bool.not_eq_true, Bool.not_eq_eq_eq_not, Bool.not_true, Bool.not_false] at g18)
        all_goals
          try simp only [eX, ↓reduceIte, Nat.reduceEqDiff, Int.reduceToNat]
          first
          | refine OW_guardT rfl (lt_some (by decide)) rfl (fun K hK r => ?_)
            simp only [x_fieldAddr, fa24_1, add_mk, Nat.reduceAdd, Nat.zero_add, eX, ↓reduceIte, Nat.reduceEqDiff, Int.reduceToNat]
            refine hK _ _ ?_; clear hK K
          | refine OW_guardF rfl (lt_some (by decide)) rfl ?_
            simp only [eX, ↓reduceIte, Nat.reduceEqDiff, Int.reduceToNat]
          first
          | refine OW_guardT rfl (lt_some (by decide)) rfl (fun K hK r => ?_)
            simp only [x_load, eX, ↓reduceIte, Nat.reduceEqDiff, Int.reduceToNat]
            refine Lt_loadAt1 Try.underlying22 rfl hbA ldA ?_
            try simp only [eX, ↓reduceIte, Nat.reduceEqDiff, Int.reduceToNat]
            refine hK _ _ ?_; clear hK K
          | refine OW_guardF rfl (lt_some (by decide)) rfl ?_
            simp only [eX, ↓reduceIte, Nat.reduceEqDiff, Int.reduceToNat]
          first
          | refine OW_guardT rfl (lt_some (by decide)) rfl (fun K hK r => ?_)
            simp only [x_builtin, l_len, List.map_toArray, List.map_cons, List.map_nil, i_len_slice _ _ Try.underlying22, eX, ↓reduceIte, Nat.reduceEqDiff, Int.reduceToNat]
            refine hK _ _ ?_; clear hK K
          | refine OW_guardF rfl (lt_some (by decide)) rfl ?_
            simp only [eX, ↓reduceIte, Nat.reduceEqDiff, Int.reduceToNat]
          first
          | refine OW_guardT rfl (lt_some (by decide)) rfl (fun K hK r => ?_)
            simp (disch := (first | omega | decide)) only [x_bin, g_int, b_gtr, dec_lt_t, dec_lt_f, dec_le_t, dec_le_f, dec_eq_t, dec_eq_f, Bool.not_true, Bool.not_false, eX, ↓reduceIte, Nat.reduceEqDiff, Int.reduceToNat]
            refine hK _ _ ?_; clear hK K
          | refine OW_guardF rfl (lt_some (by decide)) rfl ?_
            simp only [eX, ↓reduceIte, Nat.reduceEqDiff, Int.reduceToNat]
          refine OW_opS (fun K hK r => ?_)
          simp only [x_pick, l_asBool, HL.ite_bool, if_true, if_false, Bool.false_eq_true, eX, ↓reduceIte, Nat.reduceEqDiff, Int.reduceToNat]
          refine hK _ _ ?_; clear hK K
          refine OW_nil ?_
          all_goals
            refine ⟨⟨rfl, ?_, trivial⟩, (by first | rfl | trivial)⟩
            show some (Value.bool _) = some (Value.bool _)
            congr 1
            first | (congr 1; rw [Bool.eq_iff_iff]; simp only [decide_eq_true_eq, Bool.not_eq_true', decide_eq_false_iff_not]; omega) | (congr 1; exact (decide_eq_true (by omega)).symm) | (congr 1; exact (decide_eq_false (by omega)).symm)
  rintro e_ H_ ⟨he, hH_⟩
  have hH_ := hH_.symm; subst hH_
  try simp only [Ex.thnH, Ex.inBlockH, ↓reduceIte, Nat.reduceEqDiff]
  refine hK3 _ _ ?_; try clear hK3 K3
  refine CW_env he.sub ?_; clear he e_
  refine CW_cond (fun r => rfl) (fun c23 => ?_) (fun c23 => ?_)
  · first
    | (exfalso; exact cnA c23; done)
    | skip
      (try simp only [decide_eq_true_eq, decide_eq_false_iff_not, Bool.not_eq_true, Bool.not_eq_false, Bool.and_eq_true, Bool.or_eq_true, Bool.or_eq_false_iff, Bool.not_eq_true, Bool.not_eq_eq_eq_not, Bool.not_true, Bool.not_false] at c23)
      refine CW_seq (fun K4 hK4 => ?_)
      refine CW_region ?_
      refine OW_as rfl ?_
      refine OW_nil ?_
      try simp only [Ex.thnH, Ex.inBlockH, ↓reduceIte, Nat.reduceEqDiff]
      refine hK4 _ _ ?_; try clear hK4 K4
      refine CW_ret ?_
      try simp only [Ex.thnH, Ex.inBlockH, ↓reduceIte, Nat.reduceEqDiff]
      refine ⟨[_], ⟨rfl, trivial⟩, _, Le.refl _, ?_, lhA⟩
      show Value.int _ _ = _
      rw [show checkP fuel cs = -1 from by unfold checkP; rw [if_neg (by first | assumption | simp_all)]]
  · first
    | (exfalso; exact cnA c23; done)
    | skip
      (try simp only [decide_eq_true_eq, decide_eq_false_iff_not, Bool.not_eq_true, Bool.not_eq_false, Bool.and_eq_true, Bool.or_eq_true, Bool.or_eq_false_iff, Bool.not_eq_true, Bool.not_eq_eq_eq_not, Bool.not_true, Bool.not_false] at c23)
      have hr : 1 ≤ fuel ∧ fuel ≤ 1000 ∧ 1 ≤ cs.length ∧ cs.length ≤ 32 := by first | assumption | simp_all
      obtain ⟨bv, ov, cv, Tv, Fv, rfl, hbv, hsv, atv⟩ := hv.at (by omega)
      try have n_bv_b1 : bv ≠ b1 := ne_of_none hbv f1_H
      refine CW_skip ?_
      try simp only [Ex.thnH, Ex.inBlockH, ↓reduceIte, Nat.reduceEqDiff]
      refine hK2 _ _ ?_; try clear hK2 K2
      refine CW_seq (fun K5 hK5 => ?_)
      refine CW_seq (fun K6 hK6 => ?_)
      refine CW_region ?_
      refine OW_as rfl ?_
      refine OW_nil ?_
      try simp only [Ex.thnH, Ex.inBlockH, ↓reduceIte, Nat.reduceEqDiff]
      refine hK6 _ _ ?_; try clear hK6 K6
      refine CW_block ?_
      refine CW_loop (fun m e H_ => ∃ k : Nat, k ≤ cs.length ∧ m = cs.length - k ∧ badAt cs cs.length = badAt cs (cs.length - k) ∧ Env.has [(1, .pointer (some ⟨b1, 0, none⟩)), (3, .int .i64 k)] e ∧ Le H H_ ∧ H_ b1 = some (.cells #[.int .i64 fuel, .slice (some ⟨bv, ov, none⟩) cs.length kv] 24)) (cs.length) ?_ ?_
      · skip
        exact ⟨0, by omega, by omega, rfl, ⟨rfl, rfl, trivial⟩, lhA, hbA⟩
      intro m_ e_ H_ hI_
      obtain ⟨k, hk, rfl, hbad, he, hle, hk1⟩ := hI_
      have hbv_ := hle _ _ hbv
      refine CW_env he.sub ?_; clear he e_
      refine CW_seq (fun K7 hK7 => ?_)
      refine CW_seq (fun K8 hK8 => ?_)
      refine CW_region ?_
      refine OW_mv rfl ?_
      refine OW_opS (fun K hK r => ?_)
      simp only [x_fieldAddr, fa24_1, add_mk, Nat.reduceAdd, Nat.zero_add, eX, ↓reduceIte, Nat.reduceEqDiff, Int.reduceToNat]
      refine hK _ _ ?_; clear hK K
      refine OW_opS (fun K hK r => ?_)
      simp only [x_load, eX, ↓reduceIte, Nat.reduceEqDiff, Int.reduceToNat]
      refine Lt_loadAt1 Try.underlying22 rfl hbA ldA ?_
      try simp only [eX, ↓reduceIte, Nat.reduceEqDiff, Int.reduceToNat]
      refine hK _ _ ?_; clear hK K
      refine OW_opS (fun K hK r => ?_)
      simp only [x_builtin, l_len, List.map_toArray, List.map_cons, List.map_nil, i_len_slice _ _ Try.underlying22, eX, ↓reduceIte, Nat.reduceEqDiff, Int.reduceToNat]
      refine hK _ _ ?_; clear hK K
      refine OW_opS (fun K hK r => ?_)
      simp (disch := (first | omega | decide)) only [x_bin, g_int, b_lss, dec_lt_t, dec_lt_f, dec_le_t, dec_le_f, dec_eq_t, dec_eq_f, Bool.not_true, Bool.not_false, eX, ↓reduceIte, Nat.reduceEqDiff, Int.reduceToNat]
      refine hK _ _ ?_; clear hK K
      refine OW_nil ?_
      try simp only [Ex.thnH, Ex.inBlockH, ↓reduceIte, Nat.reduceEqDiff]
      refine hK8 _ _ ?_; try clear hK8 K8
      refine CW_cond (fun r => rfl) (fun c28 => ?_) (fun c28 => ?_)
      · first
        | (exfalso; exact cnA c28; done)
        | skip
          (try simp only [decide_eq_true_eq, decide_eq_false_iff_not, Bool.not_eq_true, Bool.not_eq_false, Bool.and_eq_true, Bool.or_eq_true, Bool.or_eq_false_iff, Bool.not_eq_true, Bool.not_eq_eq_eq_not, Bool.not_true, Bool.not_false] at c28)
          refine CW_skip ?_
          try simp only [Ex.thnH, Ex.inBlockH, ↓reduceIte, Nat.reduceEqDiff]
          refine hK7 _ _ ?_; try clear hK7 K7
          refine CW_seq (fun K9 hK9 => ?_)
          refine CW_block ?_
          refine CW_seq (fun K10 hK10 => ?_)
          refine CW_drawE [0, 1, 0, 0, 1, 0, 1, 0, 0, 0, 0, 2, 0] [0, 1, 2, 3, 4, 5, 6, 7, 8, 9, 10, 11, 12] (by kernel_rfl) (by kernel_rfl) (fun R6 hR6 => ?_)
          apply TW_pure rfl (lt_some (by decide)) rfl
          · intro r
            simp only [x_fieldAddr, fa24_1, add_mk, Nat.reduceAdd, Nat.zero_add, eX, ↓reduceIte, Nat.reduceEqDiff]
            exact ⟨rfl, Le.refl _⟩
          simp only [eX, ↓reduceIte, Nat.reduceEqDiff, Int.reduceToNat]
          apply TW_look rfl (lt_some (by decide)) rfl
          · intro r
            simp only [x_load, eX, ↓reduceIte, Nat.reduceEqDiff]
            refine Lt_loadAt1 Try.underlying22 rfl hbA ldA ?_
            exact ⟨rfl, Le.refl _⟩
          simp only [eX, ↓reduceIte, Nat.reduceEqDiff, Int.reduceToNat]
          apply TW_pure rfl (lt_some (by decide)) rfl
          · intro r
            simp only [x_move, eX, ↓reduceIte, Nat.reduceEqDiff]
            exact ⟨rfl, Le.refl _⟩
          simp only [eX, ↓reduceIte, Nat.reduceEqDiff, Int.reduceToNat]
          apply TW_pure rfl (lt_some (by decide)) rfl
          · intro r
            simp only [x_indexAddr, eX, ↓reduceIte, Nat.reduceEqDiff]
            refine Lt_indexS Try.underlying22 sz47 ixA ixA ?_
            try simp only [add_mk, Nat.mul_one, Nat.zero_add, Int.reduceToNat]
            exact ⟨rfl, Le.refl _⟩
          simp only [eX, ↓reduceIte, Nat.reduceEqDiff, Int.reduceToNat]
          apply TW_look rfl (lt_some (by decide)) rfl
          · intro r
            simp only [x_load, eX, ↓reduceIte, Nat.reduceEqDiff]
            refine Lt_loadAtA Try.underlying47 rfl sz47 hbA (by simp only [Int.toNat_natCast]; omega) ?_
            simp only [Int.toNat_natCast]
            rw [ext_at Cd.len atv rfl k (by omega) hsv]
            exact ⟨rfl, Le.refl _⟩
          simp only [eX, ↓reduceIte, Nat.reduceEqDiff, Int.reduceToNat]
          apply TW_pure rfl (lt_some (by decide)) rfl
          · intro r
            simp only [x_fieldAddr, fa24_1, add_mk, Nat.reduceAdd, Nat.zero_add, eX, ↓reduceIte, Nat.reduceEqDiff]
            exact ⟨rfl, Le.refl _⟩
          simp only [eX, ↓reduceIte, Nat.reduceEqDiff, Int.reduceToNat]
          apply TW_look rfl (lt_some (by decide)) rfl
          · intro r
            simp only [x_load, eX, ↓reduceIte, Nat.reduceEqDiff]
            refine Lt_loadAt1 Try.underlying22 rfl hbA ldA ?_
            exact ⟨rfl, Le.refl _⟩
          simp only [eX, ↓reduceIte, Nat.reduceEqDiff, Int.reduceToNat]
          apply TW_pure rfl (lt_some (by decide)) rfl
          · intro r
            simp only [x_builtin, l_len, List.map_toArray, List.map_cons, List.map_nil, i_len_slice _ _ Try.underlying22, eX, ↓reduceIte, Nat.reduceEqDiff]
            exact ⟨rfl, Le.refl _⟩
          simp only [eX, ↓reduceIte, Nat.reduceEqDiff, Int.reduceToNat]
          apply TW_pure rfl (lt_some (by decide)) rfl
          · intro r
            simp (disch := (first | omega | decide)) only [x_bin, g_int, b_sub, wrap_i64, wrap_u64, wrap_u32, wrap_u8, eX, ↓reduceIte, Nat.reduceEqDiff]
            exact ⟨rfl, Le.refl _⟩
          simp only [eX, ↓reduceIte, Nat.reduceEqDiff, Int.reduceToNat]
          apply TW_pure rfl (lt_some (by decide)) rfl
          · intro r
            simp only [x_move, eX, ↓reduceIte, Nat.reduceEqDiff]
            exact ⟨rfl, Le.refl _⟩
          simp only [eX, ↓reduceIte, Nat.reduceEqDiff, Int.reduceToNat]
          apply TW_pure rfl (lt_some (by decide)) rfl
          · intro r
            simp (disch := (first | omega | decide)) only [x_bin, g_int, b_sub, wrap_i64, wrap_u64, wrap_u32, wrap_u8, eX, ↓reduceIte, Nat.reduceEqDiff]
            exact ⟨rfl, Le.refl _⟩
          simp only [eX, ↓reduceIte, Nat.reduceEqDiff, Int.reduceToNat]
          refine TW_chain rfl (lt_some (by decide)) rfl (fun K hK r => ?_)
          simp only [x_callF _ bd31, List.map_toArray, List.map_cons, List.map_nil, eX, ↓reduceIte, Nat.reduceEqDiff, Int.reduceToNat]
          refine (rgood_ok _ (cs.getD k default) ((cs.length : Int) - 1 - k)).mono ?_
          rintro v42 H42 ⟨rfl, hl42⟩
          try have kH42_b1 := hl42 b1 _ hbA
          have lH42_H : Le H H42 := Le.trans lhA hl42
          have lH42_R6 : Le R6 H42 := Le.trans lhA hl42
          try simp only [eX, ↓reduceIte, Nat.reduceEqDiff, Int.reduceToNat]
          refine hK _ _ leA ?_; clear hK K
          apply TW_pure rfl (lt_some (by decide)) rfl
          · intro r
            simp only [x_un, u_not, eX, ↓reduceIte, Nat.reduceEqDiff]
            exact ⟨rfl, Le.refl _⟩
          simp only [eX, ↓reduceIte, Nat.reduceEqDiff, Int.reduceToNat]
          refine TW_nil ?_
          try simp only [Ex.thnH, Ex.inBlockH, ↓reduceIte, Nat.reduceEqDiff]
          refine hK10 _ _ ?_; try clear hK10 K10
          refine CW_cond (fun r => rfl) (fun c43 => ?_) (fun c43 => ?_)
          · first
            | (exfalso; exact cnA c43; done)
            | skip
              (try simp only [decide_eq_true_eq, decide_eq_false_iff_not, Bool.not_eq_true, Bool.not_eq_false, Bool.and_eq_true, Bool.or_eq_true, Bool.or_eq_false_iff, Bool.not_eq_true, Bool.not_eq_eq_eq_not, Bool.not_true, Bool.not_false] at c43)
              refine CW_seq (fun K11 hK11 => ?_)
              refine CW_region ?_
              refine OW_mv rfl ?_
              refine OW_as rfl ?_
              refine OW_nil ?_
              try simp only [Ex.thnH, Ex.inBlockH, ↓reduceIte, Nat.reduceEqDiff]
              refine hK11 _ _ ?_; try clear hK11 K11
              refine CW_ret ?_
              try simp only [Ex.thnH, Ex.inBlockH, ↓reduceIte, Nat.reduceEqDiff]
              refine ⟨[_], ⟨rfl, trivial⟩, _, Le.refl _, ?_, lhA⟩
              show Value.int _ _ = _
              rw [show checkP fuel cs = k from by unfold checkP; rw [if_pos hr, hbad, badAt_step (by omega), if_neg (by first | assumption | simp_all)]]
          · first
            | (exfalso; exact cnA c43; done)
            | skip
              (try simp only [decide_eq_true_eq, decide_eq_false_iff_not, Bool.not_eq_true, Bool.not_eq_false, Bool.and_eq_true, Bool.or_eq_true, Bool.or_eq_false_iff, Bool.not_eq_true, Bool.not_eq_eq_eq_not, Bool.not_true, Bool.not_false] at c43)
              refine CW_skip ?_
              try simp only [Ex.thnH, Ex.inBlockH, ↓reduceIte, Nat.reduceEqDiff]
              refine hK9 _ _ ?_; try clear hK9 K9
              refine CW_region ?_
              refine OW_mv rfl ?_
              refine OW_opS (fun K hK r => ?_)
              simp (disch := (first | omega | decide)) only [x_bin, g_int, b_add, wrap_i64, wrap_u64, wrap_u32, wrap_u8, eX, ↓reduceIte, Nat.reduceEqDiff, Int.reduceToNat]
              refine hK _ _ ?_; clear hK K
              refine OW_as rfl ?_
              refine OW_nil ?_
              try simp only [Ex.thnH, Ex.inBlockH, ↓reduceIte, Nat.reduceEqDiff]
              exact ⟨cs.length - (k + 1), by omega, k + 1, by omega, rfl, by rw [hbad, badAt_step (by omega), if_pos (by first | assumption | simp_all)], ⟨rfl, rfl, trivial⟩, lhA, hbA⟩
      · first
        | (exfalso; exact cnA c28; done)
        | skip
          (try simp only [decide_eq_true_eq, decide_eq_false_iff_not, Bool.not_eq_true, Bool.not_eq_false, Bool.and_eq_true, Bool.or_eq_true, Bool.or_eq_false_iff, Bool.not_eq_true, Bool.not_eq_eq_eq_not, Bool.not_true, Bool.not_false] at c28)
          refine CW_exit ?_
          try simp only [Ex.thnH, Ex.inBlockH, ↓reduceIte, Nat.reduceEqDiff]
          refine hK5 _ _ ?_; try clear hK5 K5
          refine CW_seq (fun K12 hK12 => ?_)
          refine CW_region ?_
          refine OW_as rfl ?_
          refine OW_nil ?_
          try simp only [Ex.thnH, Ex.inBlockH, ↓reduceIte, Nat.reduceEqDiff]
          refine hK12 _ _ ?_; try clear hK12 K12
          refine CW_ret ?_
          try simp only [Ex.thnH, Ex.inBlockH, ↓reduceIte, Nat.reduceEqDiff]
          have ek : k = cs.length := by omega
          subst ek
          refine ⟨[_], ⟨rfl, trivial⟩, _, Le.refl _, ?_, lhA⟩
          show Value.int _ _ = _
          rw [show checkP fuel cs = -2 from by unfold checkP; rw [if_pos hr, hbad, Nat.sub_self]; rfl]

end Go.Proofs.Ytlkopcgoaldpeaa.HL
end
section
namespace Go.Proofs.Ytlkopcgoaldpeaa.HL
open Go Go.Proofs
set_option linter.unusedSimpArgs false
set_option linter.unusedVariables false
attribute [local irreducible] Lt Lq CW OW TW CallH

set_option maxRecDepth 100000 in
set_option maxHeartbeats 16000000 in
theorem rDecode_ok (H : Hp) (v : Value) (B : List Int) (hv : Holds H 1 v B.length (u8s B)) (hB : ByteL B) (hl : B.length ≤ 10000) : CallH Try.prog 22 #[v] H (fun v' H' => Le H H' ∧ ∃ (f : Int) (cs : List Cd) (vc : Value) (ok : Bool), v' = .tuple #[.agg #[.int .i64 f, vc], .bool ok] ∧ ((ok = true ∧ GoodP f cs ∧ encP f cs = B) ∨ (ok = false ∧ f = 0 ∧ cs = [] ∧ (∀ (g : Int) (ds : List Cd), (∀ x ∈ ds, x.ok) → GoodP g ds → encP g ds ≠ B))) ∧ (∀ x ∈ cs, x.ok) ∧ ∃ rs, OwnS H' 47 6 vc cs.length (cds cs) rs ∧ ∀ r, rs = some r → H r = none) := by
  refine CallH_enter (l := [_]) (rl := [.cell 2 24, .tmp 3]) (n := 112) Try.func22 rfl rfl rfl rfl rfl ?_
  simp only [envOf, Nat.reduceAdd]
  obtain ⟨av, kv, rfl⟩ := hv.form
  refine CW_seq (fun K1 hK1 => ?_)
  refine CW_region ?_
  refine OW_opS (fun K hK r => ?_)
  simp only [x_alloc, zr24, orF_some, Value.cells, eX, ↓reduceIte, Nat.reduceEqDiff, Int.reduceToNat]
  intro b2 hb2
  have f2_H : H b2 = none := none_of_le lhA hb2
  try simp only [eX, ↓reduceIte, Nat.reduceEqDiff, Int.reduceToNat]
  refine hK _ _ ?_; clear hK K
  refine OW_as rfl ?_
  refine OW_nil ?_
  try simp only [Ex.thnH, Ex.inBlockH, ↓reduceIte, Nat.reduceEqDiff]
  refine hK1 _ _ ?_; try clear hK1 K1
  refine CW_seq (fun K2 hK2 => ?_)
  refine CW_region ?_
  refine OW_opS (fun K hK r => ?_)
  simp only [x_buildSlice, List.map_toArray, List.map_cons, List.map_nil, eX, ↓reduceIte, Nat.reduceEqDiff, Int.reduceToNat]
  refine Lt_buildSlice (vs := []) Try.underlying33 sz5 zr5 rfl bsA (by first | decide | (simp; done)) ?_
  simp only [List.flatMap_cons, List.flatMap_nil, Value.cells, List.append_nil, List.cons_append, List.nil_append, List.length_cons, List.length_nil, Nat.zero_add, Nat.reduceAdd]
  intro b12 hb12
  try have n12_b2 : b2 ≠ b12 := ne_of_none hbA hb12
  have f12_H : H b12 = none := none_of_le lhA hb12
  try simp only [eX, ↓reduceIte, Nat.reduceEqDiff, Int.reduceToNat]
  refine hK _ _ ?_; clear hK K
  refine OW_mv rfl ?_
  refine OW_opS (fun K hK r => ?_)
  simp only [x_builtin, l_append, List.map_toArray, List.map_cons, List.map_nil, eX, ↓reduceIte, Nat.reduceEqDiff, Int.reduceToNat]
  refine Lt_appendNew Try.underlying33 sz5 by5 (by decide) zr5 rfl _ hbA (hv.le lhA) (PlainL.ints _ _) (by omega) ?_
  intro v14 H14 rs14 hg14 ho14 hr14
  have lH14_H : Le H H14 := hg14.le (H0 := H) lhA (fun r hr => by cases hr; exact f12_H)
  have k14_b2 := hg14.known b2 _ hbA (fun e => by cases e; exact absurd rfl n12_b2)
  obtain ⟨a14, c14, rfl, hcap14⟩ := ho14.capOk
  have hh14 := ho14.holds
  refine hK _ _ ?_; clear hK K
  refine OW_opS (fun K hK r => ?_)
  simp only [x_build, bp83, List.map_toArray, List.map_cons, List.map_nil, eX, ↓reduceIte, Nat.reduceEqDiff, Int.reduceToNat]
  rw [fill_one rfl clA bdA]
  simp only [fill_nil, orF_some, List.setIfInBounds_toArray, List.set_cons_zero, List.set_cons_succ]
  try simp only [eX, ↓reduceIte, Nat.reduceEqDiff, Int.reduceToNat]
  refine hK _ _ ?_; clear hK K
  refine OW_opS (fun K hK r => ?_)
  simp only [x_box, Value.cells, eX, ↓reduceIte, Nat.reduceEqDiff, Int.reduceToNat]
  intro b16 hb16
  try have n16_b2 : b2 ≠ b16 := ne_of_none hbA hb16
  try have n16_b12 : b12 ≠ b16 := ne_of_none hbA hb16
  have f16_H : H b16 = none := none_of_le lhA hb16
  have f16_H14 : H14 b16 = none := none_of_le lhA hb16
  have hm16 : RM H14 (H14.upd b16 (.cells #[.slice a14 B.length c14, .bool false] 83)) b16 B false := RM.of (upd_same _ _ _) rfl hcap14 hh14
  have hb16_ := hb16
  try simp only [eX, ↓reduceIte, Nat.reduceEqDiff, Int.reduceToNat]
  refine hK _ _ ?_; clear hK K
  refine OW_as rfl ?_
  refine OW_nil ?_
  try simp only [Ex.thnH, Ex.inBlockH, ↓reduceIte, Nat.reduceEqDiff]
  refine hK2 _ _ ?_; try clear hK2 K2
  refine CW_seq (fun K3 hK3 => ?_)
  refine CW_region ?_
  refine OW_mv rfl ?_
  refine OW_opS (fun K hK r => ?_)
  simp only [x_callF _ bd42, List.map_toArray, List.map_cons, List.map_nil, eX, ↓reduceIte, Nat.reduceEqDiff, Int.reduceToNat]
  refine (rcount_ok H14 _ b16 B false hm16 (le_upd _ _ _ hb16) hb16 hB (by omega)).mono ?_
  rintro v18 H18 ⟨r18, hres18, rfl, hm18, hk18⟩
  have l18 : Le H14 H18 := hk18.le (le_upd _ _ _ hb16) hb16
  have l18_H : Le H H18 := Le.trans lH14_H l18
  obtain ⟨a18, c18, hp18, _⟩ := id hm18
  try simp only [eX, ↓reduceIte, Nat.reduceEqDiff, Int.reduceToNat]
  refine hK _ _ ?_; clear hK K
  refine OW_opS (fun K hK r => ?_)
  simp only [x_build, bp24, List.map_toArray, List.map_cons, List.map_nil, eX, ↓reduceIte, Nat.reduceEqDiff, Int.reduceToNat]
  rw [fill_one rfl clA bdA]
  simp only [fill_nil, orF_some, List.setIfInBounds_toArray, List.set_cons_zero, List.set_cons_succ]
  try simp only [eX, ↓reduceIte, Nat.reduceEqDiff, Int.reduceToNat]
  refine hK _ _ ?_; clear hK K
  refine OW_opS (fun K hK r => ?_)
  simp only [x_alloc, zr24, orF_some, Value.cells, eX, ↓reduceIte, Nat.reduceEqDiff, Int.reduceToNat]
  intro b5 hb5
  try have n5_b2 : b2 ≠ b5 := ne_of_none hbA hb5
  try have n5_b12 : b12 ≠ b5 := ne_of_none hbA hb5
  try have n5_b16 : b16 ≠ b5 := ne_of_none hbA hb5
  have f5_H : H b5 = none := none_of_le lhA hb5
  have f5_H14 : H14 b5 = none := none_of_le lhA hb5
  have f5_H14 : H14 b5 = none := none_of_le l18 hb5
  try simp only [eX, ↓reduceIte, Nat.reduceEqDiff, Int.reduceToNat]
  refine hK _ _ ?_; clear hK K
  refine OW_op rfl (lt_none) (fun K hK r => ?_)
  simp only [x_store, eX, ↓reduceIte, Nat.reduceEqDiff, Int.reduceToNat]
  first | refine Lt_storeAll sz24 bdA hbA bdA plA (by decide) ?_ | refine Lt_storeAtA sz24 bdA hbA bdA plA (by decide) ?_
  try simp only [eX, ↓reduceIte, Nat.reduceEqDiff, Int.reduceToNat]
  refine hK _ _ ?_; clear hK K
  refine OW_nil ?_
  try simp only [Ex.thnH, Ex.inBlockH, ↓reduceIte, Nat.reduceEqDiff]
  refine hK3 _ _ ?_; try clear hK3 K3
  refine CW_seq (fun K4 hK4 => ?_)
  refine CW_region ?_
  refine OW_mv rfl ?_
  refine OW_opS (fun K hK r => ?_)
  simp only [x_callF _ bd42, List.map_toArray, List.map_cons, List.map_nil, eX, ↓reduceIte, Nat.reduceEqDiff, Int.reduceToNat]
  refine (rcount_ok H14 _ b16 (rcL r18) r18.isNone (hm18.keep (fun o ho => by rw [upd_ne _ _ (ne_of_none hp18 hb5)]; exact ho)) (le_upd_of l18 f5_H14) hb16 (part_byte hres18 hB) (Nat.le_trans (part_len hres18) (by omega))).mono ?_
  rintro v21 H21 ⟨r21, hres21, rfl, hm21, hk21⟩
  have l21 : Le H14 H21 := hk21.le (le_upd_of l18 f5_H14) hb16
  have n5_16 : b5 ≠ b16 := Ne.symm (ne_of_none hp18 hb5)
  have k21_b5 := hk21 b5 _ (upd_same _ _ _) n5_16
  have hcv := cvN_rng r18
  have hcv2 := cvN_rng r21
  try simp only [eX, ↓reduceIte, Nat.reduceEqDiff, Int.reduceToNat]
  refine hK _ _ ?_; clear hK K
  refine OW_as rfl ?_
  refine OW_nil ?_
  try simp only [Ex.thnH, Ex.inBlockH, ↓reduceIte, Nat.reduceEqDiff]
  refine hK4 _ _ ?_; try clear hK4 K4
  refine CW_seq (fun K5 hK5 => ?_)
  refine CW_seq (fun K6 hK6 => ?_)
  refine CW_region ?_
  refine OW_as rfl ?_
  refine OW_nil ?_
  try simp only [Ex.thnH, Ex.inBlockH, ↓reduceIte, Nat.reduceEqDiff]
  refine hK6 _ _ ?_; try clear hK6 K6
  refine CW_block ?_
  refine CW_loop (fun m e H_ => ∃ (cs : List Cd) (vc : Value) (rs : Option Nat) (l1 : List Int) (bad1 : Bool), m = (if bad1 = true then 0 else l1.length + 1) ∧ (∀ x ∈ cs, x.ok) ∧ cs.length + l1.length ≤ B.length + (if bad1 = true then 1 else 0) ∧ OwnS H_ 47 6 vc cs.length (cds cs) rs ∧ (∀ r, rs = some r → H14 r = none ∧ r ≠ b5 ∧ r ≠ b16) ∧ RM H14 H_ b16 l1 bad1 ∧ ByteL l1 ∧ Le H14 H_ ∧ H_ b5 = some (.cells #[.int .i64 (cvN r18), vc] 24) ∧ DSP B (cvN r18) (cvN r21) cs l1 bad1 ∧ Env.has [(0, .slice av B.length kv), (2, .pointer (some ⟨b2, 0, none⟩)), (4, .pointer (some ⟨b16, 0, none⟩)), (5, .pointer (some ⟨b5, 0, none⟩)), (6, .int .i64 (cvN r21)), (7, .int .i64 cs.length)] e) ((if r21.isNone = true then 0 else (rcL r21).length + 1)) ?_ ?_
  · skip
    exact ⟨[], _, none, rcL r21, r21.isNone, rfl, (fun x hx => by simp at hx), (by have h1 := part_len hres18; have h2 := part_len hres21; simp only [List.length_nil]; omega), OwnS.nil _ _ _, (fun r hr => by cases hr), hm21, part_byte hres21 (part_byte hres18 hB), l21, k21_b5, DSP.rstart hres18 hres21, rfl, rfl, rfl, rfl, rfl, rfl, trivial⟩
  intro m_ e_ H_ hI_
  obtain ⟨cs, vc, rs, l1, bad1, rfl, hcs, hcl, hox, hrs, hm1, hB1, hle1, hk5, hdsp, he⟩ := hI_
  obtain ⟨ac, cc, rfl⟩ := hox.holds.form
  obtain ⟨a1, c1, hp1, hcap1, hh1, hbn1⟩ := id hm1
  have hk2 := hle1 b2 _ k14_b2
  have lH__H : Le H H_ := Le.trans lH14_H hle1
  have hcl' : cs.length + l1.length ≤ B.length + 1 := by split at hcl <;> omega
  refine CW_env he.sub ?_; clear he e_
  refine CW_seq (fun K7 hK7 => ?_)
  refine CW_seq (fun K8 hK8 => ?_)
  refine CW_region ?_
  refine OW_mv rfl ?_
  refine OW_mv rfl ?_
  refine OW_opS (fun K hK r => ?_)
  simp (disch := (first | omega | decide)) only [x_bin, g_int, b_lss, dec_lt_t, dec_lt_f, dec_le_t, dec_le_f, dec_eq_t, dec_eq_f, Bool.not_true, Bool.not_false, eX, ↓reduceIte, Nat.reduceEqDiff, Int.reduceToNat]
  refine hK _ _ ?_; clear hK K
  refine OW_mv rfl ?_
  (first | refine OW_split (d := 25) rfl (fun g25 => ?_) (fun g25 => ?_) | skip)
  all_goals try (exfalso; exact cnA g25)
  all_goals (try simp only [decide_eq_true_eq, decide_eq_false_iff_not, Bool.not_eq_true, Bool.not_eq_false, Bool.and_eq_true, Bool.or_eq_true, Bool.or_eq_false_iff, Bool.not_eq_true, Bool.not_eq_eq_eq_not, Bool.not_true, Bool.not_false] at g25)
  all_goals
    try simp only [eX, ↓reduceIte, Nat.reduceEqDiff, Int.reduceToNat]
    first
    | refine OW_guardT rfl (lt_some (by decide)) rfl (fun K hK r => ?_)
      simp only [x_move, eX, ↓reduceIte, Nat.reduceEqDiff, Int.reduceToNat]
      refine hK _ _ ?_; clear hK K
    | refine OW_guardF rfl (lt_some (by decide)) rfl ?_
      simp only [eX, ↓reduceIte, Nat.reduceEqDiff, Int.reduceToNat]
    first
    | refine OW_guardT rfl (lt_some (by decide)) rfl (fun K hK r => ?_)
      rw [x_nilCheck _ _ rfl]
      simp only [eX, ↓reduceIte, Nat.reduceEqDiff, Int.reduceToNat]
      refine hK _ _ ?_; clear hK K
    | refine OW_guardF rfl (lt_some (by decide)) rfl ?_
      simp only [eX, ↓reduceIte, Nat.reduceEqDiff, Int.reduceToNat]
    first
    | refine OW_guardT rfl (lt_some (by decide)) rfl (fun K hK r => ?_)
      simp only [x_fieldAddr, fa83_1, add_mk, Nat.reduceAdd, Nat.zero_add, eX, ↓reduceIte, Nat.reduceEqDiff, Int.reduceToNat]
      refine hK _ _ ?_; clear hK K
    | refine OW_guardF rfl (lt_some (by decide)) rfl ?_
      simp only [eX, ↓reduceIte, Nat.reduceEqDiff, Int.reduceToNat]
    first
    | refine OW_guardT rfl (lt_some (by decide)) rfl (fun K hK r => ?_)
      simp only [x_load, eX, ↓reduceIte, Nat.reduceEqDiff, Int.reduceToNat]
      refine Lt_loadAt1 Try.underlying4 rfl hbA ldA ?_
      try simp only [eX, ↓reduceIte, Nat.reduceEqDiff, Int.reduceToNat]
      refine hK _ _ ?_; clear hK K
    | refine OW_guardF rfl (lt_some (by decide)) rfl ?_
      simp only [eX, ↓reduceIte, Nat.reduceEqDiff, Int.reduceToNat]
    first
    | refine OW_guardT rfl (lt_some (by decide)) rfl (fun K hK r => ?_)
      simp only [x_un, u_not, eX, ↓reduceIte, Nat.reduceEqDiff, Int.reduceToNat]
      refine hK _ _ ?_; clear hK K
    | refine OW_guardF rfl (lt_some (by decide)) rfl ?_
      simp only [eX, ↓reduceIte, Nat.reduceEqDiff, Int.reduceToNat]
    refine OW_opS (fun K hK r => ?_)
    simp only [x_pick, l_asBool, HL.ite_bool, if_true, if_false, Bool.false_eq_true, eX, ↓reduceIte, Nat.reduceEqDiff, Int.reduceToNat]
    refine hK _ _ ?_; clear hK K
    refine OW_nil ?_
    try simp only [Ex.thnH, Ex.inBlockH, ↓reduceIte, Nat.reduceEqDiff]
    refine hK8 _ _ ?_; try clear hK8 K8
    refine CW_cond (fun r => rfl) (fun c31 => ?_) (fun c31 => ?_)
    · first
      | (exfalso; exact cnA c31; done)
      | skip
        (try simp only [decide_eq_true_eq, decide_eq_false_iff_not, Bool.not_eq_true, Bool.not_eq_false, Bool.and_eq_true, Bool.or_eq_true, Bool.or_eq_false_iff, Bool.not_eq_true, Bool.not_eq_eq_eq_not, Bool.not_true, Bool.not_false] at c31)
        have hbf : bad1 = false := by first | assumption | simpa using c31
        subst hbf
        refine CW_skip ?_
        try simp only [Ex.thnH, Ex.inBlockH, ↓reduceIte, Nat.reduceEqDiff]
        refine hK7 _ _ ?_; try clear hK7 K7
        refine CW_seq (fun K9 hK9 => ?_)
        refine CW_block ?_
        refine CW_seq (fun K10 hK10 => ?_)
        refine CW_region ?_
        refine OW_mv rfl ?_
        refine OW_opS (fun K hK r => ?_)
        simp only [x_callF _ bd43, List.map_toArray, List.map_cons, List.map_nil, eX, ↓reduceIte, Nat.reduceEqDiff, Int.reduceToNat]
        refine (mByte_ok H14 _ b16 l1 false hm1 hle1 hb16 hB1 (by omega)).mono ?_
        rintro v35 H35 ⟨rfl, hm35, hk35⟩
        have hv35 := byV_rng hB1
        have l35 : Le H14 H35 := hk35.le hle1 hb16
        have l35_H : Le H H35 := Le.trans lH14_H l35
        have k35_b5 := hk35 b5 _ hk5 n5_16
        have ho35 := hox.stay (fun b o hb ho => hk35 b o ho ((hrs b hb).2.2))
        obtain ⟨a35, c35, hp35, _⟩ := id hm35
        try simp only [eX, ↓reduceIte, Nat.reduceEqDiff, Int.reduceToNat]
        refine hK _ _ ?_; clear hK K
        refine OW_opS (fun K hK r => ?_)
        simp (disch := (first | omega | decide)) only [x_convert, c_int _ _ _ _ Try.underlying5 Try.underlying3, wrap_i64, wrap_u64, wrap_u32, wrap_u8, eX, ↓reduceIte, Nat.reduceEqDiff, Int.reduceToNat]
        refine hK _ _ ?_; clear hK K
        refine OW_opS (fun K hK r => ?_)
        simp only [x_build, bp47, List.map_toArray, List.map_cons, List.map_nil, eX, ↓reduceIte, Nat.reduceEqDiff, Int.reduceToNat]
        rw [fill_one rfl clA bdA]
        simp only [fill_nil, orF_some, List.setIfInBounds_toArray, List.set_cons_zero, List.set_cons_succ]
        try simp only [eX, ↓reduceIte, Nat.reduceEqDiff, Int.reduceToNat]
        refine hK _ _ ?_; clear hK K
        refine OW_opS (fun K hK r => ?_)
        simp only [x_alloc, zr47, orF_some, Value.cells, eX, ↓reduceIte, Nat.reduceEqDiff, Int.reduceToNat]
        intro b8 hb8
        try have n8_b2 : b2 ≠ b8 := ne_of_none hbA hb8
        try have n8_b12 : b12 ≠ b8 := ne_of_none hbA hb8
        try have n8_b16 : b16 ≠ b8 := ne_of_none hbA hb8
        try have n8_b5 : b5 ≠ b8 := ne_of_none hbA hb8
        have f8_H : H b8 = none := none_of_le lhA hb8
        have f8_H14 : H14 b8 = none := none_of_le lhA hb8
        have n16_8 : b16 ≠ b8 := ne_of_none hp35 hb8
        have nrs8 := ho35.ne_fresh hb8
        try simp only [eX, ↓reduceIte, Nat.reduceEqDiff, Int.reduceToNat]
        refine hK _ _ ?_; clear hK K
        refine OW_op rfl (lt_none) (fun K hK r => ?_)
        simp only [x_store, eX, ↓reduceIte, Nat.reduceEqDiff, Int.reduceToNat]
        first | refine Lt_storeAll sz47 bdA hbA bdA plA (by decide) ?_ | refine Lt_storeAtA sz47 bdA hbA bdA plA (by decide) ?_
        try simp only [eX, ↓reduceIte, Nat.reduceEqDiff, Int.reduceToNat]
        refine hK _ _ ?_; clear hK K
        refine OW_nil ?_
        try simp only [Ex.thnH, Ex.inBlockH, ↓reduceIte, Nat.reduceEqDiff]
        refine hK10 _ _ ?_; try clear hK10 K10
        refine CW_seq (fun K11 hK11 => ?_)
        refine CW_region ?_
        refine OW_opS (fun K hK r => ?_)
        simp only [x_fieldAddr, fa47_0, add_mk, Nat.reduceAdd, Nat.zero_add, eX, ↓reduceIte, Nat.reduceEqDiff, Int.reduceToNat]
        refine hK _ _ ?_; clear hK K
        refine OW_opS (fun K hK r => ?_)
        simp only [x_load, eX, ↓reduceIte, Nat.reduceEqDiff, Int.reduceToNat]
        refine Lt_loadAt1 Try.underlying3 rfl hbA ldA ?_
        try simp only [eX, ↓reduceIte, Nat.reduceEqDiff, Int.reduceToNat]
        refine hK _ _ ?_; clear hK K
        refine OW_opS (fun K hK r => ?_)
        simp only [x_callF _ bd10, List.map_toArray, List.map_cons, List.map_nil, eX, ↓reduceIte, Nat.reduceEqDiff, Int.reduceToNat]
        refine (rshape_ok _ (byV l1)).mono ?_
        rintro v H' ⟨rfl, rfl⟩
        try simp only [eX, ↓reduceIte, Nat.reduceEqDiff, Int.reduceToNat]
        refine hK _ _ ?_; clear hK K
        refine OW_as rfl ?_
        refine OW_nil ?_
        try simp only [Ex.thnH, Ex.inBlockH, ↓reduceIte, Nat.reduceEqDiff]
        refine hK11 _ _ ?_; try clear hK11 K11
        refine CW_seq (fun K12 hK12 => ?_)
        refine CW_seq (fun K13 hK13 => ?_)
        refine CW_region ?_
        refine OW_as rfl ?_
        refine OW_nil ?_
        try simp only [Ex.thnH, Ex.inBlockH, ↓reduceIte, Nat.reduceEqDiff]
        refine hK13 _ _ ?_; try clear hK13 K13
        refine CW_block ?_
        refine CW_loop (fun m e H_ => ∃ (j : Nat) (y : Cd) (l2 : List Int) (bad2 : Bool), j ≤ (shp (byV l1)).length ∧ m = (shp (byV l1)).length - j ∧ y.ok ∧ RM H14 H_ b16 l2 bad2 ∧ ByteL l2 ∧ l2.length ≤ l1.length - 1 ∧ (l1 = [] → bad2 = true) ∧ Le H14 H_ ∧ OwnS H_ 47 6 (.slice ac cs.length cc) cs.length (cds cs) rs ∧ H_ b5 = some (.cells #[.int .i64 (cvN r18), .slice ac cs.length cc] 24) ∧ H_ b8 = some (.cells y.cells.toArray 47) ∧ PS false l1 (byV l1) j y l2 bad2 ∧ Env.has [(0, .slice av B.length kv), (2, .pointer (some ⟨b2, 0, none⟩)), (4, .pointer (some ⟨b16, 0, none⟩)), (5, .pointer (some ⟨b5, 0, none⟩)), (6, .int .i64 (cvN r21)), (7, .int .i64 cs.length), (8, .pointer (some ⟨b8, 0, none⟩)), (9, .string (strOf (shp (byV l1)))), (10, .int .i64 j)] e) ((shp (byV l1)).length) ?_ ?_
        · skip
          exact ⟨0, ⟨byV l1, 0, 0, 0, 0, 0⟩, byL l1, byB l1, by omega, by omega, by constructor <;> simp only <;> omega, hm35.keep (fun o ho => by rw [upd_ne _ _ n16_8]; exact ho), hB1.drop 1, by simp [byL], (fun h => by subst h; rfl), le_upd_of l35 f8_H14, ho35.make hb8, (upd_ne _ _ n8_b5).trans k35_b5, upd_same _ _ _, PS.start, rfl, rfl, rfl, rfl, rfl, rfl, rfl, rfl, rfl, trivial⟩
        intro m_ e_ H_ hI_
        obtain ⟨j, y, l2, bad2, hj, rfl, hyo, hm2, hB2, hl2, hl0, hle2, hox2, hk5', hk8, hps, he⟩ := hI_
        obtain ⟨a2, c2, hp2, hcap2, hh2, hbn2⟩ := id hm2
        have hl5 := shp_len (byV l1)
        have lH__H : Le H H_ := Le.trans lH14_H hle2
        refine CW_env he.sub ?_; clear he e_
        refine CW_seq (fun K14 hK14 => ?_)
        refine CW_seq (fun K15 hK15 => ?_)
        refine CW_region ?_
        refine OW_mv rfl ?_
        refine OW_mv rfl ?_
        refine OW_opS (fun K hK r => ?_)
        simp only [x_builtin, l_len, List.map_toArray, List.map_cons, List.map_nil, i_len_string _ Try.underlying9, eX, ↓reduceIte, Nat.reduceEqDiff, Int.reduceToNat]
        try simp only [strOf_size]
        refine hK _ _ ?_; clear hK K
        refine OW_opS (fun K hK r => ?_)
        simp (disch := (first | omega | decide)) only [x_bin, g_int, b_lss, dec_lt_t, dec_lt_f, dec_le_t, dec_le_f, dec_eq_t, dec_eq_f, Bool.not_true, Bool.not_false, eX, ↓reduceIte, Nat.reduceEqDiff, Int.reduceToNat]
        refine hK _ _ ?_; clear hK K
        refine OW_nil ?_
        try simp only [Ex.thnH, Ex.inBlockH, ↓reduceIte, Nat.reduceEqDiff]
        refine hK15 _ _ ?_; try clear hK15 K15
        refine CW_cond (fun r => rfl) (fun c44 => ?_) (fun c44 => ?_)
        · first
          | (exfalso; exact cnA c44; done)
          | skip
            (try simp only [decide_eq_true_eq, decide_eq_false_iff_not, Bool.not_eq_true, Bool.not_eq_false, Bool.and_eq_true, Bool.or_eq_true, Bool.or_eq_false_iff, Bool.not_eq_true, Bool.not_eq_eq_eq_not, Bool.not_true, Bool.not_false] at c44)
            refine CW_skip ?_
            try simp only [Ex.thnH, Ex.inBlockH, ↓reduceIte, Nat.reduceEqDiff]
            refine hK14 _ _ ?_; try clear hK14 K14
            refine CW_seq (fun K16 hK16 => ?_)
            refine CW_block ?_
            refine CW_seq (fun K17 hK17 => ?_)
            refine CW_seq (fun K18 hK18 => ?_)
            refine CW_region ?_
            refine OW_mv rfl ?_
            refine OW_mv rfl ?_
            refine OW_opS (fun K hK r => ?_)
            simp only [x_index, eX, ↓reduceIte, Nat.reduceEqDiff, Int.reduceToNat]
            refine Lt_letter Try.underlying9 (shp_bytes _) (by omega) ?_
            refine hK _ _ ?_; clear hK K
            refine OW_opS (fun K hK r => ?_)
            simp (disch := (first | omega | decide)) only [x_bin, g_int, b_eql, dec_lt_t, dec_lt_f, dec_le_t, dec_le_f, dec_eq_t, dec_eq_f, Bool.not_true, Bool.not_false, eX, ↓reduceIte, Nat.reduceEqDiff, Int.reduceToNat]
            refine hK _ _ ?_; clear hK K
            refine OW_nil ?_
            try simp only [Ex.thnH, Ex.inBlockH, ↓reduceIte, Nat.reduceEqDiff]
            refine hK18 _ _ ?_; try clear hK18 K18
            refine CW_cond (fun r => rfl) (fun c50 => ?_) (fun c50 => ?_)
            · first
              | (exfalso; exact cnA c50; done)
              | skip
                (try simp only [decide_eq_true_eq, decide_eq_false_iff_not, Bool.not_eq_true, Bool.not_eq_false, Bool.and_eq_true, Bool.or_eq_true, Bool.or_eq_false_iff, Bool.not_eq_true, Bool.not_eq_eq_eq_not, Bool.not_true, Bool.not_false] at c50)
                refine CW_seq (fun K19 hK19 => ?_)
                refine CW_region ?_
                refine OW_mv rfl ?_
                refine OW_opS (fun K hK r => ?_)
                simp only [x_callF _ bd44, List.map_toArray, List.map_cons, List.map_nil, eX, ↓reduceIte, Nat.reduceEqDiff, Int.reduceToNat]
                refine (mNum_ok H14 _ b16 l2 bad2 hm2 hle2 hb16 hB2 (by omega)).mono ?_
                rintro v52 H52 ⟨res, hres, rfl, hm52, hk52⟩
                have l52 : Le H14 H52 := hk52.le hle2 hb16
                have k52_b5 := hk52 b5 _ hk5' n5_16
                have k52_b8 := hk52 b8 _ hk8 (Ne.symm n16_8)
                have ho52 := hox2.stay (fun b o hb ho => hk52 b o ho ((hrs b hb).2.2))
                obtain ⟨a52, c52, hp52, _⟩ := id hm52
                have hu := unzig_rng hres.lt
                try simp only [eX, ↓reduceIte, Nat.reduceEqDiff, Int.reduceToNat]
                refine hK _ _ ?_; clear hK K
                refine OW_opS (fun K hK r => ?_)
                simp only [x_fieldAddr, fa47_5, add_mk, Nat.reduceAdd, Nat.zero_add, eX, ↓reduceIte, Nat.reduceEqDiff, Int.reduceToNat]
                refine hK _ _ ?_; clear hK K
                refine OW_op rfl (lt_none) (fun K hK r => ?_)
                simp only [x_store, eX, ↓reduceIte, Nat.reduceEqDiff, Int.reduceToNat]
                refine Lt_storeAt1 sz3 hbA (show 5 < 6 by decide) plA fzA ?_
                have e1 : foff ((shp (byV l1)).getD j 0) = 5 := by
                  unfold foff
                  repeat' (split <;> try (first | rfl | (exfalso; omega)))
                rw [show (y.cells.toArray).setIfInBounds 5 (Value.int .i64 (unzig (rcN res))) = (y.setf ((shp (byV l1)).getD j 0) _).cells.toArray from by rw [← foff_setA, e1]]
                refine hK _ _ ?_; clear hK K
                refine OW_nil ?_
                try simp only [Ex.thnH, Ex.inBlockH, ↓reduceIte, Nat.reduceEqDiff]
                refine hK19 _ _ ?_; try clear hK19 K19
                refine CW_exit ?_
                try simp only [Ex.thnH, Ex.inBlockH, ↓reduceIte, Nat.reduceEqDiff]
                refine hK16 _ _ ?_; try clear hK16 K16
                refine CW_region ?_
                refine OW_mv rfl ?_
                refine OW_opS (fun K hK r => ?_)
                simp (disch := (first | omega | decide)) only [x_bin, g_int, b_add, wrap_i64, wrap_u64, wrap_u32, wrap_u8, eX, ↓reduceIte, Nat.reduceEqDiff, Int.reduceToNat]
                refine hK _ _ ?_; clear hK K
                refine OW_as rfl ?_
                refine OW_nil ?_
                try simp only [Ex.thnH, Ex.inBlockH, ↓reduceIte, Nat.reduceEqDiff]
                first
                | (refine ⟨(shp (byV l1)).length - (j + 1), by omega, j + 1, y.setf ((shp (byV l1)).getD j 0) (unzig (rcN res)), rcL res, res.isNone, by omega, rfl, setf_ok hyo _ (by omega) (by omega), hm52.keep (fun o ho => by rw [upd_ne _ _ n16_8]; exact ho), part_byte hres hB2, Nat.le_trans (part_len hres) hl2, (fun h => by rw [hres.1 (hl0 h)]; rfl), le_upd_of l52 f8_H14, ho52.upd nrs8, (upd_ne _ _ n8_b5).trans k52_b5, upd_same _ _ _, ?_, rfl, rfl, rfl, rfl, rfl, rfl, rfl, rfl, rfl, trivial⟩
                   rw [show (shp (byV l1)).getD j 0 = 110 by assumption]; exact hps.num (by omega) (by assumption) hres)
                | (refine ⟨(shp (byV l1)).length - (j + 1), by omega, j + 1, y.setf ((shp (byV l1)).getD j 0) (cvN res), rcL res, res.isNone, by omega, rfl, setf_ok hyo _ (by omega) (by omega), hm55.keep (fun o ho => by rw [upd_ne _ _ n16_8]; exact ho), part_byte hres hB2, Nat.le_trans (part_len hres) hl2, (fun h => by rw [hres.1 (hl0 h)]; rfl), le_upd_of l55 f8_H14, ho55.upd nrs8, (upd_ne _ _ n8_b5).trans k55_b5, upd_same _ _ _, ?_, rfl, rfl, rfl, rfl, rfl, rfl, rfl, rfl, rfl, trivial⟩
                   exact hps.roth (by omega) (by assumption) hres)
            · first
              | (exfalso; exact cnA c50; done)
              | skip
                (try simp only [decide_eq_true_eq, decide_eq_false_iff_not, Bool.not_eq_true, Bool.not_eq_false, Bool.and_eq_true, Bool.or_eq_true, Bool.or_eq_false_iff, Bool.not_eq_true, Bool.not_eq_eq_eq_not, Bool.not_true, Bool.not_false] at c50)
                refine CW_skip ?_
                try simp only [Ex.thnH, Ex.inBlockH, ↓reduceIte, Nat.reduceEqDiff]
                refine hK17 _ _ ?_; try clear hK17 K17
                refine CW_seq (fun K20 hK20 => ?_)
                refine CW_region ?_
                refine OW_mv rfl ?_
                refine OW_opS (fun K hK r => ?_)
                simp only [x_callF _ bd42, List.map_toArray, List.map_cons, List.map_nil, eX, ↓reduceIte, Nat.reduceEqDiff, Int.reduceToNat]
                refine (rcount_ok H14 _ b16 l2 bad2 hm2 hle2 hb16 hB2 (by omega)).mono ?_
                rintro v55 H55 ⟨res, hres, rfl, hm55, hk55⟩
                have l55 : Le H14 H55 := hk55.le hle2 hb16
                have k55_b5 := hk55 b5 _ hk5' n5_16
                have k55_b8 := hk55 b8 _ hk8 (Ne.symm n16_8)
                have ho55 := hox2.stay (fun b o hb ho => hk55 b o ho ((hrs b hb).2.2))
                obtain ⟨a55, c55, hp55, _⟩ := id hm55
                have hu := cvN_rng res
                try simp only [eX, ↓reduceIte, Nat.reduceEqDiff, Int.reduceToNat]
                refine hK _ _ ?_; clear hK K
                refine OW_as rfl ?_
                refine OW_nil ?_
                try simp only [Ex.thnH, Ex.inBlockH, ↓reduceIte, Nat.reduceEqDiff]
                refine hK20 _ _ ?_; try clear hK20 K20
                refine CW_seq (fun K21 hK21 => ?_)
                refine CW_region ?_
                refine OW_mv rfl ?_
                refine OW_mv rfl ?_
                refine OW_opS (fun K hK r => ?_)
                simp only [x_index, eX, ↓reduceIte, Nat.reduceEqDiff, Int.reduceToNat]
                refine Lt_letter Try.underlying9 (shp_bytes _) (by omega) ?_
                refine hK _ _ ?_; clear hK K
                refine OW_opS (fun K hK r => ?_)
                simp (disch := (first | omega | decide)) only [x_bin, g_int, b_eql, dec_lt_t, dec_lt_f, dec_le_t, dec_le_f, dec_eq_t, dec_eq_f, Bool.not_true, Bool.not_false, eX, ↓reduceIte, Nat.reduceEqDiff, Int.reduceToNat]
                refine hK _ _ ?_; clear hK K
                refine OW_mv rfl ?_
                (first | refine OW_split (d := 60) rfl (fun g60 => ?_) (fun g60 => ?_) | skip)
                all_goals try (exfalso; exact cnA g60)
                all_goals (try simp only [decide_eq_true_eq, decide_eq_false_iff_not, Bool.not_eq_true, Bool.not_eq_false, Bool.and_eq_true, Bool.or_eq_true, Bool.or_eq_false_iff, Bool.not_eq_true, Bool.not_eq_eq_eq_not, Bool.not_true, Bool.not_false] at g60)
                all_goals
                  try simp only [eX, ↓reduceIte, Nat.reduceEqDiff, Int.reduceToNat]
                  first
                  | refine OW_guardT rfl (lt_some (by decide)) rfl (fun K hK r => ?_)
                    simp only [x_move, eX, ↓reduceIte, Nat.reduceEqDiff, Int.reduceToNat]
                    refine hK _ _ ?_; clear hK K
                  | refine OW_guardF rfl (lt_some (by decide)) rfl ?_
                    simp only [eX, ↓reduceIte, Nat.reduceEqDiff, Int.reduceToNat]
                  first
                  | refine OW_guardT rfl (lt_some (by decide)) rfl (fun K hK r => ?_)
                    simp only [x_move, eX, ↓reduceIte, Nat.reduceEqDiff, Int.reduceToNat]
                    refine hK _ _ ?_; clear hK K
                  | refine OW_guardF rfl (lt_some (by decide)) rfl ?_
                    simp only [eX, ↓reduceIte, Nat.reduceEqDiff, Int.reduceToNat]
                  first
                  | refine OW_guardT rfl (lt_some (by decide)) rfl (fun K hK r => ?_)
                    simp only [x_index, eX, ↓reduceIte, Nat.reduceEqDiff, Int.reduceToNat]
                    refine Lt_letter Try.underlying9 (shp_bytes _) (by omega) ?_
                    refine hK _ _ ?_; clear hK K
                  | refine OW_guardF rfl (lt_some (by decide)) rfl ?_
                    simp only [eX, ↓reduceIte, Nat.reduceEqDiff, Int.reduceToNat]
                  first
                  | refine OW_guardT rfl (lt_some (by decide)) rfl (fun K hK r => ?_)
                    simp (disch := (first | omega | decide)) only [x_bin, g_int, b_eql, dec_lt_t, dec_lt_f, dec_le_t, dec_le_f, dec_eq_t, dec_eq_f, Bool.not_true, Bool.not_false, eX, ↓reduceIte, Nat.reduceEqDiff, Int.reduceToNat]
                    refine hK _ _ ?_; clear hK K
                  | refine OW_guardF rfl (lt_some (by decide)) rfl ?_
                    simp only [eX, ↓reduceIte, Nat.reduceEqDiff, Int.reduceToNat]
                  refine OW_opS (fun K hK r => ?_)
                  simp only [x_pick, l_asBool, HL.ite_bool, if_true, if_false, Bool.false_eq_true, eX, ↓reduceIte, Nat.reduceEqDiff, Int.reduceToNat]
                  refine hK _ _ ?_; clear hK K
                  refine OW_nil ?_
                  try simp only [Ex.thnH, Ex.inBlockH, ↓reduceIte, Nat.reduceEqDiff]
                  refine hK21 _ _ ?_; try clear hK21 K21
                  refine CW_cond (fun r => rfl) (fun c65 => ?_) (fun c65 => ?_)
                  · first
                    | (exfalso; exact cnA c65; done)
                    | skip
                      (try simp only [decide_eq_true_eq, decide_eq_false_iff_not, Bool.not_eq_true, Bool.not_eq_false, Bool.and_eq_true, Bool.or_eq_true, Bool.or_eq_false_iff, Bool.not_eq_true, Bool.not_eq_eq_eq_not, Bool.not_true, Bool.not_false] at c65)
                      refine CW_region ?_
                      refine OW_mv rfl ?_
                      refine OW_opS (fun K hK r => ?_)
                      simp only [x_fieldAddr, fa47_1, add_mk, Nat.reduceAdd, Nat.zero_add, eX, ↓reduceIte, Nat.reduceEqDiff, Int.reduceToNat]
                      refine hK _ _ ?_; clear hK K
                      refine OW_op rfl (lt_none) (fun K hK r => ?_)
                      simp only [x_store, eX, ↓reduceIte, Nat.reduceEqDiff, Int.reduceToNat]
                      refine Lt_storeAt1 sz3 hbA (show 1 < 6 by decide) plA fzA ?_
                      have e1 : foff ((shp (byV l1)).getD j 0) = 1 := by
                        unfold foff
                        repeat' (split <;> try (first | rfl | (exfalso; omega)))
                      rw [show (y.cells.toArray).setIfInBounds 1 (Value.int .i64 (cvN res)) = (y.setf ((shp (byV l1)).getD j 0) _).cells.toArray from by rw [← foff_setA, e1]]
                      refine hK _ _ ?_; clear hK K
                      refine OW_nil ?_
                      try simp only [Ex.thnH, Ex.inBlockH, ↓reduceIte, Nat.reduceEqDiff]
                      refine hK16 _ _ ?_; try clear hK16 K16
                      refine CW_region ?_
                      refine OW_mv rfl ?_
                      refine OW_opS (fun K hK r => ?_)
                      simp (disch := (first | omega | decide)) only [x_bin, g_int, b_add, wrap_i64, wrap_u64, wrap_u32, wrap_u8, eX, ↓reduceIte, Nat.reduceEqDiff, Int.reduceToNat]
                      refine hK _ _ ?_; clear hK K
                      refine OW_as rfl ?_
                      refine OW_nil ?_
                      try simp only [Ex.thnH, Ex.inBlockH, ↓reduceIte, Nat.reduceEqDiff]
                      first
                      | (refine ⟨(shp (byV l1)).length - (j + 1), by omega, j + 1, y.setf ((shp (byV l1)).getD j 0) (unzig (rcN res)), rcL res, res.isNone, by omega, rfl, setf_ok hyo _ (by omega) (by omega), hm52.keep (fun o ho => by rw [upd_ne _ _ n16_8]; exact ho), part_byte hres hB2, Nat.le_trans (part_len hres) hl2, (fun h => by rw [hres.1 (hl0 h)]; rfl), le_upd_of l52 f8_H14, ho52.upd nrs8, (upd_ne _ _ n8_b5).trans k52_b5, upd_same _ _ _, ?_, rfl, rfl, rfl, rfl, rfl, rfl, rfl, rfl, rfl, trivial⟩
                         rw [show (shp (byV l1)).getD j 0 = 110 by assumption]; exact hps.num (by omega) (by assumption) hres)
                      | (refine ⟨(shp (byV l1)).length - (j + 1), by omega, j + 1, y.setf ((shp (byV l1)).getD j 0) (cvN res), rcL res, res.isNone, by omega, rfl, setf_ok hyo _ (by omega) (by omega), hm55.keep (fun o ho => by rw [upd_ne _ _ n16_8]; exact ho), part_byte hres hB2, Nat.le_trans (part_len hres) hl2, (fun h => by rw [hres.1 (hl0 h)]; rfl), le_upd_of l55 f8_H14, ho55.upd nrs8, (upd_ne _ _ n8_b5).trans k55_b5, upd_same _ _ _, ?_, rfl, rfl, rfl, rfl, rfl, rfl, rfl, rfl, rfl, trivial⟩
                         exact hps.roth (by omega) (by assumption) hres)
                  · first
                    | (exfalso; exact cnA c65; done)
                    | skip
                      (try simp only [decide_eq_true_eq, decide_eq_false_iff_not, Bool.not_eq_true, Bool.not_eq_false, Bool.and_eq_true, Bool.or_eq_true, Bool.or_eq_false_iff, Bool.not_eq_true, Bool.not_eq_eq_eq_not, Bool.not_true, Bool.not_false] at c65)
                      refine CW_seq (fun K22 hK22 => ?_)
                      refine CW_region ?_
                      refine OW_mv rfl ?_
                      refine OW_mv rfl ?_
                      refine OW_opS (fun K hK r => ?_)
                      simp only [x_index, eX, ↓reduceIte, Nat.reduceEqDiff, Int.reduceToNat]
                      refine Lt_letter Try.underlying9 (shp_bytes _) (by omega) ?_
                      refine hK _ _ ?_; clear hK K
                      refine OW_opS (fun K hK r => ?_)
                      simp (disch := (first | omega | decide)) only [x_bin, g_int, b_eql, dec_lt_t, dec_lt_f, dec_le_t, dec_le_f, dec_eq_t, dec_eq_f, Bool.not_true, Bool.not_false, eX, ↓reduceIte, Nat.reduceEqDiff, Int.reduceToNat]
                      refine hK _ _ ?_; clear hK K
                      refine OW_nil ?_
                      try simp only [Ex.thnH, Ex.inBlockH, ↓reduceIte, Nat.reduceEqDiff]
                      refine hK22 _ _ ?_; try clear hK22 K22
                      refine CW_cond (fun r => rfl) (fun c71 => ?_) (fun c71 => ?_)
                      · first
                        | (exfalso; exact cnA c71; done)
                        | skip
                          (try simp only [decide_eq_true_eq, decide_eq_false_iff_not, Bool.not_eq_true, Bool.not_eq_false, Bool.and_eq_true, Bool.or_eq_true, Bool.or_eq_false_iff, Bool.not_eq_true, Bool.not_eq_eq_eq_not, Bool.not_true, Bool.not_false] at c71)
                          refine CW_region ?_
                          refine OW_mv rfl ?_
                          refine OW_opS (fun K hK r => ?_)
                          simp only [x_fieldAddr, fa47_2, add_mk, Nat.reduceAdd, Nat.zero_add, eX, ↓reduceIte, Nat.reduceEqDiff, Int.reduceToNat]
                          refine hK _ _ ?_; clear hK K
                          refine OW_op rfl (lt_none) (fun K hK r => ?_)
                          simp only [x_store, eX, ↓reduceIte, Nat.reduceEqDiff, Int.reduceToNat]
                          refine Lt_storeAt1 sz3 hbA (show 2 < 6 by decide) plA fzA ?_
                          have e1 : foff ((shp (byV l1)).getD j 0) = 2 := by
                            unfold foff
                            repeat' (split <;> try (first | rfl | (exfalso; omega)))
                          rw [show (y.cells.toArray).setIfInBounds 2 (Value.int .i64 (cvN res)) = (y.setf ((shp (byV l1)).getD j 0) _).cells.toArray from by rw [← foff_setA, e1]]
                          refine hK _ _ ?_; clear hK K
                          refine OW_nil ?_
                          try simp only [Ex.thnH, Ex.inBlockH, ↓reduceIte, Nat.reduceEqDiff]
                          refine hK16 _ _ ?_; try clear hK16 K16
                          refine CW_region ?_
                          refine OW_mv rfl ?_
                          refine OW_opS (fun K hK r => ?_)
                          simp (disch := (first | omega | decide)) only [x_bin, g_int, b_add, wrap_i64, wrap_u64, wrap_u32, wrap_u8, eX, ↓reduceIte, Nat.reduceEqDiff, Int.reduceToNat]
                          refine hK _ _ ?_; clear hK K
                          refine OW_as rfl ?_
                          refine OW_nil ?_
                          try simp only [Ex.thnH, Ex.inBlockH, ↓reduceIte, Nat.reduceEqDiff]
                          first
                          | (refine ⟨(shp (byV l1)).length - (j + 1), by omega, j + 1, y.setf ((shp (byV l1)).getD j 0) (unzig (rcN res)), rcL res, res.isNone, by omega, rfl, setf_ok hyo _ (by omega) (by omega), hm52.keep (fun o ho => by rw [upd_ne _ _ n16_8]; exact ho), part_byte hres hB2, Nat.le_trans (part_len hres) hl2, (fun h => by rw [hres.1 (hl0 h)]; rfl), le_upd_of l52 f8_H14, ho52.upd nrs8, (upd_ne _ _ n8_b5).trans k52_b5, upd_same _ _ _, ?_, rfl, rfl, rfl, rfl, rfl, rfl, rfl, rfl, rfl, trivial⟩
                             rw [show (shp (byV l1)).getD j 0 = 110 by assumption]; exact hps.num (by omega) (by assumption) hres)
                          | (refine ⟨(shp (byV l1)).length - (j + 1), by omega, j + 1, y.setf ((shp (byV l1)).getD j 0) (cvN res), rcL res, res.isNone, by omega, rfl, setf_ok hyo _ (by omega) (by omega), hm55.keep (fun o ho => by rw [upd_ne _ _ n16_8]; exact ho), part_byte hres hB2, Nat.le_trans (part_len hres) hl2, (fun h => by rw [hres.1 (hl0 h)]; rfl), le_upd_of l55 f8_H14, ho55.upd nrs8, (upd_ne _ _ n8_b5).trans k55_b5, upd_same _ _ _, ?_, rfl, rfl, rfl, rfl, rfl, rfl, rfl, rfl, rfl, trivial⟩
                             exact hps.roth (by omega) (by assumption) hres)
                      · first
                        | (exfalso; exact cnA c71; done)
                        | skip
                          (try simp only [decide_eq_true_eq, decide_eq_false_iff_not, Bool.not_eq_true, Bool.not_eq_false, Bool.and_eq_true, Bool.or_eq_true, Bool.or_eq_false_iff, Bool.not_eq_true, Bool.not_eq_eq_eq_not, Bool.not_true, Bool.not_false] at c71)
                          refine CW_seq (fun K23 hK23 => ?_)
                          refine CW_region ?_
                          refine OW_mv rfl ?_
                          refine OW_mv rfl ?_
                          refine OW_opS (fun K hK r => ?_)
                          simp only [x_index, eX, ↓reduceIte, Nat.reduceEqDiff, Int.reduceToNat]
                          refine Lt_letter Try.underlying9 (shp_bytes _) (by omega) ?_
                          refine hK _ _ ?_; clear hK K
                          refine OW_opS (fun K hK r => ?_)
                          simp (disch := (first | omega | decide)) only [x_bin, g_int, b_eql, dec_lt_t, dec_lt_f, dec_le_t, dec_le_f, dec_eq_t, dec_eq_f, Bool.not_true, Bool.not_false, eX, ↓reduceIte, Nat.reduceEqDiff, Int.reduceToNat]
                          refine hK _ _ ?_; clear hK K
                          refine OW_nil ?_
                          try simp only [Ex.thnH, Ex.inBlockH, ↓reduceIte, Nat.reduceEqDiff]
                          refine hK23 _ _ ?_; try clear hK23 K23
                          refine CW_cond (fun r => rfl) (fun c77 => ?_) (fun c77 => ?_)
                          · first
                            | (exfalso; exact cnA c77; done)
                            | skip
                              (try simp only [decide_eq_true_eq, decide_eq_false_iff_not, Bool.not_eq_true, Bool.not_eq_false, Bool.and_eq_true, Bool.or_eq_true, Bool.or_eq_false_iff, Bool.not_eq_true, Bool.not_eq_eq_eq_not, Bool.not_true, Bool.not_false] at c77)
                              refine CW_region ?_
                              refine OW_mv rfl ?_
                              refine OW_opS (fun K hK r => ?_)
                              simp only [x_fieldAddr, fa47_3, add_mk, Nat.reduceAdd, Nat.zero_add, eX, ↓reduceIte, Nat.reduceEqDiff, Int.reduceToNat]
                              refine hK _ _ ?_; clear hK K
                              refine OW_op rfl (lt_none) (fun K hK r => ?_)
                              simp only [x_store, eX, ↓reduceIte, Nat.reduceEqDiff, Int.reduceToNat]
                              refine Lt_storeAt1 sz3 hbA (show 3 < 6 by decide) plA fzA ?_
                              have e1 : foff ((shp (byV l1)).getD j 0) = 3 := by
                                unfold foff
                                repeat' (split <;> try (first | rfl | (exfalso; omega)))
                              rw [show (y.cells.toArray).setIfInBounds 3 (Value.int .i64 (cvN res)) = (y.setf ((shp (byV l1)).getD j 0) _).cells.toArray from by rw [← foff_setA, e1]]
                              refine hK _ _ ?_; clear hK K
                              refine OW_nil ?_
                              try simp only [Ex.thnH, Ex.inBlockH, ↓reduceIte, Nat.reduceEqDiff]
                              refine hK16 _ _ ?_; try clear hK16 K16
                              refine CW_region ?_
                              refine OW_mv rfl ?_
                              refine OW_opS (fun K hK r => ?_)
                              simp (disch := (first | omega | decide)) only [x_bin, g_int, b_add, wrap_i64, wrap_u64, wrap_u32, wrap_u8, eX, ↓reduceIte, Nat.reduceEqDiff, Int.reduceToNat]
                              refine hK _ _ ?_; clear hK K
                              refine OW_as rfl ?_
                              refine OW_nil ?_
                              try simp only [Ex.thnH, Ex.inBlockH, ↓reduceIte, Nat.reduceEqDiff]
                              first
                              | (refine ⟨(shp (byV l1)).length - (j + 1), by omega, j + 1, y.setf ((shp (byV l1)).getD j 0) (unzig (rcN res)), rcL res, res.isNone, by omega, rfl, setf_ok hyo _ (by omega) (by omega), hm52.keep (fun o ho => by rw [upd_ne _ _ n16_8]; exact ho), part_byte hres hB2, Nat.le_trans (part_len hres) hl2, (fun h => by rw [hres.1 (hl0 h)]; rfl), le_upd_of l52 f8_H14, ho52.upd nrs8, (upd_ne _ _ n8_b5).trans k52_b5, upd_same _ _ _, ?_, rfl, rfl, rfl, rfl, rfl, rfl, rfl, rfl, rfl, trivial⟩
                                 rw [show (shp (byV l1)).getD j 0 = 110 by assumption]; exact hps.num (by omega) (by assumption) hres)
                              | (refine ⟨(shp (byV l1)).length - (j + 1), by omega, j + 1, y.setf ((shp (byV l1)).getD j 0) (cvN res), rcL res, res.isNone, by omega, rfl, setf_ok hyo _ (by omega) (by omega), hm55.keep (fun o ho => by rw [upd_ne _ _ n16_8]; exact ho), part_byte hres hB2, Nat.le_trans (part_len hres) hl2, (fun h => by rw [hres.1 (hl0 h)]; rfl), le_upd_of l55 f8_H14, ho55.upd nrs8, (upd_ne _ _ n8_b5).trans k55_b5, upd_same _ _ _, ?_, rfl, rfl, rfl, rfl, rfl, rfl, rfl, rfl, rfl, trivial⟩
                                 exact hps.roth (by omega) (by assumption) hres)
                          · first
                            | (exfalso; exact cnA c77; done)
                            | skip
                              (try simp only [decide_eq_true_eq, decide_eq_false_iff_not, Bool.not_eq_true, Bool.not_eq_false, Bool.and_eq_true, Bool.or_eq_true, Bool.or_eq_false_iff, Bool.not_eq_true, Bool.not_eq_eq_eq_not, Bool.not_true, Bool.not_false] at c77)
                              refine CW_seq (fun K24 hK24 => ?_)
                              refine CW_region ?_
                              refine OW_mv rfl ?_
                              refine OW_mv rfl ?_
                              refine OW_opS (fun K hK r => ?_)
                              simp only [x_index, eX, ↓reduceIte, Nat.reduceEqDiff, Int.reduceToNat]
                              refine Lt_letter Try.underlying9 (shp_bytes _) (by omega) ?_
                              refine hK _ _ ?_; clear hK K
                              refine OW_opS (fun K hK r => ?_)
                              simp (disch := (first | omega | decide)) only [x_bin, g_int, b_eql, dec_lt_t, dec_lt_f, dec_le_t, dec_le_f, dec_eq_t, dec_eq_f, Bool.not_true, Bool.not_false, eX, ↓reduceIte, Nat.reduceEqDiff, Int.reduceToNat]
                              refine hK _ _ ?_; clear hK K
                              refine OW_nil ?_
                              try simp only [Ex.thnH, Ex.inBlockH, ↓reduceIte, Nat.reduceEqDiff]
                              refine hK24 _ _ ?_; try clear hK24 K24
                              refine CW_cond (fun r => rfl) (fun c83 => ?_) (fun c83 => ?_)
                              · first
                                | (exfalso; exact cnA c83; done)
                                | skip
                                  (try simp only [decide_eq_true_eq, decide_eq_false_iff_not, Bool.not_eq_true, Bool.not_eq_false, Bool.and_eq_true, Bool.or_eq_true, Bool.or_eq_false_iff, Bool.not_eq_true, Bool.not_eq_eq_eq_not, Bool.not_true, Bool.not_false] at c83)
                                  refine CW_region ?_
                                  refine OW_mv rfl ?_
                                  refine OW_opS (fun K hK r => ?_)
                                  simp only [x_fieldAddr, fa47_4, add_mk, Nat.reduceAdd, Nat.zero_add, eX, ↓reduceIte, Nat.reduceEqDiff, Int.reduceToNat]
                                  refine hK _ _ ?_; clear hK K
                                  refine OW_op rfl (lt_none) (fun K hK r => ?_)
                                  simp only [x_store, eX, ↓reduceIte, Nat.reduceEqDiff, Int.reduceToNat]
                                  refine Lt_storeAt1 sz3 hbA (show 4 < 6 by decide) plA fzA ?_
                                  have e1 : foff ((shp (byV l1)).getD j 0) = 4 := by
                                    unfold foff
                                    repeat' (split <;> try (first | rfl | (exfalso; omega)))
                                  rw [show (y.cells.toArray).setIfInBounds 4 (Value.int .i64 (cvN res)) = (y.setf ((shp (byV l1)).getD j 0) _).cells.toArray from by rw [← foff_setA, e1]]
                                  refine hK _ _ ?_; clear hK K
                                  refine OW_nil ?_
                                  try simp only [Ex.thnH, Ex.inBlockH, ↓reduceIte, Nat.reduceEqDiff]
                                  refine hK16 _ _ ?_; try clear hK16 K16
                                  refine CW_region ?_
                                  refine OW_mv rfl ?_
                                  refine OW_opS (fun K hK r => ?_)
                                  simp (disch := (first | omega | decide)) only [x_bin, g_int, b_add, wrap_i64, wrap_u64, wrap_u32, wrap_u8, eX, ↓reduceIte, Nat.reduceEqDiff, Int.reduceToNat]
                                  refine hK _ _ ?_; clear hK K
                                  refine OW_as rfl ?_
                                  refine OW_nil ?_
                                  try simp only [Ex.thnH, Ex.inBlockH, ↓reduceIte, Nat.reduceEqDiff]
                                  first
                                  | (refine ⟨(shp (byV l1)).length - (j + 1), by omega, j + 1, y.setf ((shp (byV l1)).getD j 0) (unzig (rcN res)), rcL res, res.isNone, by omega, rfl, setf_ok hyo _ (by omega) (by omega), hm52.keep (fun o ho => by rw [upd_ne _ _ n16_8]; exact ho), part_byte hres hB2, Nat.le_trans (part_len hres) hl2, (fun h => by rw [hres.1 (hl0 h)]; rfl), le_upd_of l52 f8_H14, ho52.upd nrs8, (upd_ne _ _ n8_b5).trans k52_b5, upd_same _ _ _, ?_, rfl, rfl, rfl, rfl, rfl, rfl, rfl, rfl, rfl, trivial⟩
                                     rw [show (shp (byV l1)).getD j 0 = 110 by assumption]; exact hps.num (by omega) (by assumption) hres)
                                  | (refine ⟨(shp (byV l1)).length - (j + 1), by omega, j + 1, y.setf ((shp (byV l1)).getD j 0) (cvN res), rcL res, res.isNone, by omega, rfl, setf_ok hyo _ (by omega) (by omega), hm55.keep (fun o ho => by rw [upd_ne _ _ n16_8]; exact ho), part_byte hres hB2, Nat.le_trans (part_len hres) hl2, (fun h => by rw [hres.1 (hl0 h)]; rfl), le_upd_of l55 f8_H14, ho55.upd nrs8, (upd_ne _ _ n8_b5).trans k55_b5, upd_same _ _ _, ?_, rfl, rfl, rfl, rfl, rfl, rfl, rfl, rfl, rfl, trivial⟩
                                     exact hps.roth (by omega) (by assumption) hres)
                              · first
                                | (exfalso; exact cnA c83; done)
                                | skip
                                  (try simp only [decide_eq_true_eq, decide_eq_false_iff_not, Bool.not_eq_true, Bool.not_eq_false, Bool.and_eq_true, Bool.or_eq_true, Bool.or_eq_false_iff, Bool.not_eq_true, Bool.not_eq_eq_eq_not, Bool.not_true, Bool.not_false] at c83)
                                  refine CW_region ?_
                                  refine OW_mv rfl ?_
                                  refine OW_opS (fun K hK r => ?_)
                                  simp only [x_fieldAddr, fa47_5, add_mk, Nat.reduceAdd, Nat.zero_add, eX, ↓reduceIte, Nat.reduceEqDiff, Int.reduceToNat]
                                  refine hK _ _ ?_; clear hK K
                                  refine OW_op rfl (lt_none) (fun K hK r => ?_)
                                  simp only [x_store, eX, ↓reduceIte, Nat.reduceEqDiff, Int.reduceToNat]
                                  refine Lt_storeAt1 sz3 hbA (show 5 < 6 by decide) plA fzA ?_
                                  have e1 : foff ((shp (byV l1)).getD j 0) = 5 := by
                                    unfold foff
                                    repeat' (split <;> try (first | rfl | (exfalso; omega)))
                                  rw [show (y.cells.toArray).setIfInBounds 5 (Value.int .i64 (cvN res)) = (y.setf ((shp (byV l1)).getD j 0) _).cells.toArray from by rw [← foff_setA, e1]]
                                  refine hK _ _ ?_; clear hK K
                                  refine OW_nil ?_
                                  try simp only [Ex.thnH, Ex.inBlockH, ↓reduceIte, Nat.reduceEqDiff]
                                  refine hK16 _ _ ?_; try clear hK16 K16
                                  refine CW_region ?_
                                  refine OW_mv rfl ?_
                                  refine OW_opS (fun K hK r => ?_)
                                  simp (disch := (first | omega | decide)) only [x_bin, g_int, b_add, wrap_i64, wrap_u64, wrap_u32, wrap_u8, eX, ↓reduceIte, Nat.reduceEqDiff, Int.reduceToNat]
                                  refine hK _ _ ?_; clear hK K
                                  refine OW_as rfl ?_
                                  refine OW_nil ?_
                                  try simp only [Ex.thnH, Ex.inBlockH, ↓reduceIte, Nat.reduceEqDiff]
                                  first
                                  | (refine ⟨(shp (byV l1)).length - (j + 1), by omega, j + 1, y.setf ((shp (byV l1)).getD j 0) (unzig (rcN res)), rcL res, res.isNone, by omega, rfl, setf_ok hyo _ (by omega) (by omega), hm52.keep (fun o ho => by rw [upd_ne _ _ n16_8]; exact ho), part_byte hres hB2, Nat.le_trans (part_len hres) hl2, (fun h => by rw [hres.1 (hl0 h)]; rfl), le_upd_of l52 f8_H14, ho52.upd nrs8, (upd_ne _ _ n8_b5).trans k52_b5, upd_same _ _ _, ?_, rfl, rfl, rfl, rfl, rfl, rfl, rfl, rfl, rfl, trivial⟩
                                     rw [show (shp (byV l1)).getD j 0 = 110 by assumption]; exact hps.num (by omega) (by assumption) hres)
                                  | (refine ⟨(shp (byV l1)).length - (j + 1), by omega, j + 1, y.setf ((shp (byV l1)).getD j 0) (cvN res), rcL res, res.isNone, by omega, rfl, setf_ok hyo _ (by omega) (by omega), hm55.keep (fun o ho => by rw [upd_ne _ _ n16_8]; exact ho), part_byte hres hB2, Nat.le_trans (part_len hres) hl2, (fun h => by rw [hres.1 (hl0 h)]; rfl), le_upd_of l55 f8_H14, ho55.upd nrs8, (upd_ne _ _ n8_b5).trans k55_b5, upd_same _ _ _, ?_, rfl, rfl, rfl, rfl, rfl, rfl, rfl, rfl, rfl, trivial⟩
                                     exact hps.roth (by omega) (by assumption) hres)
        · first
          | (exfalso; exact cnA c44; done)
          | skip
            (try simp only [decide_eq_true_eq, decide_eq_false_iff_not, Bool.not_eq_true, Bool.not_eq_false, Bool.and_eq_true, Bool.or_eq_true, Bool.or_eq_false_iff, Bool.not_eq_true, Bool.not_eq_eq_eq_not, Bool.not_true, Bool.not_false] at c44)
            refine CW_exit ?_
            try simp only [Ex.thnH, Ex.inBlockH, ↓reduceIte, Nat.reduceEqDiff]
            refine hK12 _ _ ?_; try clear hK12 K12
            refine CW_region ?_
            refine OW_opS (fun K hK r => ?_)
            simp only [x_fieldAddr, fa24_1, add_mk, Nat.reduceAdd, Nat.zero_add, eX, ↓reduceIte, Nat.reduceEqDiff, Int.reduceToNat]
            refine hK _ _ ?_; clear hK K
            refine OW_opS (fun K hK r => ?_)
            simp only [x_load, eX, ↓reduceIte, Nat.reduceEqDiff, Int.reduceToNat]
            refine Lt_loadAt1 Try.underlying22 rfl hbA ldA ?_
            try simp only [eX, ↓reduceIte, Nat.reduceEqDiff, Int.reduceToNat]
            refine hK _ _ ?_; clear hK K
            refine OW_opS (fun K hK r => ?_)
            simp only [x_load, eX, ↓reduceIte, Nat.reduceEqDiff, Int.reduceToNat]
            first | refine Lt_loadAll Try.underlying47 rfl sz47 hbA bdA ?_ | refine Lt_loadAtA Try.underlying47 rfl sz47 hbA bdA ?_
            try simp only [List.extract_toArray, List.extract_eq_take_drop, Nat.zero_add, Nat.reduceAdd, Nat.reduceSub, Nat.sub_zero, List.drop_succ_cons, List.drop_zero, List.take_succ_cons, List.take_zero, List.take_nil, List.drop_nil]
            try simp only [eX, ↓reduceIte, Nat.reduceEqDiff, Int.reduceToNat]
            refine hK _ _ ?_; clear hK K
            refine OW_opS (fun K hK r => ?_)
            simp only [x_buildSlice, List.map_toArray, List.map_cons, List.map_nil, eX, ↓reduceIte, Nat.reduceEqDiff, Int.reduceToNat]
            refine Lt_buildSlice (vs := [_]) Try.underlying22 sz47 zr47 rfl bsA (by first | decide | (simp; done)) ?_
            simp only [List.flatMap_cons, List.flatMap_nil, Value.cells, List.append_nil, List.cons_append, List.nil_append, List.length_cons, List.length_nil, Nat.zero_add, Nat.reduceAdd]
            intro b91 hb91
            try have n91_b2 : b2 ≠ b91 := ne_of_none hbA hb91
            try have n91_b12 : b12 ≠ b91 := ne_of_none hbA hb91
            try have n91_b16 : b16 ≠ b91 := ne_of_none hbA hb91
            try have n91_b5 : b5 ≠ b91 := ne_of_none hbA hb91
            try have n91_b8 : b8 ≠ b91 := ne_of_none hbA hb91
            have f91_H : H b91 = none := none_of_le lhA hb91
            have f91_H14 : H14 b91 = none := none_of_le lhA hb91
            try simp only [eX, ↓reduceIte, Nat.reduceEqDiff, Int.reduceToNat]
            refine hK _ _ ?_; clear hK K
            refine OW_opS (fun K hK r => ?_)
            simp only [x_builtin, l_append, List.map_toArray, List.map_cons, List.map_nil, eX, ↓reduceIte, Nat.reduceEqDiff, Int.reduceToNat]
            refine Lt_append Try.underlying22 Try.underlying22 (by simp) sz47 by47 (by decide) zr47 rfl _ (n := cs.length) (m := 1) (cs := cds cs) (ds := y.cells) (hox2.make hb91) (fun K => len_slice _ _ _ K) (fun K => first_slice (w := 6) (n := 1) (cs := y.cells) ⟨rfl, .inr ⟨b91, 0, 1, _, _, _, rfl, hbA, by simp, by simp⟩⟩ K) rfl (by show PlainL y.cells; exact plA) (by omega) ?_
            intro v92 H92 rs92 hg92 ho92 hr92
            have l92 : Le H14 H92 := hg92.le (H0 := H14) lhA (fun r hr => (hrs r hr).1)
            have k92_b5 := hg92.known b5 _ hbA (fun e => (hrs b5 e).2.1 rfl)
            have n91_16 : b16 ≠ b91 := ne_of_none hp2 hb91
            have hm92 : RM H14 H92 b16 l2 bad2 := hm2.keep (fun o ho => hg92.known b16 o (by rw [upd_ne _ _ n91_16]; exact ho) (fun e => (hrs b16 e).2.2 rfl))
            have f92 : ∀ r, rs92 = some r → H14 r = none ∧ r ≠ b5 ∧ r ≠ b16 := fun r hr => by
              rcases hr92 r hr with h | h
              · exact hrs r h
              · exact ⟨none_of_le lhA h, (fun e => by subst e; rw [upd_ne _ _ n91_b5, hk5'] at h; cases h), (fun e => by subst e; rw [upd_ne _ _ n91_16, hp2] at h; cases h)⟩
            obtain ⟨a92, c92, rfl⟩ := ho92.holds.form
            refine hK _ _ ?_; clear hK K
            refine OW_opS (fun K hK r => ?_)
            simp only [x_fieldAddr, fa24_1, add_mk, Nat.reduceAdd, Nat.zero_add, eX, ↓reduceIte, Nat.reduceEqDiff, Int.reduceToNat]
            refine hK _ _ ?_; clear hK K
            refine OW_op rfl (lt_none) (fun K hK r => ?_)
            simp only [x_store, eX, ↓reduceIte, Nat.reduceEqDiff, Int.reduceToNat]
            refine Lt_storeAt1 sz22 hbA bdA plA fzA ?_
            try simp only [setL0, setL1, setL2, setL3, setL4, setL5, setL6, setL7, setL8, setL9]
            try simp only [eX, ↓reduceIte, Nat.reduceEqDiff, Int.reduceToNat]
            refine hK _ _ ?_; clear hK K
            refine OW_nil ?_
            try simp only [Ex.thnH, Ex.inBlockH, ↓reduceIte, Nat.reduceEqDiff]
            refine hK9 _ _ ?_; try clear hK9 K9
            refine CW_region ?_
            refine OW_mv rfl ?_
            refine OW_opS (fun K hK r => ?_)
            simp (disch := (first | omega | decide)) only [x_bin, g_int, b_add, wrap_i64, wrap_u64, wrap_u32, wrap_u8, eX, ↓reduceIte, Nat.reduceEqDiff, Int.reduceToNat]
            refine hK _ _ ?_; clear hK K
            refine OW_as rfl ?_
            refine OW_nil ?_
            try simp only [Ex.thnH, Ex.inBlockH, ↓reduceIte, Nat.reduceEqDiff]
            have hj' : j = (shp (byV l1)).length := by omega
            refine ⟨(if bad2 = true then 0 else l2.length + 1), ?_, cs ++ [y], .slice a92 _ c92, rs92, l2, bad2, rfl, ?_, ?_, ?_, f92, ?_, hB2, ?_, upd_same _ _ _, hdsp.step (by omega) (hps.done hj'), rfl, rfl, rfl, rfl, rfl, ?_, trivial⟩
            · cases bad2 with
              | true => simp
              | false =>
                have hne : l1 ≠ [] := fun h => by have := hl0 h; cases this
                have := List.length_pos_iff.2 hne
                simp; omega
            · intro z hz
              rcases List.mem_append.1 hz with hz | hz
              · exact hcs z hz
              · rw [List.mem_singleton.1 hz]; exact hyo
            · simp only [List.length_append, List.length_singleton]
              cases bad2 with
              | true => simp at hcl ⊢; omega
              | false =>
                have hne : l1 ≠ [] := fun h => by have := hl0 h; cases this
                have := List.length_pos_iff.2 hne
                simp at hcl ⊢; omega
            · rw [List.length_append, List.length_singleton, cds, List.flatMap_append]; simpa using ho92.upd (fun e => (f92 b5 e).2.1 rfl)
            · exact hm92.keep (fun o ho => by rw [upd_ne _ _ (Ne.symm n5_16)]; exact ho)
            · exact le_upd_of l92 f5_H14
            · show some (Value.int _ _) = _
              simp
    · first
      | (exfalso; exact cnA c31; done)
      | skip
        (try simp only [decide_eq_true_eq, decide_eq_false_iff_not, Bool.not_eq_true, Bool.not_eq_false, Bool.and_eq_true, Bool.or_eq_true, Bool.or_eq_false_iff, Bool.not_eq_true, Bool.not_eq_eq_eq_not, Bool.not_true, Bool.not_false] at c31)
        have hend : ¬ ((cs.length : Int) < cvN r21) ∨ bad1 = true := by first | (left; omega) | (right; first | assumption | simpa using c31)
        refine CW_exit ?_
        try simp only [Ex.thnH, Ex.inBlockH, ↓reduceIte, Nat.reduceEqDiff]
        refine hK5 _ _ ?_; try clear hK5 K5
        refine CW_seq (fun K25 hK25 => ?_)
        refine CW_seq (fun K26 hK26 => ?_)
        refine CW_drawE [0, 5, 0, 0, 1, 5, 0, 0, 0, 1, 6, 1, 0, 1, 0, 0] [0, 1, 2, 3, 4, 5, 6, 7, 8, 9, 12, 13, 10, 11, 14, 15] (by kernel_rfl) (by kernel_rfl) (fun R25 hR25 => ?_)
        apply TW_pure rfl (lt_some (by decide)) rfl
        · intro r
          simp only [x_move, eX, ↓reduceIte, Nat.reduceEqDiff]
          exact ⟨rfl, Le.refl _⟩
        simp only [eX, ↓reduceIte, Nat.reduceEqDiff, Int.reduceToNat]
        refine TW_fence rfl (lt_some (by decide)) rfl (fun K hK r => ?_)
        simp only [x_callF _ bd45, List.map_toArray, List.map_cons, List.map_nil, eX, ↓reduceIte, Nat.reduceEqDiff, Int.reduceToNat]
        refine (mDone_ok H14 _ b16 l1 bad1 hm1).mono ?_
        rintro v H' ⟨rfl, rfl⟩
        try simp only [eX, ↓reduceIte, Nat.reduceEqDiff, Int.reduceToNat]
        refine hK _ _ (fun R95_ hR95_ => ?_); clear hK K
        apply TW_pure rfl (lt_some (by decide)) rfl
        · intro r
          simp only [x_un, u_not, eX, ↓reduceIte, Nat.reduceEqDiff]
          exact ⟨rfl, Le.refl _⟩
        simp only [eX, ↓reduceIte, Nat.reduceEqDiff, Int.reduceToNat]
        apply TW_pure rfl (lt_some (by decide)) rfl
        · intro r
          simp only [x_move, eX, ↓reduceIte, Nat.reduceEqDiff]
          exact ⟨rfl, Le.refl _⟩
        simp only [eX, ↓reduceIte, Nat.reduceEqDiff, Int.reduceToNat]
        (first | refine TW_split (d := 97) rfl (fun g97 => ?_) (fun g97 => ?_) | skip)
        all_goals try (exfalso; exact cnA g97)
        all_goals (try simp only [decide_eq_true_eq, decide_eq_false_iff_not, Bool.not_eq_true, Bool.not_eq_false, Bool.and_eq_true, Bool.or_eq_true, Bool.or_eq_false_iff, Bool.not_eq_true, Bool.not_eq_eq_eq_not, Bool.not_true, Bool.not_false] at g97)
        all_goals
          try simp only [eX, ↓reduceIte, Nat.reduceEqDiff, Int.reduceToNat]
          first
          | apply TW_lookG rfl (lt_some (by decide)) rfl rfl
            · intro r
              simp only [x_load, eX, ↓reduceIte, Nat.reduceEqDiff]
              first | refine Lt_loadAll Try.underlying24 rfl sz24 hbA bdA ?_ | refine Lt_loadAtA Try.underlying24 rfl sz24 hbA bdA ?_
              try simp only [List.extract_toArray, List.extract_eq_take_drop, Nat.zero_add, Nat.reduceAdd, Nat.reduceSub, Nat.sub_zero, List.drop_succ_cons, List.drop_zero, List.take_succ_cons, List.take_zero, List.take_nil, List.drop_nil]
              exact ⟨rfl, Le.refl _⟩
            simp only [eX, ↓reduceIte, Nat.reduceEqDiff, Int.reduceToNat]
          | refine TW_guardF rfl (lt_some (by decide)) rfl ?_
            simp only [eX, ↓reduceIte, Nat.reduceEqDiff, Int.reduceToNat]
          first
          | refine TW_fenceG rfl (lt_some (by decide)) rfl rfl (fun K hK r => ?_)
            simp only [x_callF _ bd15, List.map_toArray, List.map_cons, List.map_nil, eX, ↓reduceIte, Nat.reduceEqDiff, Int.reduceToNat]
            refine (rcheck_ok _ (cvN r18) _ cs (hox.holds.le lhA) (by omega)).mono ?_
            rintro v99 H99 ⟨rfl, hl99⟩
            try have kH99_b2 := hl99 b2 _ hbA
            try have kH99_b12 := hl99 b12 _ hbA
            try have kH99_b16 := hl99 b16 _ hbA
            try have kH99_b5 := hl99 b5 _ hbA
            have lH99_H : Le H H99 := Le.trans lhA hl99
            have lH99_H14 : Le H14 H99 := Le.trans lhA hl99
            have lH99_R25 : Le R25 H99 := Le.trans lhA hl99
            try have lH99_R95_ : Le R95_ H99 := Le.trans lhA hl99
            try simp only [eX, ↓reduceIte, Nat.reduceEqDiff, Int.reduceToNat]
            refine hK _ _ (fun R99_ hR99_ => ?_); clear hK K
          | refine TW_guardF rfl (lt_some (by decide)) rfl ?_
            simp only [eX, ↓reduceIte, Nat.reduceEqDiff, Int.reduceToNat]
          first
          | apply TW_pureG rfl (lt_some (by decide)) rfl rfl
            · intro r
              simp (disch := (first | omega | decide)) only [x_bin, g_int, b_neq, dec_lt_t, dec_lt_f, dec_le_t, dec_le_f, dec_eq_t, dec_eq_f, Bool.not_true, Bool.not_false, eX, ↓reduceIte, Nat.reduceEqDiff]
              exact ⟨rfl, Le.refl _⟩
            simp only [eX, ↓reduceIte, Nat.reduceEqDiff, Int.reduceToNat]
          | refine TW_guardF rfl (lt_some (by decide)) rfl ?_
            simp only [eX, ↓reduceIte, Nat.reduceEqDiff, Int.reduceToNat]
          apply TW_pure rfl (lt_some (by decide)) rfl
          · intro r
            simp only [x_pick, l_asBool, HL.ite_bool, if_true, if_false, Bool.false_eq_true, eX, ↓reduceIte, Nat.reduceEqDiff]
            exact ⟨rfl, Le.refl _⟩
          simp only [eX, ↓reduceIte, Nat.reduceEqDiff, Int.reduceToNat]
          apply TW_pure rfl (lt_some (by decide)) rfl
          · intro r
            simp only [x_move, eX, ↓reduceIte, Nat.reduceEqDiff]
            exact ⟨rfl, Le.refl _⟩
          simp only [eX, ↓reduceIte, Nat.reduceEqDiff, Int.reduceToNat]
          (first | refine TW_split (d := 102) rfl (fun g102 => ?_) (fun g102 => ?_) | skip)
          all_goals try (exfalso; exact cnA g102)
          all_goals (try simp only [decide_eq_true_eq, decide_eq_false_iff_not, Bool.not_eq_true, Bool.not_eq_false, Bool.and_eq_true, Bool.or_eq_true, Bool.or_eq_false_iff, Bool.not_eq_true, Bool.not_eq_eq_eq_not, Bool.not_true, Bool.not_false] at g102)
          all_goals
            try simp only [eX, ↓reduceIte, Nat.reduceEqDiff, Int.reduceToNat]
            first
            | apply TW_lookG rfl (lt_some (by decide)) rfl rfl
              · intro r
                simp only [x_load, eX, ↓reduceIte, Nat.reduceEqDiff]
                first | refine Lt_loadAll Try.underlying24 rfl sz24 hbA bdA ?_ | refine Lt_loadAtA Try.underlying24 rfl sz24 hbA bdA ?_
                try simp only [List.extract_toArray, List.extract_eq_take_drop, Nat.zero_add, Nat.reduceAdd, Nat.reduceSub, Nat.sub_zero, List.drop_succ_cons, List.drop_zero, List.take_succ_cons, List.take_zero, List.take_nil, List.drop_nil]
                exact ⟨rfl, Le.refl _⟩
              simp only [eX, ↓reduceIte, Nat.reduceEqDiff, Int.reduceToNat]
            | refine TW_guardF rfl (lt_some (by decide)) rfl ?_
              simp only [eX, ↓reduceIte, Nat.reduceEqDiff, Int.reduceToNat]
            first
            | apply TW_pureG rfl (lt_some (by decide)) rfl rfl
              · intro r
                simp only [x_move, eX, ↓reduceIte, Nat.reduceEqDiff]
                exact ⟨rfl, Le.refl _⟩
              simp only [eX, ↓reduceIte, Nat.reduceEqDiff, Int.reduceToNat]
            | refine TW_guardF rfl (lt_some (by decide)) rfl ?_
              simp only [eX, ↓reduceIte, Nat.reduceEqDiff, Int.reduceToNat]
            first
            | apply TW_lookG rfl (lt_some (by decide)) rfl rfl
              · intro r
                simp only [x_convert, eX, ↓reduceIte, Nat.reduceEqDiff]
                refine Lt_convBS Try.underlying33 Try.underlying5 Try.underlying9 (l := B) (hv.le (by first | (rw [hR104_]; exact lH104_H) | (rw [hR99_]; exact lH99_H) | (rw [hR95_]; exact lhA) | (rw [hR25]; exact lhA) | exact lhA)) ?_
                exact ⟨rfl, Le.refl _⟩
              simp only [eX, ↓reduceIte, Nat.reduceEqDiff, Int.reduceToNat]
            | refine TW_guardF rfl (lt_some (by decide)) rfl ?_
              simp only [eX, ↓reduceIte, Nat.reduceEqDiff, Int.reduceToNat]
            first
            | refine TW_growG rfl (lt_some (by decide)) rfl rfl (fun K hK r => ?_)
              simp only [x_callF _ bd20, List.map_toArray, List.map_cons, List.map_nil, eX, ↓reduceIte, Nat.reduceEqDiff, Int.reduceToNat]
              refine (rEncode_ok _ (cvN r18) _ cs (hox.holds.le lhA) (by omega) hcs).mono ?_
              rintro v104 H104 ⟨hl104, rs104, ho104, hr104⟩
              try have kH104_b2 := hl104 b2 _ hbA
              try have kH104_b12 := hl104 b12 _ hbA
              try have kH104_b16 := hl104 b16 _ hbA
              try have kH104_b5 := hl104 b5 _ hbA
              have lH104_H : Le H H104 := Le.trans lhA hl104
              have lH104_H14 : Le H14 H104 := Le.trans lhA hl104
              have lH104_R25 : Le R25 H104 := Le.trans lhA hl104
              try have lH104_R95_ : Le R95_ H104 := Le.trans lhA hl104
              try have lH104_R99_ : Le R99_ H104 := Le.trans lhA hl104
              obtain ⟨a104, c104, rfl⟩ := ho104.holds.form
              try simp only [eX, ↓reduceIte, Nat.reduceEqDiff, Int.reduceToNat]
              refine hK _ _ leA (fun R104_ hR104_ => ?_); clear hK K
            | refine TW_guardF rfl (lt_some (by decide)) rfl ?_
              simp only [eX, ↓reduceIte, Nat.reduceEqDiff, Int.reduceToNat]
            first
            | apply TW_lookG rfl (lt_some (by decide)) rfl rfl
              · intro r
                simp only [x_convert, eX, ↓reduceIte, Nat.reduceEqDiff]
                refine Lt_convBS Try.underlying33 Try.underlying5 Try.underlying9 (l := encP (cvN r18) cs) (ho104.holds.le (by first | (rw [hR104_]; exact Le.refl _) | exact lhA)) ?_
                exact ⟨rfl, Le.refl _⟩
              simp only [eX, ↓reduceIte, Nat.reduceEqDiff, Int.reduceToNat]
            | refine TW_guardF rfl (lt_some (by decide)) rfl ?_
              simp only [eX, ↓reduceIte, Nat.reduceEqDiff, Int.reduceToNat]
            first
            | apply TW_pureG rfl (lt_some (by decide)) rfl rfl
              · intro r
                simp only [x_bin, g_string, b_sneq, eX, ↓reduceIte, Nat.reduceEqDiff]
                rw [strOf_beq (encP_bytes _ _) hB]
                exact ⟨rfl, Le.refl _⟩
              simp only [eX, ↓reduceIte, Nat.reduceEqDiff, Int.reduceToNat]
            | refine TW_guardF rfl (lt_some (by decide)) rfl ?_
              simp only [eX, ↓reduceIte, Nat.reduceEqDiff, Int.reduceToNat]
            apply TW_pure rfl (lt_some (by decide)) rfl
            · intro r
              simp only [x_pick, l_asBool, HL.ite_bool, if_true, if_false, Bool.false_eq_true, eX, ↓reduceIte, Nat.reduceEqDiff]
              exact ⟨rfl, Le.refl _⟩
            simp only [eX, ↓reduceIte, Nat.reduceEqDiff, Int.reduceToNat]
            refine TW_nil ?_
            try simp only [Ex.thnH, Ex.inBlockH, ↓reduceIte, Nat.reduceEqDiff]
            refine hK26 _ _ ?_; try clear hK26 K26
            refine CW_cond (fun r => rfl) (fun c109 => ?_) (fun c109 => ?_)
            · first
              | (exfalso; exact cnA c109; done)
              | skip
                (try simp only [decide_eq_true_eq, decide_eq_false_iff_not, Bool.not_eq_true, Bool.not_eq_false, Bool.and_eq_true, Bool.or_eq_true, Bool.or_eq_false_iff, Bool.not_eq_true, Bool.not_eq_eq_eq_not, Bool.not_true, Bool.not_false] at c109)
                refine CW_seq (fun K27 hK27 => ?_)
                refine CW_region ?_
                refine OW_opS (fun K hK r => ?_)
                simp only [x_build, bp24, List.map_toArray, List.map_cons, List.map_nil, eX, ↓reduceIte, Nat.reduceEqDiff, Int.reduceToNat]
                simp only [fill_nil, orF_some, List.setIfInBounds_toArray, List.set_cons_zero, List.set_cons_succ]
                try simp only [eX, ↓reduceIte, Nat.reduceEqDiff, Int.reduceToNat]
                refine hK _ _ ?_; clear hK K
                refine OW_op rfl (lt_none) (fun K hK r => ?_)
                simp only [x_store, eX, ↓reduceIte, Nat.reduceEqDiff, Int.reduceToNat]
                first | refine Lt_storeAll sz24 bdA hbA bdA plA (by decide) ?_ | refine Lt_storeAtA sz24 bdA hbA bdA plA (by decide) ?_
                try simp only [eX, ↓reduceIte, Nat.reduceEqDiff, Int.reduceToNat]
                refine hK _ _ ?_; clear hK K
                refine OW_as rfl ?_
                refine OW_nil ?_
                try simp only [Ex.thnH, Ex.inBlockH, ↓reduceIte, Nat.reduceEqDiff]
                refine hK27 _ _ ?_; try clear hK27 K27
                refine CW_ret ?_
                try simp only [Ex.thnH, Ex.inBlockH, ↓reduceIte, Nat.reduceEqDiff]
                have hbadd : (∀ (g : Int) (ds : List Cd), (∀ x ∈ ds, x.ok) → GoodP g ds → encP g ds ≠ B) := by
                  intro g ds hd hg he
                  obtain ⟨e1, e2, e3, e4⟩ := hdsp.rdone hend hd hg he
                  subst e2
                  have hgf : checkP (cvN r18) cs = -2 := by rw [e1]; exact hg
                  have henc : encP (cvN r18) cs = B := by rw [e1, he]
                  first
                  | (exact absurd henc (by assumption))
                  | (exact absurd hgf (by assumption))
                  | (simp [e3, e4] at g97; done)
                  | (simp_all; done)
                refine ⟨[_, _], ⟨⟨_, rfl, Lq_loadAll Try.underlying24 rfl sz24 hbA bdA⟩, rfl, trivial⟩, _, Le.refl _, lhA, 0, [], _, false, rfl, .inr ⟨rfl, rfl, rfl, hbadd⟩, (fun x hx => by simp at hx), none, OwnS.nil _ _ _, fun r hr => by cases hr⟩
            · first
              | (exfalso; exact cnA c109; done)
              | skip
                (try simp only [decide_eq_true_eq, decide_eq_false_iff_not, Bool.not_eq_true, Bool.not_eq_false, Bool.and_eq_true, Bool.or_eq_true, Bool.or_eq_false_iff, Bool.not_eq_true, Bool.not_eq_eq_eq_not, Bool.not_true, Bool.not_false] at c109)
                refine CW_skip ?_
                try simp only [Ex.thnH, Ex.inBlockH, ↓reduceIte, Nat.reduceEqDiff]
                refine hK25 _ _ ?_; try clear hK25 K25
                refine CW_seq (fun K28 hK28 => ?_)
                refine CW_region ?_
                refine OW_opS (fun K hK r => ?_)
                simp only [x_load, eX, ↓reduceIte, Nat.reduceEqDiff, Int.reduceToNat]
                first | refine Lt_loadAll Try.underlying24 rfl sz24 hbA bdA ?_ | refine Lt_loadAtA Try.underlying24 rfl sz24 hbA bdA ?_
                try simp only [List.extract_toArray, List.extract_eq_take_drop, Nat.zero_add, Nat.reduceAdd, Nat.reduceSub, Nat.sub_zero, List.drop_succ_cons, List.drop_zero, List.take_succ_cons, List.take_zero, List.take_nil, List.drop_nil]
                try simp only [eX, ↓reduceIte, Nat.reduceEqDiff, Int.reduceToNat]
                refine hK _ _ ?_; clear hK K
                refine OW_op rfl (lt_none) (fun K hK r => ?_)
                simp only [x_store, eX, ↓reduceIte, Nat.reduceEqDiff, Int.reduceToNat]
                first | refine Lt_storeAll sz24 bdA hbA bdA plA (by decide) ?_ | refine Lt_storeAtA sz24 bdA hbA bdA plA (by decide) ?_
                try simp only [eX, ↓reduceIte, Nat.reduceEqDiff, Int.reduceToNat]
                refine hK _ _ ?_; clear hK K
                refine OW_as rfl ?_
                refine OW_nil ?_
                try simp only [Ex.thnH, Ex.inBlockH, ↓reduceIte, Nat.reduceEqDiff]
                refine hK28 _ _ ?_; try clear hK28 K28
                refine CW_ret ?_
                try simp only [Ex.thnH, Ex.inBlockH, ↓reduceIte, Nat.reduceEqDiff]
                have hgood : GoodP (cvN r18) cs := by first | assumption | (simp_all [GoodP]; done)
                have henc : encP (cvN r18) cs = B := by first | assumption | (simp_all; done)
                refine ⟨[_, _], ⟨⟨_, rfl, Lq_loadAll Try.underlying24 rfl sz24 hbA bdA⟩, rfl, trivial⟩, _, Le.refl _, lhA, _, cs, _, true, rfl, .inl ⟨rfl, hgood, henc⟩, hcs, rs, (hox.le (Le.trans hl99 hl104)).upd (fun e => by have h1 := (hrs b2 e).1; rw [k14_b2] at h1; cases h1), fun r hr => none_of_le lH14_H (hrs r hr).1⟩

end Go.Proofs.Ytlkopcgoaldpeaa.HL
end
section
namespace Go.Proofs.Ytlkopcgoaldpeaa.HL
open Go Go.Proofs
set_option linter.unusedSimpArgs false
set_option linter.unusedVariables false
attribute [local irreducible] Lt Lq CW OW TW CallH

set_option maxRecDepth 100000 in
set_option maxHeartbeats 1000000 in
theorem num_Same (H : Hp) (va vb : Value) (n m : Nat) (a b : List Int) (ha : Holds H 1 va n (u8s a)) (hb : Holds H 1 vb m (u8s b)) (wa : ByteL a) (wb : ByteL b) :
    CallH Try.prog 19 #[va, vb] H (fun v H' => v = .bool (decide (a = b)) ∧ H' = H) := by
  refine CallH_enter (l := [_, _]) (rl := [.tmp 4]) (n := 10) Try.func19 rfl rfl rfl rfl rfl ?_
  simp only [envOf, Nat.reduceAdd]
  refine CW_seq (fun K1 hK1 => ?_)
  refine CW_region ?_
  refine OW_as rfl ?_
  refine OW_nil ?_
  try simp only [Ex.thnH, Ex.inBlockH, ↓reduceIte, Nat.reduceEqDiff]
  refine hK1 _ _ ?_; try clear hK1 K1
  refine CW_seq (fun K2 hK2 => ?_)
  refine CW_region ?_
  refine OW_mv rfl ?_
  refine OW_opS (fun K hK r => ?_)
  simp only [x_convert, eX, ↓reduceIte, Nat.reduceEqDiff, Int.reduceToNat]
  refine Lt_convBS Try.underlying33 Try.underlying5 Try.underlying9 hdA ?_
  try simp only [eX, ↓reduceIte, Nat.reduceEqDiff, Int.reduceToNat]
  refine hK _ _ ?_; clear hK K
  refine OW_mv rfl ?_
  refine OW_opS (fun K hK r => ?_)
  simp only [x_convert, eX, ↓reduceIte, Nat.reduceEqDiff, Int.reduceToNat]
  refine Lt_convBS Try.underlying33 Try.underlying5 Try.underlying9 hdA ?_
  try simp only [eX, ↓reduceIte, Nat.reduceEqDiff, Int.reduceToNat]
  refine hK _ _ ?_; clear hK K
  refine OW_opS (fun K hK r => ?_)
  simp only [x_bin, g_string, b_seql, eX, ↓reduceIte, Nat.reduceEqDiff, Int.reduceToNat]
  refine hK _ _ ?_; clear hK K
  refine OW_as rfl ?_
  refine OW_nil ?_
  try simp only [Ex.thnH, Ex.inBlockH, ↓reduceIte, Nat.reduceEqDiff]
  refine hK2 _ _ ?_; try clear hK2 K2
  refine CW_ret ?_
  try simp only [Ex.thnH, Ex.inBlockH, ↓reduceIte, Nat.reduceEqDiff]
  refine ⟨[_], ⟨rfl, trivial⟩, H, Le.refl _, ?_, rfl⟩
  show Value.bool _ = _
  rw [strOf_beq wa wb]


theorem copy_cells (l : List Int) : (putCells (putCells (Builtin.zeroCells (Value.int .u8 0).cells ((l.length : Int) + 2).toNat) 0 (u8s l)) l.length [Value.int .u8 165, Value.int .u8 90]) = (u8s (l ++ [165, 90])).toArray := by
  have hz : (Builtin.zeroCells (Value.int .u8 0).cells ((l.length : Int) + 2).toNat).size = l.length + 2 := by rw [zeroCells_size]; simp [Value.cells]; omega
  have hp : (putCells (Builtin.zeroCells (Value.int .u8 0).cells ((l.length : Int) + 2).toNat) 0 (u8s l)).size = l.length + 2 := by rw [putCells_size, hz]
  apply Array.ext'
  rw [putCells_toList _ _ _ (by rw [hp]; simp), putCells_toList _ _ _ (by rw [hz]; simp)]
  have e1 : (u8s l).length = l.length := by simp
  simp only [Nat.zero_add, List.take_zero, List.nil_append]
  rw [List.take_append_of_le_length (by omega), List.take_of_length_le (by omega), List.drop_eq_nil_of_le (by simp [hz])]
  simp

set_option maxRecDepth 100000 in
set_option maxHeartbeats 1000000 in
theorem num_Copy (H : Hp) (v : Value) (l : List Int) (hv : Holds H 1 v l.length (u8s l)) (hn : l.length ≤ 1000000) :
    CallH Try.prog 21 #[v] H (fun v' H' => ∃ r, H r = none ∧ v' = .slice (some ⟨r, 0, none⟩) l.length (l.length + 2) ∧ H' = H.upd r (.cells (u8s (l ++ [165, 90])).toArray 5)) := by
  refine CallH_enter (l := [_]) (rl := [.tmp 2]) (n := 14) Try.func21 rfl rfl rfl rfl rfl ?_
  simp only [envOf, Nat.reduceAdd]
  obtain ⟨a, cap, rfl⟩ := hv.form
  refine CW_seq (fun K1 hK1 => ?_)
  refine CW_region ?_
  refine OW_as rfl ?_
  refine OW_nil ?_
  try simp only [Ex.thnH, Ex.inBlockH, ↓reduceIte, Nat.reduceEqDiff]
  refine hK1 _ _ ?_; try clear hK1 K1
  refine CW_seq (fun K2 hK2 => ?_)
  refine CW_region ?_
  refine OW_mv rfl ?_
  refine OW_opS (fun K hK r => ?_)
  simp only [x_builtin, l_len, List.map_toArray, List.map_cons, List.map_nil, i_len_slice _ _ Try.underlying33, eX, ↓reduceIte, Nat.reduceEqDiff, Int.reduceToNat]
  refine hK _ _ ?_; clear hK K
  refine OW_opS (fun K hK r => ?_)
  simp (disch := (first | omega | decide)) only [x_bin, g_int, b_add, wrap_i64, wrap_u64, wrap_u32, wrap_u8, eX, ↓reduceIte, Nat.reduceEqDiff, Int.reduceToNat]
  refine hK _ _ ?_; clear hK K
  refine OW_opS (fun K hK r => ?_)
  simp only [x_makeSlice, eX, ↓reduceIte, Nat.reduceEqDiff, Int.reduceToNat]
  refine Lt_makeSlice Try.underlying33 sz5 by5 zr5 rfl arA arA arA arA ?_
  intro b6 hb6
  have f6_H : H b6 = none := none_of_le lhA hb6
  try simp only [eX, ↓reduceIte, Nat.reduceEqDiff, Int.reduceToNat]
  refine hK _ _ ?_; clear hK K
  refine OW_mv rfl ?_
  refine OW_opS (fun K hK r => ?_)
  simp only [x_builtin, l_append, List.map_toArray, List.map_cons, List.map_nil, eX, ↓reduceIte, Nat.reduceEqDiff, Int.reduceToNat]
  refine Lt_appendRoom (m := l.length) (ds := u8s l) Try.underlying33 Try.underlying33 (by simp) sz5 _ hbA bdA (len_slice _ _ _) (fun K => ?_) (by simp) (PlainL.ints _ _) (by decide) (by omega) ?_
  · refine (first_holds (hv.le lhA) (Nat.le_refl _) K).trans ?_
    rw [Nat.mul_one, List.take_of_length_le (by simp)]
  simp only [upd_upd, Nat.zero_mul, Nat.zero_add]
  refine hK _ _ ?_; clear hK K
  refine OW_opS (fun K hK r => ?_)
  simp only [x_buildSlice, List.map_toArray, List.map_cons, List.map_nil, eX, ↓reduceIte, Nat.reduceEqDiff, Int.reduceToNat]
  refine Lt_buildSlice (vs := [_, _]) Try.underlying33 sz5 zr5 rfl bsA (by first | decide | (simp; done)) ?_
  simp only [List.flatMap_cons, List.flatMap_nil, Value.cells, List.append_nil, List.cons_append, List.nil_append, List.length_cons, List.length_nil, Nat.zero_add, Nat.reduceAdd]
  intro b9 hb9
  try have n9_b6 : b6 ≠ b9 := ne_of_none hbA hb9
  have f9_H : H b9 = none := none_of_le lhA hb9
  try simp only [eX, ↓reduceIte, Nat.reduceEqDiff, Int.reduceToNat]
  refine hK _ _ ?_; clear hK K
  refine OW_opS (fun K hK r => ?_)
  simp only [x_builtin, l_append, List.map_toArray, List.map_cons, List.map_nil, eX, ↓reduceIte, Nat.reduceEqDiff, Int.reduceToNat]
  refine Lt_appendRoom (m := 2) (ds := [.int .u8 165, .int .u8 90]) Try.underlying33 Try.underlying33 (by simp) sz5 _ hbA bdA (len_slice _ _ _) (fun K => ?_) (by simp) plA (by decide) (by omega) ?_
  · refine (first_holds (w := 1) (n := 2) (cs := [.int .u8 165, .int .u8 90]) ⟨rfl, .inr ⟨b9, 0, 2, _, _, _, rfl, hbA, by simp, by simp⟩⟩ (Nat.le_refl _) K).trans ?_
    rfl
  refine hK _ _ ?_; clear hK K
  refine OW_mv rfl ?_
  refine OW_opS (fun K hK r => ?_)
  simp only [x_builtin, l_len, List.map_toArray, List.map_cons, List.map_nil, i_len_slice _ _ Try.underlying33, eX, ↓reduceIte, Nat.reduceEqDiff, Int.reduceToNat]
  refine hK _ _ ?_; clear hK K
  refine OW_opS (fun K hK r => ?_)
  simp only [x_slice, Option.map_some, Option.map_none, eX, ↓reduceIte, Nat.reduceEqDiff, Int.reduceToNat]
  refine Lt_sliceS Try.underlying33 sz5 bound_none (bound_some ixA) bound_none bxA bxA bxA (by simp) ?_
  try simp only [add_mk, Nat.mul_one, Nat.zero_add, Int.reduceToNat, Nat.reduceSub, Nat.reduceEqDiff, ↓reduceIte]
  try simp only [eX, ↓reduceIte, Nat.reduceEqDiff, Int.reduceToNat]
  refine hK _ _ ?_; clear hK K
  refine OW_as rfl ?_
  refine OW_nil ?_
  try simp only [Ex.thnH, Ex.inBlockH, ↓reduceIte, Nat.reduceEqDiff]
  refine hK2 _ _ ?_; try clear hK2 K2
  refine CW_ret ?_
  try simp only [Ex.thnH, Ex.inBlockH, ↓reduceIte, Nat.reduceEqDiff]
  have e0 : ((l.length : Int) + 2).toNat = l.length + 2 := by omega
  refine ⟨[_], ⟨rfl, trivial⟩, H.upd b6 (.cells (u8s (l ++ [165, 90])).toArray 5), ?_, b6, f6_H, ?_, rfl⟩
  · rw [← copy_cells l]
    intro x o hx
    by_cases e : x = b6
    · subst e
      rw [upd_same] at hx
      rw [upd_same, ← hx]
      simp only [Nat.mul_one, Nat.zero_add, Nat.zero_mul, Value.cells]
    · rw [upd_ne _ _ e] at hx
      have e9 : x ≠ b9 := fun h => by rw [h, f9_H] at hx; cases hx
      simp only [upd_ne _ _ e, upd_ne _ _ e9]; exact hx
  · show Value.slice (if _ then _ else _) _ _ = _
    rw [e0, if_neg (by omega)]
    rfl

set_option maxRecDepth 100000 in
set_option maxHeartbeats 1000000 in
theorem num_Kept (H : Hp) (r : Nat) (v : Value) (l : List Int) (hr : H r = some (.cells (u8s (l ++ [165, 90])).toArray 5)) (hv : Holds H 1 v l.length (u8s l)) (hn : l.length ≤ 1000000) (hB : ByteL l) :
    CallH Try.prog 23 #[.slice (some ⟨r, 0, none⟩) l.length (l.length + 2), v] H (fun v' H' => v' = .bool true ∧ H' = H) := by
  refine CallH_enter (l := [_, _]) (rl := [.tmp 4]) (n := 39) Try.func23 rfl rfl rfl rfl rfl ?_
  simp only [envOf, Nat.reduceAdd]
  obtain ⟨a, cap, rfl⟩ := hv.form
  have hm : Holds H 1 (.slice (some ⟨r, 0, none⟩) l.length (l.length + 2)) l.length (u8s l) := ⟨by simp, .inr ⟨r, 0, _, _, _, _, rfl, hr, by simp, by simp⟩⟩
  refine CW_seq (fun K1 hK1 => ?_)
  refine CW_region ?_
  refine OW_as rfl ?_
  refine OW_nil ?_
  try simp only [Ex.thnH, Ex.inBlockH, ↓reduceIte, Nat.reduceEqDiff]
  refine hK1 _ _ ?_; try clear hK1 K1
  refine CW_seq (fun K2 hK2 => ?_)
  refine CW_seq (fun K3 hK3 => ?_)
  refine CW_region ?_
  refine OW_mv rfl ?_
  refine OW_opS (fun K hK r => ?_)
  simp only [x_convert, eX, ↓reduceIte, Nat.reduceEqDiff, Int.reduceToNat]
  refine Lt_convBS Try.underlying33 Try.underlying5 Try.underlying9 hdA ?_
  try simp only [eX, ↓reduceIte, Nat.reduceEqDiff, Int.reduceToNat]
  refine hK _ _ ?_; clear hK K
  refine OW_mv rfl ?_
  refine OW_opS (fun K hK r => ?_)
  simp only [x_convert, eX, ↓reduceIte, Nat.reduceEqDiff, Int.reduceToNat]
  refine Lt_convBS Try.underlying33 Try.underlying5 Try.underlying9 hdA ?_
  try simp only [eX, ↓reduceIte, Nat.reduceEqDiff, Int.reduceToNat]
  refine hK _ _ ?_; clear hK K
  refine OW_opS (fun K hK r => ?_)
  simp only [x_bin, g_string, b_sneq, eX, ↓reduceIte, Nat.reduceEqDiff, Int.reduceToNat]
  refine hK _ _ ?_; clear hK K
  refine OW_mv rfl ?_
  (first | refine OW_split (d := 11) rfl (fun g11 => ?_) (fun g11 => ?_) | skip)
  all_goals try (exfalso; exact cnA g11)
  all_goals (try simp only [decide_eq_true_eq, decide_eq_false_iff_not, Bool.not_eq_true, Bool.not_eq_false, Bool.and_eq_true, Bool.or_eq_true, Bool.or_eq_false_iff, Bool.not_eq_true, Bool.not_eq_eq_eq_not, Bool.not_true, Bool.not_false] at g11)
  all_goals
    try simp only [eX, ↓reduceIte, Nat.reduceEqDiff, Int.reduceToNat]
    first
    | refine OW_guardT rfl (lt_some (by decide)) rfl (fun K hK r => ?_)
      simp only [x_move, eX, ↓reduceIte, Nat.reduceEqDiff, Int.reduceToNat]
      refine hK _ _ ?_; clear hK K
    | refine OW_guardF rfl (lt_some (by decide)) rfl ?_
      simp only [eX, ↓reduceIte, Nat.reduceEqDiff, Int.reduceToNat]
    first
    | refine OW_guardT rfl (lt_some (by decide)) rfl (fun K hK r => ?_)
      simp only [x_builtin, l_cap, List.map_toArray, List.map_cons, List.map_nil, i_cap_slice _ _ Try.underlying33, eX, ↓reduceIte, Nat.reduceEqDiff, Int.reduceToNat]
      refine hK _ _ ?_; clear hK K
    | refine OW_guardF rfl (lt_some (by decide)) rfl ?_
      simp only [eX, ↓reduceIte, Nat.reduceEqDiff, Int.reduceToNat]
    first
    | refine OW_guardT rfl (lt_some (by decide)) rfl (fun K hK r => ?_)
      simp only [x_move, eX, ↓reduceIte, Nat.reduceEqDiff, Int.reduceToNat]
      refine hK _ _ ?_; clear hK K
    | refine OW_guardF rfl (lt_some (by decide)) rfl ?_
      simp only [eX, ↓reduceIte, Nat.reduceEqDiff, Int.reduceToNat]
    first
    | refine OW_guardT rfl (lt_some (by decide)) rfl (fun K hK r => ?_)
      simp only [x_builtin, l_len, List.map_toArray, List.map_cons, List.map_nil, i_len_slice _ _ Try.underlying33, eX, ↓reduceIte, Nat.reduceEqDiff, Int.reduceToNat]
      refine hK _ _ ?_; clear hK K
    | refine OW_guardF rfl (lt_some (by decide)) rfl ?_
      simp only [eX, ↓reduceIte, Nat.reduceEqDiff, Int.reduceToNat]
    first
    | refine OW_guardT rfl (lt_some (by decide)) rfl (fun K hK r => ?_)
      simp (disch := (first | omega | decide)) only [x_bin, g_int, b_add, wrap_i64, wrap_u64, wrap_u32, wrap_u8, eX, ↓reduceIte, Nat.reduceEqDiff, Int.reduceToNat]
      refine hK _ _ ?_; clear hK K
    | refine OW_guardF rfl (lt_some (by decide)) rfl ?_
      simp only [eX, ↓reduceIte, Nat.reduceEqDiff, Int.reduceToNat]
    first
    | refine OW_guardT rfl (lt_some (by decide)) rfl (fun K hK r => ?_)
      simp (disch := (first | omega | decide)) only [x_bin, g_int, b_lss, dec_lt_t, dec_lt_f, dec_le_t, dec_le_f, dec_eq_t, dec_eq_f, Bool.not_true, Bool.not_false, eX, ↓reduceIte, Nat.reduceEqDiff, Int.reduceToNat]
      refine hK _ _ ?_; clear hK K
    | refine OW_guardF rfl (lt_some (by decide)) rfl ?_
      simp only [eX, ↓reduceIte, Nat.reduceEqDiff, Int.reduceToNat]
    refine OW_opS (fun K hK r => ?_)
    simp only [x_pick, l_asBool, HL.ite_bool, if_true, if_false, Bool.false_eq_true, eX, ↓reduceIte, Nat.reduceEqDiff, Int.reduceToNat]
    refine hK _ _ ?_; clear hK K
    refine OW_nil ?_
    try simp only [Ex.thnH, Ex.inBlockH, ↓reduceIte, Nat.reduceEqDiff]
    refine hK3 _ _ ?_; try clear hK3 K3
    refine CW_cond (fun r => rfl) (fun c18 => ?_) (fun c18 => ?_)
    · first
      | (exfalso; exact cnA c18; done)
      | skip
        (try simp only [decide_eq_true_eq, decide_eq_false_iff_not, Bool.not_eq_true, Bool.not_eq_false, Bool.and_eq_true, Bool.or_eq_true, Bool.or_eq_false_iff, Bool.not_eq_true, Bool.not_eq_eq_eq_not, Bool.not_true, Bool.not_false] at c18)
        refine CW_seq (fun K4 hK4 => ?_)
        refine CW_region ?_
        refine OW_as rfl ?_
        refine OW_nil ?_
        try simp only [Ex.thnH, Ex.inBlockH, ↓reduceIte, Nat.reduceEqDiff]
        refine hK4 _ _ ?_; try clear hK4 K4
        refine CW_ret ?_
        try simp only [Ex.thnH, Ex.inBlockH, ↓reduceIte, Nat.reduceEqDiff]
        exact ⟨[_], ⟨rfl, trivial⟩, _, Le.refl _, rfl, rfl⟩
    · first
      | (exfalso; exact cnA c18; done)
      | skip
        (try simp only [decide_eq_true_eq, decide_eq_false_iff_not, Bool.not_eq_true, Bool.not_eq_false, Bool.and_eq_true, Bool.or_eq_true, Bool.or_eq_false_iff, Bool.not_eq_true, Bool.not_eq_eq_eq_not, Bool.not_true, Bool.not_false] at c18)
        refine CW_skip ?_
        try simp only [Ex.thnH, Ex.inBlockH, ↓reduceIte, Nat.reduceEqDiff]
        refine hK2 _ _ ?_; try clear hK2 K2
        refine CW_seq (fun K5 hK5 => ?_)
        refine CW_region ?_
        refine OW_mv rfl ?_
        refine OW_mv rfl ?_
        refine OW_opS (fun K hK r => ?_)
        simp only [x_builtin, l_len, List.map_toArray, List.map_cons, List.map_nil, i_len_slice _ _ Try.underlying33, eX, ↓reduceIte, Nat.reduceEqDiff, Int.reduceToNat]
        refine hK _ _ ?_; clear hK K
        refine OW_opS (fun K hK r => ?_)
        simp (disch := (first | omega | decide)) only [x_bin, g_int, b_add, wrap_i64, wrap_u64, wrap_u32, wrap_u8, eX, ↓reduceIte, Nat.reduceEqDiff, Int.reduceToNat]
        refine hK _ _ ?_; clear hK K
        refine OW_opS (fun K hK r => ?_)
        simp only [x_slice, Option.map_some, Option.map_none, eX, ↓reduceIte, Nat.reduceEqDiff, Int.reduceToNat]
        refine Lt_sliceS Try.underlying33 sz5 bound_none (bound_some ixA) bound_none bxA bxA bxA (by simp) ?_
        try simp only [add_mk, Nat.mul_one, Nat.zero_add, Int.reduceToNat, Nat.reduceSub, Nat.reduceEqDiff, ↓reduceIte]
        try simp only [eX, ↓reduceIte, Nat.reduceEqDiff, Int.reduceToNat]
        refine hK _ _ ?_; clear hK K
        refine OW_as rfl ?_
        refine OW_nil ?_
        try simp only [Ex.thnH, Ex.inBlockH, ↓reduceIte, Nat.reduceEqDiff]
        refine hK5 _ _ ?_; try clear hK5 K5
        refine CW_seq (fun K6 hK6 => ?_)
        refine CW_region ?_
        refine OW_mv rfl ?_
        refine OW_mv rfl ?_
        refine OW_opS (fun K hK r => ?_)
        simp only [x_builtin, l_len, List.map_toArray, List.map_cons, List.map_nil, i_len_slice _ _ Try.underlying33, eX, ↓reduceIte, Nat.reduceEqDiff, Int.reduceToNat]
        refine hK _ _ ?_; clear hK K
        refine OW_opS (fun K hK r => ?_)
        simp only [x_indexAddr, eX, ↓reduceIte, Nat.reduceEqDiff, Int.reduceToNat]
        refine Lt_indexS Try.underlying33 sz5 ixA ixA ?_
        try simp only [add_mk, Nat.mul_one, Nat.zero_add, Int.reduceToNat]
        try simp only [eX, ↓reduceIte, Nat.reduceEqDiff, Int.reduceToNat]
        refine hK _ _ ?_; clear hK K
        refine OW_opS (fun K hK r => ?_)
        simp only [x_load, eX, ↓reduceIte, Nat.reduceEqDiff, Int.reduceToNat]
        refine Lt_loadAt1 Try.underlying5 rfl hbA (v := .int .u8 165) (by simp) ?_
        refine hK _ _ ?_; clear hK K
        refine OW_opS (fun K hK r => ?_)
        simp (disch := (first | omega | decide)) only [x_bin, g_int, b_eql, dec_lt_t, dec_lt_f, dec_le_t, dec_le_f, dec_eq_t, dec_eq_f, Bool.not_true, Bool.not_false, eX, ↓reduceIte, Nat.reduceEqDiff, Int.reduceToNat]
        refine hK _ _ ?_; clear hK K
        refine OW_mv rfl ?_
        (first | refine OW_split (d := 30) rfl (fun g30 => ?_) (fun g30 => ?_) | skip)
        all_goals try (exfalso; exact cnA g30)
        all_goals (try simp only [decide_eq_true_eq, decide_eq_false_iff_not, Bool.not_eq_true, Bool.not_eq_false, Bool.and_eq_true, Bool.or_eq_true, Bool.or_eq_false_iff, Bool.not_eq_true, Bool.not_eq_eq_eq_not, Bool.not_true, Bool.not_false] at g30)
        all_goals
          try simp only [eX, ↓reduceIte, Nat.reduceEqDiff, Int.reduceToNat]
          first
          | refine OW_guardT rfl (lt_some (by decide)) rfl (fun K hK r => ?_)
            simp only [x_move, eX, ↓reduceIte, Nat.reduceEqDiff, Int.reduceToNat]
            refine hK _ _ ?_; clear hK K
          | refine OW_guardF rfl (lt_some (by decide)) rfl ?_
            simp only [eX, ↓reduceIte, Nat.reduceEqDiff, Int.reduceToNat]
          first
          | refine OW_guardT rfl (lt_some (by decide)) rfl (fun K hK r => ?_)
            simp only [x_move, eX, ↓reduceIte, Nat.reduceEqDiff, Int.reduceToNat]
            refine hK _ _ ?_; clear hK K
          | refine OW_guardF rfl (lt_some (by decide)) rfl ?_
            simp only [eX, ↓reduceIte, Nat.reduceEqDiff, Int.reduceToNat]
          first
          | refine OW_guardT rfl (lt_some (by decide)) rfl (fun K hK r => ?_)
            simp only [x_builtin, l_len, List.map_toArray, List.map_cons, List.map_nil, i_len_slice _ _ Try.underlying33, eX, ↓reduceIte, Nat.reduceEqDiff, Int.reduceToNat]
            refine hK _ _ ?_; clear hK K
          | refine OW_guardF rfl (lt_some (by decide)) rfl ?_
            simp only [eX, ↓reduceIte, Nat.reduceEqDiff, Int.reduceToNat]
          first
          | refine OW_guardT rfl (lt_some (by decide)) rfl (fun K hK r => ?_)
            simp (disch := (first | omega | decide)) only [x_bin, g_int, b_add, wrap_i64, wrap_u64, wrap_u32, wrap_u8, eX, ↓reduceIte, Nat.reduceEqDiff, Int.reduceToNat]
            refine hK _ _ ?_; clear hK K
          | refine OW_guardF rfl (lt_some (by decide)) rfl ?_
            simp only [eX, ↓reduceIte, Nat.reduceEqDiff, Int.reduceToNat]
          first
          | refine OW_guardT rfl (lt_some (by decide)) rfl (fun K hK r => ?_)
            simp only [x_indexAddr, eX, ↓reduceIte, Nat.reduceEqDiff, Int.reduceToNat]
            refine Lt_indexS Try.underlying33 sz5 ixA ixA ?_
            try simp only [add_mk, Nat.mul_one, Nat.zero_add, Int.reduceToNat]
            try simp only [eX, ↓reduceIte, Nat.reduceEqDiff, Int.reduceToNat]
            refine hK _ _ ?_; clear hK K
          | refine OW_guardF rfl (lt_some (by decide)) rfl ?_
            simp only [eX, ↓reduceIte, Nat.reduceEqDiff, Int.reduceToNat]
          first
          | refine OW_guardT rfl (lt_some (by decide)) rfl (fun K hK r => ?_)
            simp only [x_load, eX, ↓reduceIte, Nat.reduceEqDiff, Int.reduceToNat]
            refine Lt_loadAt1 Try.underlying5 rfl hbA (v := .int .u8 90) ?_ ?_
            · have e : ((l.length : Int) + 1).toNat = l.length + 1 := by omega
              simp [e]
            refine hK _ _ ?_; clear hK K
          | refine OW_guardF rfl (lt_some (by decide)) rfl ?_
            simp only [eX, ↓reduceIte, Nat.reduceEqDiff, Int.reduceToNat]
          first
          | refine OW_guardT rfl (lt_some (by decide)) rfl (fun K hK r => ?_)
            simp (disch := (first | omega | decide)) only [x_bin, g_int, b_eql, dec_lt_t, dec_lt_f, dec_le_t, dec_le_f, dec_eq_t, dec_eq_f, Bool.not_true, Bool.not_false, eX, ↓reduceIte, Nat.reduceEqDiff, Int.reduceToNat]
            refine hK _ _ ?_; clear hK K
          | refine OW_guardF rfl (lt_some (by decide)) rfl ?_
            simp only [eX, ↓reduceIte, Nat.reduceEqDiff, Int.reduceToNat]
          refine OW_opS (fun K hK r => ?_)
          simp only [x_pick, l_asBool, HL.ite_bool, if_true, if_false, Bool.false_eq_true, eX, ↓reduceIte, Nat.reduceEqDiff, Int.reduceToNat]
          refine hK _ _ ?_; clear hK K
          refine OW_as rfl ?_
          refine OW_nil ?_
          try simp only [Ex.thnH, Ex.inBlockH, ↓reduceIte, Nat.reduceEqDiff]
          refine hK6 _ _ ?_; try clear hK6 K6
          refine CW_ret ?_
          try simp only [Ex.thnH, Ex.inBlockH, ↓reduceIte, Nat.reduceEqDiff]
          exact ⟨[_], ⟨rfl, trivial⟩, _, Le.refl _, rfl, rfl⟩

end Go.Proofs.Ytlkopcgoaldpeaa.HL
end
section
namespace Go.Proofs.Ytlkopcgoaldpeaa.HL
open Go Go.Proofs
set_option linter.unusedSimpArgs false
set_option linter.unusedVariables false
attribute [local irreducible] Lt Lq CW OW TW CallH


theorem encB_good {f : Int} {cs : List Cd} (h : checkP f cs = -2) : encB f cs = encP f cs := if_pos h
end Go.Proofs.Ytlkopcgoaldpeaa.HL
end
section
namespace Go.Proofs.Ytlkopcgoaldpeaa.HL
open Go Go.Proofs
set_option linter.unusedSimpArgs false
set_option linter.unusedVariables false
attribute [local irreducible] Lt Lq CW OW TW CallH


theorem dec_agree {B : List Int} {f g : Int} {cs ds : List Cd} {o : Option Int} {ok : Bool} (hc : ∀ x ∈ cs, x.ok) (hd : ∀ x ∈ ds, x.ok)
    (h1 : (o = none ∧ GoodP f cs ∧ encP f cs = B) ∨ (o = some 2 ∧ f = 0 ∧ cs = [] ∧ (∀ (g : Int) (ds : List Cd), (∀ x ∈ ds, x.ok) → GoodP g ds → encP g ds ≠ B))) (h2 : (ok = true ∧ GoodP g ds ∧ encP g ds = B) ∨ (ok = false ∧ g = 0 ∧ ds = [] ∧ (∀ (g : Int) (ds : List Cd), (∀ x ∈ ds, x.ok) → GoodP g ds → encP g ds ≠ B))) : f = g ∧ cs = ds := by
  rcases h1 with ⟨_, h1, e1⟩ | ⟨_, rfl, rfl, n1⟩ <;> rcases h2 with ⟨_, h2, e2⟩ | ⟨_, rfl, rfl, n2⟩
  · exact encP_inj h1 h2 (by rw [e1, e2])
  · exact absurd e1 (n2 f cs hc h1)
  · exact absurd e2 (n1 g ds hd h2)
  · exact ⟨rfl, rfl⟩
theorem dec_ok {B : List Int} {f g : Int} {cs ds : List Cd} {o : Option Int} {ok : Bool} (hc : ∀ x ∈ cs, x.ok) (hd : ∀ x ∈ ds, x.ok)
    (h1 : (o = none ∧ GoodP f cs ∧ encP f cs = B) ∨ (o = some 2 ∧ f = 0 ∧ cs = [] ∧ (∀ (g : Int) (ds : List Cd), (∀ x ∈ ds, x.ok) → GoodP g ds → encP g ds ≠ B))) (h2 : (ok = true ∧ GoodP g ds ∧ encP g ds = B) ∨ (ok = false ∧ g = 0 ∧ ds = [] ∧ (∀ (g : Int) (ds : List Cd), (∀ x ∈ ds, x.ok) → GoodP g ds → encP g ds ≠ B))) : (o = none ∧ ok = true) ∨ (o = some 2 ∧ ok = false) := by
  rcases h1 with ⟨rfl, h1, e1⟩ | ⟨rfl, rfl, rfl, n1⟩ <;> rcases h2 with ⟨rfl, h2, e2⟩ | ⟨rfl, rfl, rfl, n2⟩
  · exact .inl ⟨rfl, rfl⟩
  · exact absurd e1 (n2 f cs hc h1)
  · exact absurd e2 (n1 g ds hd h2)
  · exact .inr ⟨rfl, rfl⟩
theorem dec_small {B : List Int} {f : Int} {cs : List Cd} {o : Option Int} (h : (o = none ∧ GoodP f cs ∧ encP f cs = B) ∨ (o = some 2 ∧ f = 0 ∧ cs = [] ∧ (∀ (g : Int) (ds : List Cd), (∀ x ∈ ds, x.ok) → GoodP g ds → encP g ds ≠ B))) : cs.length ≤ 1000000 := by
  rcases h with ⟨_, h, _⟩ | ⟨_, _, h, _⟩
  · have := h.spec; omega
  · subst h; simp

set_option maxRecDepth 100000 in
set_option maxHeartbeats 8000000 in
theorem lawDecodes (H : Hp) (ab : Option Addr) (capb : Nat) (B : List Int) (hvb : Holds H 1 (.slice ab B.length capb) B.length (u8s B)) (hcb : B.length ≤ capb) (hB : ByteL B) : CallH Try.prog 5 #[.slice ab B.length capb] H (fun v H' => v = .bool true ∧ Le H H') := by
  refine CallH_enter (l := [_]) (rl := [.tmp 2]) (n := 65) Try.func5 rfl rfl rfl rfl rfl ?_
  simp only [envOf, Nat.reduceAdd]
  refine CW_seq (fun K1 hK1 => ?_)
  refine CW_region ?_
  refine OW_as rfl ?_
  refine OW_nil ?_
  try simp only [Ex.thnH, Ex.inBlockH, ↓reduceIte, Nat.reduceEqDiff]
  refine hK1 _ _ ?_; try clear hK1 K1
  refine CW_seq (fun K2 hK2 => ?_)
  refine CW_seq (fun K3 hK3 => ?_)
  refine CW_region ?_
  refine OW_opS (fun K hK r => ?_)
  simp only [x_callF _ bd7, List.map_toArray, List.map_cons, List.map_nil, eX, ↓reduceIte, Nat.reduceEqDiff, Int.reduceToNat]
  refine (alive6_ok _).mono ?_
  rintro v9 H9 ⟨rfl, hl9⟩
  have lH9_H : Le H H9 := Le.trans lhA hl9
  try simp only [eX, ↓reduceIte, Nat.reduceEqDiff, Int.reduceToNat]
  refine hK _ _ ?_; clear hK K
  refine OW_opS (fun K hK r => ?_)
  simp only [x_un, u_not, eX, ↓reduceIte, Nat.reduceEqDiff, Int.reduceToNat]
  refine hK _ _ ?_; clear hK K
  refine OW_nil ?_
  try simp only [Ex.thnH, Ex.inBlockH, ↓reduceIte, Nat.reduceEqDiff]
  refine hK3 _ _ ?_; try clear hK3 K3
  refine CW_cond (fun r => rfl) (fun c10 => ?_) (fun c10 => ?_)
  · first
    | (exfalso; exact cnA c10; done)
    | skip
      (try simp only [decide_eq_true_eq, decide_eq_false_iff_not, Bool.not_eq_true, Bool.not_eq_false, Bool.and_eq_true, Bool.or_eq_true, Bool.or_eq_false_iff, Bool.not_eq_true, Bool.not_eq_eq_eq_not, Bool.not_true, Bool.not_false] at c10)
      refine CW_seq (fun K4 hK4 => ?_)
      refine CW_region ?_
      refine OW_as rfl ?_
      refine OW_nil ?_
      try simp only [Ex.thnH, Ex.inBlockH, ↓reduceIte, Nat.reduceEqDiff]
      refine hK4 _ _ ?_; try clear hK4 K4
      refine CW_ret ?_
      try simp only [Ex.thnH, Ex.inBlockH, ↓reduceIte, Nat.reduceEqDiff]
      skip
  · first
    | (exfalso; exact cnA c10; done)
    | skip
      (try simp only [decide_eq_true_eq, decide_eq_false_iff_not, Bool.not_eq_true, Bool.not_eq_false, Bool.and_eq_true, Bool.or_eq_true, Bool.or_eq_false_iff, Bool.not_eq_true, Bool.not_eq_eq_eq_not, Bool.not_true, Bool.not_false] at c10)
      refine CW_skip ?_
      try simp only [Ex.thnH, Ex.inBlockH, ↓reduceIte, Nat.reduceEqDiff]
      refine hK2 _ _ ?_; try clear hK2 K2
      refine CW_seq (fun K5 hK5 => ?_)
      refine CW_seq (fun K6 hK6 => ?_)
      refine CW_region ?_
      refine OW_mv rfl ?_
      refine OW_opS (fun K hK r => ?_)
      simp only [x_builtin, l_len, List.map_toArray, List.map_cons, List.map_nil, i_len_slice _ _ Try.underlying33, eX, ↓reduceIte, Nat.reduceEqDiff, Int.reduceToNat]
      refine hK _ _ ?_; clear hK K
      refine OW_opS (fun K hK r => ?_)
      simp (disch := (first | omega | decide)) only [x_bin, g_int, b_gtr, dec_lt_t, dec_lt_f, dec_le_t, dec_le_f, dec_eq_t, dec_eq_f, Bool.not_true, Bool.not_false, eX, ↓reduceIte, Nat.reduceEqDiff, Int.reduceToNat]
      refine hK _ _ ?_; clear hK K
      refine OW_nil ?_
      try simp only [Ex.thnH, Ex.inBlockH, ↓reduceIte, Nat.reduceEqDiff]
      refine hK6 _ _ ?_; try clear hK6 K6
      refine CW_cond (fun r => rfl) (fun c13 => ?_) (fun c13 => ?_)
      · first
        | (exfalso; exact cnA c13; done)
        | skip
          (try simp only [decide_eq_true_eq, decide_eq_false_iff_not, Bool.not_eq_true, Bool.not_eq_false, Bool.and_eq_true, Bool.or_eq_true, Bool.or_eq_false_iff, Bool.not_eq_true, Bool.not_eq_eq_eq_not, Bool.not_true, Bool.not_false] at c13)
          refine CW_seq (fun K7 hK7 => ?_)
          refine CW_region ?_
          refine OW_as rfl ?_
          refine OW_nil ?_
          try simp only [Ex.thnH, Ex.inBlockH, ↓reduceIte, Nat.reduceEqDiff]
          refine hK7 _ _ ?_; try clear hK7 K7
          refine CW_ret ?_
          try simp only [Ex.thnH, Ex.inBlockH, ↓reduceIte, Nat.reduceEqDiff]
          refine ⟨[_], ⟨rfl, trivial⟩, _, Le.refl _, rfl, lhA⟩
      · first
        | (exfalso; exact cnA c13; done)
        | skip
          (try simp only [decide_eq_true_eq, decide_eq_false_iff_not, Bool.not_eq_true, Bool.not_eq_false, Bool.and_eq_true, Bool.or_eq_true, Bool.or_eq_false_iff, Bool.not_eq_true, Bool.not_eq_eq_eq_not, Bool.not_true, Bool.not_false] at c13)
          refine CW_skip ?_
          try simp only [Ex.thnH, Ex.inBlockH, ↓reduceIte, Nat.reduceEqDiff]
          refine hK5 _ _ ?_; try clear hK5 K5
          refine CW_seq (fun K8 hK8 => ?_)
          refine CW_region ?_
          refine OW_mv rfl ?_
          refine OW_opS (fun K hK r => ?_)
          simp only [x_callF _ bd21, List.map_toArray, List.map_cons, List.map_nil, eX, ↓reduceIte, Nat.reduceEqDiff, Int.reduceToNat]
          refine (num_Copy _ _ B (hvb.le lhA) (by omega)).mono ?_
          rintro v15 H15 ⟨rc, hrc, rfl, rfl⟩
          have frc_H : H rc = none := none_of_le lhA hrc
          try simp only [eX, ↓reduceIte, Nat.reduceEqDiff, Int.reduceToNat]
          refine hK _ _ ?_; clear hK K
          refine OW_as rfl ?_
          refine OW_nil ?_
          try simp only [Ex.thnH, Ex.inBlockH, ↓reduceIte, Nat.reduceEqDiff]
          refine hK8 _ _ ?_; try clear hK8 K8
          refine CW_seq (fun K9 hK9 => ?_)
          refine CW_region ?_
          refine OW_mv rfl ?_
          refine OW_opS (fun K hK r => ?_)
          simp only [x_callF _ bd18, List.map_toArray, List.map_cons, List.map_nil, eX, ↓reduceIte, Nat.reduceEqDiff, Int.reduceToNat]
          refine (decode_ok _ (.slice (some ⟨rc, 0, none⟩) B.length (B.length + 2)) B ⟨by simp, .inr ⟨rc, 0, _, _, _, _, rfl, upd_same _ _ _, by simp, by simp⟩⟩ hB (by omega)).mono ?_
          rintro v18 H18 ⟨hl18, f18, cs18, vc18, o18, rfl, hd18, hok18, rs18, ho18, hr18⟩
          have kH18_rc := hl18 rc _ (upd_same _ _ _)
          have lH18_H : Le H H18 := Le.trans lhA hl18
          obtain ⟨a18, c18, rfl⟩ := ho18.holds.form
          try simp only [eX, ↓reduceIte, Nat.reduceEqDiff, Int.reduceToNat]
          refine hK _ _ ?_; clear hK K
          refine OW_mv rfl ?_
          refine OW_opS (fun K hK r => ?_)
          simp only [x_extract, i_extract, List.getElem?_toArray, List.getElem?_cons_zero, List.getElem?_cons_succ, orF_some, eX, ↓reduceIte, Nat.reduceEqDiff, Int.reduceToNat]
          refine hK _ _ ?_; clear hK K
          refine OW_opS (fun K hK r => ?_)
          simp only [x_extract, i_extract, List.getElem?_toArray, List.getElem?_cons_zero, List.getElem?_cons_succ, orF_some, eX, ↓reduceIte, Nat.reduceEqDiff, Int.reduceToNat]
          refine hK _ _ ?_; clear hK K
          refine OW_opS (fun K hK r => ?_)
          simp only [x_alloc, zr24, orF_some, Value.cells, eX, ↓reduceIte, Nat.reduceEqDiff, Int.reduceToNat]
          intro b4 hb4
          have f4_H : H b4 = none := none_of_le lhA hb4
          have f4_H18 : H18 b4 = none := none_of_le lhA hb4
          try simp only [eX, ↓reduceIte, Nat.reduceEqDiff, Int.reduceToNat]
          refine hK _ _ ?_; clear hK K
          refine OW_op rfl (lt_none) (fun K hK r => ?_)
          simp only [x_store, eX, ↓reduceIte, Nat.reduceEqDiff, Int.reduceToNat]
          first | refine Lt_storeAll sz24 bdA hbA bdA plA (by decide) ?_ | refine Lt_storeAtA sz24 bdA hbA bdA plA (by decide) ?_
          try simp only [eX, ↓reduceIte, Nat.reduceEqDiff, Int.reduceToNat]
          refine hK _ _ ?_; clear hK K
          refine OW_as rfl ?_
          refine OW_nil ?_
          try simp only [Ex.thnH, Ex.inBlockH, ↓reduceIte, Nat.reduceEqDiff]
          refine hK9 _ _ ?_; try clear hK9 K9
          refine CW_seq (fun K10 hK10 => ?_)
          refine CW_region ?_
          refine OW_mv rfl ?_
          refine OW_opS (fun K hK r => ?_)
          simp only [x_callF _ bd22, List.map_toArray, List.map_cons, List.map_nil, eX, ↓reduceIte, Nat.reduceEqDiff, Int.reduceToNat]
          refine (rDecode_ok _ _ B (hvb.le lhA) hB (by omega)).mono ?_
          rintro v23 H23 ⟨hl23, f23, cs23, vc23, ok23, rfl, hd23, hok23, rs23, ho23, hr23⟩
          try have kH23_b4 := hl23 b4 _ hbA
          have lH23_H : Le H H23 := Le.trans lhA hl23
          have lH23_H18 : Le H18 H23 := Le.trans lhA hl23
          have kH23_rc := lH23_H18 _ _ kH18_rc
          obtain ⟨a23, c23, rfl⟩ := ho23.holds.form
          have hoo := dec_ok hok18 hok23 hd18 hd23
          have hsame : f18 = f23 ∧ cs18 = cs23 := dec_agree hok18 hok23 hd18 hd23
          obtain ⟨rfl, rfl⟩ := hsame
          have hl18c : cs18.length ≤ 1000000 := dec_small hd18
          try simp only [eX, ↓reduceIte, Nat.reduceEqDiff, Int.reduceToNat]
          refine hK _ _ ?_; clear hK K
          refine OW_mv rfl ?_
          refine OW_opS (fun K hK r => ?_)
          simp only [x_extract, i_extract, List.getElem?_toArray, List.getElem?_cons_zero, List.getElem?_cons_succ, orF_some, eX, ↓reduceIte, Nat.reduceEqDiff, Int.reduceToNat]
          refine hK _ _ ?_; clear hK K
          refine OW_opS (fun K hK r => ?_)
          simp only [x_extract, i_extract, List.getElem?_toArray, List.getElem?_cons_zero, List.getElem?_cons_succ, orF_some, eX, ↓reduceIte, Nat.reduceEqDiff, Int.reduceToNat]
          refine hK _ _ ?_; clear hK K
          refine OW_opS (fun K hK r => ?_)
          simp only [x_alloc, zr24, orF_some, Value.cells, eX, ↓reduceIte, Nat.reduceEqDiff, Int.reduceToNat]
          intro b6 hb6
          try have n6_b4 : b4 ≠ b6 := ne_of_none hbA hb6
          have f6_H : H b6 = none := none_of_le lhA hb6
          have f6_H18 : H18 b6 = none := none_of_le lhA hb6
          have nrc6 : rc ≠ b6 := ne_of_none kH23_rc hb6
          try simp only [eX, ↓reduceIte, Nat.reduceEqDiff, Int.reduceToNat]
          refine hK _ _ ?_; clear hK K
          refine OW_op rfl (lt_none) (fun K hK r => ?_)
          simp only [x_store, eX, ↓reduceIte, Nat.reduceEqDiff, Int.reduceToNat]
          first | refine Lt_storeAll sz24 bdA hbA bdA plA (by decide) ?_ | refine Lt_storeAtA sz24 bdA hbA bdA plA (by decide) ?_
          try simp only [eX, ↓reduceIte, Nat.reduceEqDiff, Int.reduceToNat]
          refine hK _ _ ?_; clear hK K
          refine OW_as rfl ?_
          refine OW_nil ?_
          try simp only [Ex.thnH, Ex.inBlockH, ↓reduceIte, Nat.reduceEqDiff]
          refine hK10 _ _ ?_; try clear hK10 K10
          refine CW_seq (fun K11 hK11 => ?_)
          refine CW_seq (fun K12 hK12 => ?_)
          refine CW_region ?_
          refine OW_mv rfl ?_
          refine OW_mv rfl ?_
          refine OW_opS (fun K hK r => ?_)
          simp only [x_callF _ bd23, List.map_toArray, List.map_cons, List.map_nil, eX, ↓reduceIte, Nat.reduceEqDiff, Int.reduceToNat]
          refine (num_Kept _ rc _ B (by first | assumption | (exact hbA)) (hvb.le lhA) (by omega) hB).mono ?_
          rintro v28 H28 ⟨rfl, hH28⟩
          have hH28 := hH28.symm; subst hH28
          try simp only [eX, ↓reduceIte, Nat.reduceEqDiff, Int.reduceToNat]
          refine hK _ _ ?_; clear hK K
          refine OW_opS (fun K hK r => ?_)
          simp only [x_un, u_not, eX, ↓reduceIte, Nat.reduceEqDiff, Int.reduceToNat]
          refine hK _ _ ?_; clear hK K
          refine OW_mv rfl ?_
          (first | refine OW_split (d := 30) rfl (fun g30 => ?_) (fun g30 => ?_) | skip)
          all_goals try (exfalso; exact cnA g30)
          all_goals (try simp only [decide_eq_true_eq, decide_eq_false_iff_not, Bool.not_eq_true, Bool.not_eq_false, Bool.and_eq_true, Bool.or_eq_true, Bool.or_eq_false_iff, Bool.not_eq_true, Bool.not_eq_eq_eq_not, Bool.not_true, Bool.not_false] at g30)
          all_goals
            try simp only [eX, ↓reduceIte, Nat.reduceEqDiff, Int.reduceToNat]
            first
            | refine OW_guardT rfl (lt_some (by decide)) rfl (fun K hK r => ?_)
              simp only [x_move, eX, ↓reduceIte, Nat.reduceEqDiff, Int.reduceToNat]
              refine hK _ _ ?_; clear hK K
            | refine OW_guardF rfl (lt_some (by decide)) rfl ?_
              simp only [eX, ↓reduceIte, Nat.reduceEqDiff, Int.reduceToNat]
            first
            | refine OW_guardT rfl (lt_some (by decide)) rfl (fun K hK r => ?_)
              simp only [x_move, eX, ↓reduceIte, Nat.reduceEqDiff, Int.reduceToNat]
              refine hK _ _ ?_; clear hK K
            | refine OW_guardF rfl (lt_some (by decide)) rfl ?_
              simp only [eX, ↓reduceIte, Nat.reduceEqDiff, Int.reduceToNat]
            first
            | refine OW_guardT rfl (lt_some (by decide)) rfl (fun K hK r => ?_)
              simp only [x_bin, g_int, g_bool, g_string, g_pointer, g_slice, g_map, g_func, g_nilFunc, g_err, g_ifv, g_iface, g_nil_iface, g_nil_r, g_nil_l, eX, ↓reduceIte, Nat.reduceEqDiff, Int.reduceToNat]
              first | rw [b_err_eql _ _ Try.underlying35] | rw [b_ifv_eql _ _ Try.underlying35] | (rw [e_eql _ _ _ _ (by simp), q_equal]; first | rw [q_iface_nil _ _ _ Try.underlying35] | rw [q_nil_iface _ _ _ Try.underlying35] | rw [q_nil_nil _ _ _ Try.underlying35])
              try simp only [eX, ↓reduceIte, Nat.reduceEqDiff, Int.reduceToNat]
              refine hK _ _ ?_; clear hK K
            | refine OW_guardF rfl (lt_some (by decide)) rfl ?_
              simp only [eX, ↓reduceIte, Nat.reduceEqDiff, Int.reduceToNat]
            first
            | refine OW_guardT rfl (lt_some (by decide)) rfl (fun K hK r => ?_)
              simp only [x_bin, g_int, g_bool, g_string, g_pointer, g_slice, g_map, g_func, g_nilFunc, g_iface, g_nil_iface, g_nil_r, g_nil_l, eX, ↓reduceIte, Nat.reduceEqDiff, Int.reduceToNat]
              rw [e_neq _ _ _ _ (by simp)]
              rw [q_equal, q_bool _ _ Try.underlying4]
              try simp only [eX, ↓reduceIte, Nat.reduceEqDiff, Int.reduceToNat]
              refine hK _ _ ?_; clear hK K
            | refine OW_guardF rfl (lt_some (by decide)) rfl ?_
              simp only [eX, ↓reduceIte, Nat.reduceEqDiff, Int.reduceToNat]
            refine OW_opS (fun K hK r => ?_)
            simp only [x_pick, l_asBool, HL.ite_bool, if_true, if_false, Bool.false_eq_true, eX, ↓reduceIte, Nat.reduceEqDiff, Int.reduceToNat]
            refine hK _ _ ?_; clear hK K
            refine OW_mv rfl ?_
            (first | refine OW_split (d := 36) rfl (fun g36 => ?_) (fun g36 => ?_) | skip)
            all_goals try (exfalso; exact cnA g36)
            all_goals (try simp only [decide_eq_true_eq, decide_eq_false_iff_not, Bool.not_eq_true, Bool.not_eq_false, Bool.and_eq_true, Bool.or_eq_true, Bool.or_eq_false_iff, Bool.not_eq_true, Bool.not_eq_eq_eq_not, Bool.not_true, Bool.not_false] at g36)
            all_goals
              try simp only [eX, ↓reduceIte, Nat.reduceEqDiff, Int.reduceToNat]
              first
              | refine OW_guardT rfl (lt_some (by decide)) rfl (fun K hK r => ?_)
                simp only [x_move, eX, ↓reduceIte, Nat.reduceEqDiff, Int.reduceToNat]
                refine hK _ _ ?_; clear hK K
              | refine OW_guardF rfl (lt_some (by decide)) rfl ?_
                simp only [eX, ↓reduceIte, Nat.reduceEqDiff, Int.reduceToNat]
              first
              | refine OW_guardT rfl (lt_some (by decide)) rfl (fun K hK r => ?_)
                simp only [x_un, u_not, eX, ↓reduceIte, Nat.reduceEqDiff, Int.reduceToNat]
                refine hK _ _ ?_; clear hK K
              | refine OW_guardF rfl (lt_some (by decide)) rfl ?_
                simp only [eX, ↓reduceIte, Nat.reduceEqDiff, Int.reduceToNat]
              first
              | refine OW_guardT rfl (lt_some (by decide)) rfl (fun K hK r => ?_)
                simp only [x_move, eX, ↓reduceIte, Nat.reduceEqDiff, Int.reduceToNat]
                refine hK _ _ ?_; clear hK K
              | refine OW_guardF rfl (lt_some (by decide)) rfl ?_
                simp only [eX, ↓reduceIte, Nat.reduceEqDiff, Int.reduceToNat]
              (first | refine OW_split (d := 39) rfl (fun g39 => ?_) (fun g39 => ?_) | skip)
              all_goals try (exfalso; exact cnA g39)
              all_goals (try simp only [decide_eq_true_eq, decide_eq_false_iff_not, Bool.not_eq_true, Bool.not_eq_false, Bool.and_eq_true, Bool.or_eq_true, Bool.or_eq_false_iff, Bool.not_eq_true, Bool.not_eq_eq_eq_not, Bool.not_true, Bool.not_false] at g39)
              all_goals
                try simp only [eX, ↓reduceIte, Nat.reduceEqDiff, Int.reduceToNat]
                first
                | refine OW_guardT rfl (lt_some (by decide)) rfl (fun K hK r => ?_)
                  simp only [x_move, eX, ↓reduceIte, Nat.reduceEqDiff, Int.reduceToNat]
                  refine hK _ _ ?_; clear hK K
                | refine OW_guardF rfl (lt_some (by decide)) rfl ?_
                  simp only [eX, ↓reduceIte, Nat.reduceEqDiff, Int.reduceToNat]
                first
                | refine OW_guardT rfl (lt_some (by decide)) rfl (fun K hK r => ?_)
                  simp only [x_callF _ bd16, List.map_toArray, List.map_cons, List.map_nil, eX, ↓reduceIte, Nat.reduceEqDiff, Int.reduceToNat]
                  refine (num_Is _ o18 (fun k hk => by rcases hd18 with h | h <;> (rw [h.1] at hk; first | (cases hk; done) | (cases hk; omega))) 2 (by decide) (by decide)).mono ?_
                  rintro v H' ⟨rfl, rfl⟩
                  try simp only [eX, ↓reduceIte, Nat.reduceEqDiff, Int.reduceToNat]
                  refine hK _ _ ?_; clear hK K
                | refine OW_guardF rfl (lt_some (by decide)) rfl ?_
                  simp only [eX, ↓reduceIte, Nat.reduceEqDiff, Int.reduceToNat]
                first
                | refine OW_guardT rfl (lt_some (by decide)) rfl (fun K hK r => ?_)
                  simp only [x_un, u_not, eX, ↓reduceIte, Nat.reduceEqDiff, Int.reduceToNat]
                  refine hK _ _ ?_; clear hK K
                | refine OW_guardF rfl (lt_some (by decide)) rfl ?_
                  simp only [eX, ↓reduceIte, Nat.reduceEqDiff, Int.reduceToNat]
                first
                | refine OW_guardT rfl (lt_some (by decide)) rfl (fun K hK r => ?_)
                  simp only [x_pick, l_asBool, HL.ite_bool, if_true, if_false, Bool.false_eq_true, eX, ↓reduceIte, Nat.reduceEqDiff, Int.reduceToNat]
                  refine hK _ _ ?_; clear hK K
                | refine OW_guardF rfl (lt_some (by decide)) rfl ?_
                  simp only [eX, ↓reduceIte, Nat.reduceEqDiff, Int.reduceToNat]
                refine OW_opS (fun K hK r => ?_)
                simp only [x_pick, l_asBool, HL.ite_bool, if_true, if_false, Bool.false_eq_true, eX, ↓reduceIte, Nat.reduceEqDiff, Int.reduceToNat]
                refine hK _ _ ?_; clear hK K
                refine OW_mv rfl ?_
                (first | refine OW_split (d := 45) rfl (fun g45 => ?_) (fun g45 => ?_) | skip)
                all_goals try (exfalso; exact cnA g45)
                all_goals (try simp only [decide_eq_true_eq, decide_eq_false_iff_not, Bool.not_eq_true, Bool.not_eq_false, Bool.and_eq_true, Bool.or_eq_true, Bool.or_eq_false_iff, Bool.not_eq_true, Bool.not_eq_eq_eq_not, Bool.not_true, Bool.not_false] at g45)
                all_goals
                  try simp only [eX, ↓reduceIte, Nat.reduceEqDiff, Int.reduceToNat]
                  first
                  | refine OW_guardT rfl (lt_some (by decide)) rfl (fun K hK r => ?_)
                    simp only [x_load, eX, ↓reduceIte, Nat.reduceEqDiff, Int.reduceToNat]
                    first | refine Lt_loadAll Try.underlying24 rfl sz24 hbA bdA ?_ | refine Lt_loadAtA Try.underlying24 rfl sz24 hbA bdA ?_
                    try simp only [List.extract_toArray, List.extract_eq_take_drop, Nat.zero_add, Nat.reduceAdd, Nat.reduceSub, Nat.sub_zero, List.drop_succ_cons, List.drop_zero, List.take_succ_cons, List.take_zero, List.take_nil, List.drop_nil]
                    try simp only [eX, ↓reduceIte, Nat.reduceEqDiff, Int.reduceToNat]
                    refine hK _ _ ?_; clear hK K
                  | refine OW_guardF rfl (lt_some (by decide)) rfl ?_
                    simp only [eX, ↓reduceIte, Nat.reduceEqDiff, Int.reduceToNat]
                  first
                  | refine OW_guardT rfl (lt_some (by decide)) rfl (fun K hK r => ?_)
                    simp only [x_load, eX, ↓reduceIte, Nat.reduceEqDiff, Int.reduceToNat]
                    first | refine Lt_loadAll Try.underlying24 rfl sz24 hbA bdA ?_ | refine Lt_loadAtA Try.underlying24 rfl sz24 hbA bdA ?_
                    try simp only [List.extract_toArray, List.extract_eq_take_drop, Nat.zero_add, Nat.reduceAdd, Nat.reduceSub, Nat.sub_zero, List.drop_succ_cons, List.drop_zero, List.take_succ_cons, List.take_zero, List.take_nil, List.drop_nil]
                    try simp only [eX, ↓reduceIte, Nat.reduceEqDiff, Int.reduceToNat]
                    refine hK _ _ ?_; clear hK K
                  | refine OW_guardF rfl (lt_some (by decide)) rfl ?_
                    simp only [eX, ↓reduceIte, Nat.reduceEqDiff, Int.reduceToNat]
                  first
                  | refine OW_guardT rfl (lt_some (by decide)) rfl (fun K hK r => ?_)
                    simp only [x_callF _ bd12, List.map_toArray, List.map_cons, List.map_nil, eX, ↓reduceIte, Nat.reduceEqDiff, Int.reduceToNat]
                    refine (programs_ok _ f18 f18 _ _ cs18 cs18 (ho18.holds.le (by first | exact lhA | exact Le.trans lH23_H18 (le_upd_of (Le.refl _) (by assumption)))) (ho23.holds.le lhA) hl18c).mono ?_
                    rintro v48 H48 ⟨rfl, hl48⟩
                    try have kH48_b4 := hl48 b4 _ hbA
                    try have kH48_b6 := hl48 b6 _ hbA
                    have lH48_H : Le H H48 := Le.trans lhA hl48
                    have lH48_H18 : Le H18 H48 := Le.trans lhA hl48
                    try simp only [eX, ↓reduceIte, Nat.reduceEqDiff, Int.reduceToNat]
                    refine hK _ _ ?_; clear hK K
                  | refine OW_guardF rfl (lt_some (by decide)) rfl ?_
                    simp only [eX, ↓reduceIte, Nat.reduceEqDiff, Int.reduceToNat]
                  first
                  | refine OW_guardT rfl (lt_some (by decide)) rfl (fun K hK r => ?_)
                    simp only [x_un, u_not, eX, ↓reduceIte, Nat.reduceEqDiff, Int.reduceToNat]
                    refine hK _ _ ?_; clear hK K
                  | refine OW_guardF rfl (lt_some (by decide)) rfl ?_
                    simp only [eX, ↓reduceIte, Nat.reduceEqDiff, Int.reduceToNat]
                  refine OW_opS (fun K hK r => ?_)
                  simp only [x_pick, l_asBool, HL.ite_bool, if_true, if_false, Bool.false_eq_true, eX, ↓reduceIte, Nat.reduceEqDiff, Int.reduceToNat]
                  refine hK _ _ ?_; clear hK K
                  refine OW_nil ?_
                  try simp only [Ex.thnH, Ex.inBlockH, ↓reduceIte, Nat.reduceEqDiff]
                  refine hK12 _ _ ?_; try clear hK12 K12
                  refine CW_cond (fun r => rfl) (fun c50 => ?_) (fun c50 => ?_)
                  · first
                    | (exfalso; exact cnA c50; done)
                    | skip
                      have q50 := c50
                      refine CW_seq (fun K13 hK13 => ?_)
                      refine CW_region ?_
                      refine OW_as rfl ?_
                      refine OW_nil ?_
                      try simp only [Ex.thnH, Ex.inBlockH, ↓reduceIte, Nat.reduceEqDiff]
                      refine hK13 _ _ ?_; try clear hK13 K13
                      refine CW_ret ?_
                      try simp only [Ex.thnH, Ex.inBlockH, ↓reduceIte, Nat.reduceEqDiff]
                      exfalso
                      rcases hoo with ⟨h1, h2⟩ | ⟨h1, h2⟩ <;> (subst h1; subst h2; first | (simp at q50; done) | (simp_all; done))
                  · first
                    | (exfalso; exact cnA c50; done)
                    | skip
                      have q50 := c50
                      refine CW_skip ?_
                      try simp only [Ex.thnH, Ex.inBlockH, ↓reduceIte, Nat.reduceEqDiff]
                      refine hK11 _ _ ?_; try clear hK11 K11
                      refine CW_seq (fun K14 hK14 => ?_)
                      refine CW_seq (fun K15 hK15 => ?_)
                      refine CW_region ?_
                      refine OW_mv rfl ?_
                      refine OW_opS (fun K hK r => ?_)
                      simp only [x_un, u_not, eX, ↓reduceIte, Nat.reduceEqDiff, Int.reduceToNat]
                      refine hK _ _ ?_; clear hK K
                      refine OW_nil ?_
                      try simp only [Ex.thnH, Ex.inBlockH, ↓reduceIte, Nat.reduceEqDiff]
                      refine hK15 _ _ ?_; try clear hK15 K15
                      refine CW_cond (fun r => rfl) (fun c52 => ?_) (fun c52 => ?_)
                      · first
                        | (exfalso; exact cnA c52; done)
                        | skip
                          (try simp only [decide_eq_true_eq, decide_eq_false_iff_not, Bool.not_eq_true, Bool.not_eq_false, Bool.and_eq_true, Bool.or_eq_true, Bool.or_eq_false_iff, Bool.not_eq_true, Bool.not_eq_eq_eq_not, Bool.not_true, Bool.not_false] at c52)
                          refine CW_seq (fun K16 hK16 => ?_)
                          refine CW_region ?_
                          refine OW_as rfl ?_
                          refine OW_nil ?_
                          try simp only [Ex.thnH, Ex.inBlockH, ↓reduceIte, Nat.reduceEqDiff]
                          refine hK16 _ _ ?_; try clear hK16 K16
                          refine CW_ret ?_
                          try simp only [Ex.thnH, Ex.inBlockH, ↓reduceIte, Nat.reduceEqDiff]
                          refine ⟨[_], ⟨rfl, trivial⟩, _, Le.refl _, rfl, lhA⟩
                      · first
                        | (exfalso; exact cnA c52; done)
                        | skip
                          (try simp only [decide_eq_true_eq, decide_eq_false_iff_not, Bool.not_eq_true, Bool.not_eq_false, Bool.and_eq_true, Bool.or_eq_true, Bool.or_eq_false_iff, Bool.not_eq_true, Bool.not_eq_eq_eq_not, Bool.not_true, Bool.not_false] at c52)
                          have hok : ok23 = true := by first | assumption | (simpa using c52)
                          refine CW_skip ?_
                          try simp only [Ex.thnH, Ex.inBlockH, ↓reduceIte, Nat.reduceEqDiff]
                          refine hK14 _ _ ?_; try clear hK14 K14
                          refine CW_seq (fun K17 hK17 => ?_)
                          refine CW_region ?_
                          refine OW_opS (fun K hK r => ?_)
                          simp only [x_load, eX, ↓reduceIte, Nat.reduceEqDiff, Int.reduceToNat]
                          first | refine Lt_loadAll Try.underlying24 rfl sz24 hbA bdA ?_ | refine Lt_loadAtA Try.underlying24 rfl sz24 hbA bdA ?_
                          try simp only [List.extract_toArray, List.extract_eq_take_drop, Nat.zero_add, Nat.reduceAdd, Nat.reduceSub, Nat.sub_zero, List.drop_succ_cons, List.drop_zero, List.take_succ_cons, List.take_zero, List.take_nil, List.drop_nil]
                          try simp only [eX, ↓reduceIte, Nat.reduceEqDiff, Int.reduceToNat]
                          refine hK _ _ ?_; clear hK K
                          refine OW_opS (fun K hK r => ?_)
                          simp only [x_callF _ bd14, List.map_toArray, List.map_cons, List.map_nil, eX, ↓reduceIte, Nat.reduceEqDiff, Int.reduceToNat]
                          refine (encode_ok _ f18 _ cs18 (ho18.holds.le lH48_H18) hl18c hok18).mono ?_
                          rintro v55 H55 ⟨vb55, o55, rfl, hl55, ho55, hq55, rs55, hw55, hr55⟩
                          try have kH55_b4 := hl55 b4 _ hbA
                          try have kH55_b6 := hl55 b6 _ hbA
                          have lH55_H : Le H H55 := Le.trans lhA hl55
                          have lH55_H18 : Le H18 H55 := Le.trans lhA hl55
                          obtain ⟨hgood, henc⟩ : GoodP f18 cs18 ∧ encP f18 cs18 = B := by
                            rcases hd23 with ⟨_, h1, h2⟩ | ⟨h0, _⟩
                            · exact ⟨h1, h2⟩
                            · exfalso; simp_all
                          obtain rfl := ho55.2 hgood
                          rw [encB_good hgood, henc] at hw55
                          obtain ⟨a55, c55, rfl⟩ := hw55.holds.form
                          try simp only [eX, ↓reduceIte, Nat.reduceEqDiff, Int.reduceToNat]
                          refine hK _ _ ?_; clear hK K
                          refine OW_mv rfl ?_
                          refine OW_opS (fun K hK r => ?_)
                          simp only [x_extract, i_extract, List.getElem?_toArray, List.getElem?_cons_zero, List.getElem?_cons_succ, orF_some, eX, ↓reduceIte, Nat.reduceEqDiff, Int.reduceToNat]
                          refine hK _ _ ?_; clear hK K
                          refine OW_opS (fun K hK r => ?_)
                          simp only [x_extract, i_extract, List.getElem?_toArray, List.getElem?_cons_zero, List.getElem?_cons_succ, orF_some, eX, ↓reduceIte, Nat.reduceEqDiff, Int.reduceToNat]
                          refine hK _ _ ?_; clear hK K
                          refine OW_as rfl ?_
                          refine OW_as rfl ?_
                          refine OW_nil ?_
                          try simp only [Ex.thnH, Ex.inBlockH, ↓reduceIte, Nat.reduceEqDiff]
                          refine hK17 _ _ ?_; try clear hK17 K17
                          refine CW_seq (fun K18 hK18 => ?_)
                          refine CW_region ?_
                          refine OW_mv rfl ?_
                          refine OW_opS (fun K hK r => ?_)
                          simp only [x_bin, g_int, g_bool, g_string, g_pointer, g_slice, g_map, g_func, g_nilFunc, g_err, g_ifv, g_iface, g_nil_iface, g_nil_r, g_nil_l, eX, ↓reduceIte, Nat.reduceEqDiff, Int.reduceToNat]
                          first | rw [b_err_eql _ _ Try.underlying35] | rw [b_ifv_eql _ _ Try.underlying35] | (rw [e_eql _ _ _ _ (by simp), q_equal]; first | rw [q_iface_nil _ _ _ Try.underlying35] | rw [q_nil_iface _ _ _ Try.underlying35] | rw [q_nil_nil _ _ _ Try.underlying35])
                          try simp only [eX, ↓reduceIte, Nat.reduceEqDiff, Int.reduceToNat]
                          refine hK _ _ ?_; clear hK K
                          refine OW_mv rfl ?_
                          (first | refine OW_split (d := 60) rfl (fun g60 => ?_) (fun g60 => ?_) | skip)
                          all_goals try (exfalso; exact cnA g60)
                          all_goals (try simp only [decide_eq_true_eq, decide_eq_false_iff_not, Bool.not_eq_true, Bool.not_eq_false, Bool.and_eq_true, Bool.or_eq_true, Bool.or_eq_false_iff, Bool.not_eq_true, Bool.not_eq_eq_eq_not, Bool.not_true, Bool.not_false] at g60)
                          all_goals
                            try simp only [eX, ↓reduceIte, Nat.reduceEqDiff, Int.reduceToNat]
                            first
                            | refine OW_guardT rfl (lt_some (by decide)) rfl (fun K hK r => ?_)
                              simp only [x_move, eX, ↓reduceIte, Nat.reduceEqDiff, Int.reduceToNat]
                              refine hK _ _ ?_; clear hK K
                            | refine OW_guardF rfl (lt_some (by decide)) rfl ?_
                              simp only [eX, ↓reduceIte, Nat.reduceEqDiff, Int.reduceToNat]
                            first
                            | refine OW_guardT rfl (lt_some (by decide)) rfl (fun K hK r => ?_)
                              simp only [x_move, eX, ↓reduceIte, Nat.reduceEqDiff, Int.reduceToNat]
                              refine hK _ _ ?_; clear hK K
                            | refine OW_guardF rfl (lt_some (by decide)) rfl ?_
                              simp only [eX, ↓reduceIte, Nat.reduceEqDiff, Int.reduceToNat]
                            first
                            | refine OW_guardT rfl (lt_some (by decide)) rfl (fun K hK r => ?_)
                              simp only [x_callF _ bd19, List.map_toArray, List.map_cons, List.map_nil, eX, ↓reduceIte, Nat.reduceEqDiff, Int.reduceToNat]
                              refine (num_Same _ _ _ _ _ B B hw55.holds (hvb.le lhA) hB hB).mono ?_
                              rintro v H' ⟨rfl, rfl⟩
                              try simp only [eX, ↓reduceIte, Nat.reduceEqDiff, Int.reduceToNat]
                              refine hK _ _ ?_; clear hK K
                            | refine OW_guardF rfl (lt_some (by decide)) rfl ?_
                              simp only [eX, ↓reduceIte, Nat.reduceEqDiff, Int.reduceToNat]
                            refine OW_opS (fun K hK r => ?_)
                            simp only [x_pick, l_asBool, HL.ite_bool, if_true, if_false, Bool.false_eq_true, eX, ↓reduceIte, Nat.reduceEqDiff, Int.reduceToNat]
                            refine hK _ _ ?_; clear hK K
                            refine OW_as rfl ?_
                            refine OW_nil ?_
                            try simp only [Ex.thnH, Ex.inBlockH, ↓reduceIte, Nat.reduceEqDiff]
                            refine hK18 _ _ ?_; try clear hK18 K18
                            refine CW_ret ?_
                            try simp only [Ex.thnH, Ex.inBlockH, ↓reduceIte, Nat.reduceEqDiff]
                            refine ⟨[_], ⟨rfl, trivial⟩, _, Le.refl _, ?_, lhA⟩
                            show Value.bool _ = _
                            first | rfl | (simp; done) | (simp_all; done)

end Go.Proofs.Ytlkopcgoaldpeaa.HL
end
