/- A part of the proof. -/
import Derived.Test.YtlkopcgoaldpeaaP12
namespace Go.Proofs.Ytlkopcgoaldpeaa.HL
open Go Go.Proofs
set_option linter.unusedSimpArgs false
set_option linter.unusedVariables false
attribute [local irreducible] Lt Lq CW OW TW CallH

set_option maxRecDepth 100000 in
set_option maxHeartbeats 1000000 in
theorem check_ok (H : Hp) (fuel : Int) (vc : Value) (cs : List Cd) (hv : Holds H 6 vc cs.length (cds cs)) (hn : cs.length ≤ 1000000) : CallH Try.prog 24 #[.agg #[.int .i64 fuel, vc]] H (fun v H' => ∃ o, v = fltV o ∧ Le H H' ∧ (o = none ↔ checkP fuel cs = -2) ∧ ∀ b, o = some b → H b = none ∧ H' b = some (fltO (checkP fuel cs))) := by
  refine CallH_enter (l := [_]) (rl := [.tmp 2]) (n := 37) Try.func24 rfl rfl rfl rfl rfl ?_
  simp only [envOf, Nat.reduceAdd]
  obtain ⟨av, kv, rfl⟩ := hv.form
  refine CW_seq (fun K1 hK1 => ?_)
  refine CW_region ?_
  refine OW_opS (fun K hK r => ?_)
  simp only [x_box, Value.cells, eX, ↓reduceIte, Nat.reduceEqDiff, Int.reduceToNat]
  intro b1 hb1
  have f1_H : H b1 = none := none_of_le lhA hb1
  try simp only [eX, ↓reduceIte, Nat.reduceEqDiff, Int.reduceToNat]
  refine hK _ _ ?_; clear hK K
  refine OW_as rfl ?_
  refine OW_nil ?_
  try simp only [Ex.thnH, Ex.inBlockH, ↓reduceIte, Nat.reduceEqDiff]
  refine hK1 _ _ ?_; try clear hK1 K1
  refine CW_seq (fun K2 hK2 => ?_)
  refine CW_seq (fun K3 hK3 => ?_)
  refine CW_region_cut (fun e H_ => Env.has [(1, .pointer (some ⟨b1, 0, none⟩)), (15, .bool (decide (¬ (1 ≤ fuel ∧ fuel ≤ 1000 ∧ 1 ≤ cs.length ∧ cs.length ≤ 32))))] e ∧ H_ = H.upd b1 (.cells #[.int .i64 fuel, .slice av cs.length kv] 24)) ?_ ?_
  · skip
    refine OW_opS (fun K hK r => ?_)
    simp only [x_fieldAddr, fa24_0, add_mk, Nat.reduceAdd, Nat.zero_add, eX, ↓reduceIte, Nat.reduceEqDiff, Int.reduceToNat]
    refine hK _ _ ?_; clear hK K
    refine OW_opS (fun K hK r => ?_)
    simp only [x_load, eX, ↓reduceIte, Nat.reduceEqDiff, Int.reduceToNat]
    refine Lt_loadAt1 Try.underlying3 rfl hbA ldA ?_
    try simp only [eX, ↓reduceIte, Nat.reduceEqDiff, Int.reduceToNat]
    refine hK _ _ ?_; clear hK K
    refine OW_opS (fun K hK r => ?_)
    simp only [x_callF _ bd46, List.map_toArray, List.map_cons, List.map_nil, eX, ↓reduceIte, Nat.reduceEqDiff, Int.reduceToNat]
    refine (within_ok _ fuel 1 1000).mono ?_
    rintro v H' ⟨rfl, rfl⟩
    try simp only [eX, ↓reduceIte, Nat.reduceEqDiff, Int.reduceToNat]
    refine hK _ _ ?_; clear hK K
    refine OW_opS (fun K hK r => ?_)
    simp only [x_un, u_not, eX, ↓reduceIte, Nat.reduceEqDiff, Int.reduceToNat]
    refine hK _ _ ?_; clear hK K
    refine OW_mv rfl ?_
    (first | refine OW_split (d := 9) rfl (fun g9 => ?_) (fun g9 => ?_) | skip)
    all_goals try (exfalso; exact cnA g9)
    all_goals (try simp only [decide_eq_true_eq, decide_eq_false_iff_not, Bool.not_eq_true, Bool.not_eq_false, Bool.and_eq_true, Bool.or_eq_true, Bool.or_eq_false_iff, Bool.not_eq_true, Bool.not_eq_eq_eq_not, Bool.not_true, Bool.not_false] at g9)
    all_goals
      try simp only [eX, ↓reduceIte, Nat.reduceEqDiff, Int.reduceToNat]
      first
      | refine OW_guardT rfl (lt_some (by decide)) rfl (fun K hK r => ?_)
        simp only [x_fieldAddr, fa24_1, add_mk, Nat.reduceAdd, Nat.zero_add, eX, ↓reduceIte, Nat.reduceEqDiff, Int.reduceToNat]
        refine hK _ _ ?_; clear hK K
      | refine OW_guardF rfl (lt_some (by decide)) rfl ?_
        simp only [eX, ↓reduceIte, Nat.reduceEqDiff, Int.reduceToNat]
      first
      | refine OW_guardT rfl (lt_some (by decide)) rfl (fun K hK r => ?_)
        simp only [x_load, eX, ↓reduceIte, Nat.reduceEqDiff, Int.reduceToNat]
        refine Lt_loadAt1 Try.underlying22 rfl hbA ldA ?_
        try simp only [eX, ↓reduceIte, Nat.reduceEqDiff, Int.reduceToNat]
        refine hK _ _ ?_; clear hK K
      | refine OW_guardF rfl (lt_some (by decide)) rfl ?_
        simp only [eX, ↓reduceIte, Nat.reduceEqDiff, Int.reduceToNat]
      first
      | refine OW_guardT rfl (lt_some (by decide)) rfl (fun K hK r => ?_)
        simp only [x_builtin, l_len, List.map_toArray, List.map_cons, List.map_nil, i_len_slice _ _ Try.underlying22, eX, ↓reduceIte, Nat.reduceEqDiff, Int.reduceToNat]
        refine hK _ _ ?_; clear hK K
      | refine OW_guardF rfl (lt_some (by decide)) rfl ?_
        simp only [eX, ↓reduceIte, Nat.reduceEqDiff, Int.reduceToNat]
      first
      | refine OW_guardT rfl (lt_some (by decide)) rfl (fun K hK r => ?_)
        simp only [x_callF _ bd46, List.map_toArray, List.map_cons, List.map_nil, eX, ↓reduceIte, Nat.reduceEqDiff, Int.reduceToNat]
        refine (within_ok _ cs.length 1 32).mono ?_
        rintro v H' ⟨rfl, rfl⟩
        try simp only [eX, ↓reduceIte, Nat.reduceEqDiff, Int.reduceToNat]
        refine hK _ _ ?_; clear hK K
      | refine OW_guardF rfl (lt_some (by decide)) rfl ?_
        simp only [eX, ↓reduceIte, Nat.reduceEqDiff, Int.reduceToNat]
      first
      | refine OW_guardT rfl (lt_some (by decide)) rfl (fun K hK r => ?_)
        simp only [x_un, u_not, eX, ↓reduceIte, Nat.reduceEqDiff, Int.reduceToNat]
        refine hK _ _ ?_; clear hK K
      | refine OW_guardF rfl (lt_some (by decide)) rfl ?_
        simp only [eX, ↓reduceIte, Nat.reduceEqDiff, Int.reduceToNat]
      refine OW_opS (fun K hK r => ?_)
      simp only [x_pick, l_asBool, HL.ite_bool, if_true, if_false, Bool.false_eq_true, eX, ↓reduceIte, Nat.reduceEqDiff, Int.reduceToNat]
      refine hK _ _ ?_; clear hK K
      refine OW_nil ?_
      all_goals
        refine ⟨⟨rfl, ?_, trivial⟩, (by first | rfl | trivial)⟩
        show some (Value.bool _) = some (Value.bool _)
        congr 1
        first | (congr 1; rw [Bool.eq_iff_iff]; simp only [decide_eq_true_eq, Bool.not_eq_true', decide_eq_false_iff_not]; omega) | (congr 1; exact (decide_eq_true (by omega)).symm) | (congr 1; exact (decide_eq_false (by omega)).symm)
  rintro e_ H_ ⟨he, hH_⟩
  have hH_ := hH_.symm; subst hH_
  try simp only [Ex.thnH, Ex.inBlockH, ↓reduceIte, Nat.reduceEqDiff]
  refine hK3 _ _ ?_; try clear hK3 K3
  refine CW_env he.sub ?_; clear he e_
  refine CW_cond (fun r => rfl) (fun c15 => ?_) (fun c15 => ?_)
  · first
    | (exfalso; exact cnA c15; done)
    | skip
      (try simp only [decide_eq_true_eq, decide_eq_false_iff_not, Bool.not_eq_true, Bool.not_eq_false, Bool.and_eq_true, Bool.or_eq_true, Bool.or_eq_false_iff, Bool.not_eq_true, Bool.not_eq_eq_eq_not, Bool.not_true, Bool.not_false] at c15)
      refine CW_seq (fun K4 hK4 => ?_)
      refine CW_region ?_
      refine OW_opS (fun K hK r => ?_)
      simp only [x_callF _ bd47, List.map_toArray, List.map_cons, List.map_nil, eX, ↓reduceIte, Nat.reduceEqDiff, Int.reduceToNat]
      refine (fault_ok _ (-1)).mono ?_
      rintro v H16 ⟨bf, rfl, hbf, rfl⟩
      try simp only [eX, ↓reduceIte, Nat.reduceEqDiff, Int.reduceToNat]
      refine hK _ _ ?_; clear hK K
      refine OW_as rfl ?_
      refine OW_nil ?_
      try simp only [Ex.thnH, Ex.inBlockH, ↓reduceIte, Nat.reduceEqDiff]
      refine hK4 _ _ ?_; try clear hK4 K4
      refine CW_ret ?_
      try simp only [Ex.thnH, Ex.inBlockH, ↓reduceIte, Nat.reduceEqDiff]
      have hc : checkP fuel cs = -1 := by unfold checkP; rw [if_neg (by first | assumption | simp_all)]
      refine ⟨[_], ⟨rfl, trivial⟩, _, Le.refl _, some bf, rfl, (by exact le_upd_of lhA (none_of_le lhA hbf)), ⟨(fun h => by cases h), (fun h => by rw [hc] at h; cases h)⟩, fun b hb => ?_⟩
      cases hb
      exact ⟨none_of_le lhA hbf, by rw [hc]; exact upd_same _ _ _⟩
  · first
    | (exfalso; exact cnA c15; done)
    | skip
      (try simp only [decide_eq_true_eq, decide_eq_false_iff_not, Bool.not_eq_true, Bool.not_eq_false, Bool.and_eq_true, Bool.or_eq_true, Bool.or_eq_false_iff, Bool.not_eq_true, Bool.not_eq_eq_eq_not, Bool.not_true, Bool.not_false] at c15)
      have hr : 1 ≤ fuel ∧ fuel ≤ 1000 ∧ 1 ≤ cs.length ∧ cs.length ≤ 32 := by first | assumption | simp_all
      obtain ⟨bv, ov, cv, Tv, Fv, rfl, hbv, hsv, atv⟩ := hv.at (by omega)
      try have n_bv_b1 : bv ≠ b1 := ne_of_none hbv f1_H
      refine CW_skip ?_
      try simp only [Ex.thnH, Ex.inBlockH, ↓reduceIte, Nat.reduceEqDiff]
      refine hK2 _ _ ?_; try clear hK2 K2
      refine CW_seq (fun K5 hK5 => ?_)
      refine CW_seq (fun K6 hK6 => ?_)
      refine CW_region ?_
      refine OW_opS (fun K hK r => ?_)
      simp only [x_fieldAddr, fa24_1, add_mk, Nat.reduceAdd, Nat.zero_add, eX, ↓reduceIte, Nat.reduceEqDiff, Int.reduceToNat]
      refine hK _ _ ?_; clear hK K
      refine OW_opS (fun K hK r => ?_)
      simp only [x_load, eX, ↓reduceIte, Nat.reduceEqDiff, Int.reduceToNat]
      refine Lt_loadAt1 Try.underlying22 rfl hbA ldA ?_
      try simp only [eX, ↓reduceIte, Nat.reduceEqDiff, Int.reduceToNat]
      refine hK _ _ ?_; clear hK K
      refine OW_opS (fun K hK r => ?_)
      simp only [x_builtin, l_len, List.map_toArray, List.map_cons, List.map_nil, i_len_slice _ _ Try.underlying22, eX, ↓reduceIte, Nat.reduceEqDiff, Int.reduceToNat]
      refine hK _ _ ?_; clear hK K
      refine OW_mv rfl ?_
      refine OW_nil ?_
      try simp only [Ex.thnH, Ex.inBlockH, ↓reduceIte, Nat.reduceEqDiff]
      refine hK6 _ _ ?_; try clear hK6 K6
      refine CW_block ?_
      refine CW_loop (fun m e H_ => ∃ k : Nat, k ≤ cs.length ∧ m = cs.length - k ∧ badAt cs cs.length = badAt cs (cs.length - k) ∧ Env.has [(1, .pointer (some ⟨b1, 0, none⟩)), (18, .slice (some ⟨bv, ov, none⟩) cs.length kv), (19, .int .i64 cs.length), (20, .int .i64 k)] e ∧ Le H H_ ∧ H_ b1 = some (.cells #[.int .i64 fuel, .slice (some ⟨bv, ov, none⟩) cs.length kv] 24)) (cs.length) ?_ ?_
      · skip
        exact ⟨0, by omega, by omega, rfl, ⟨rfl, rfl, rfl, rfl, trivial⟩, lhA, hbA⟩
      intro m_ e_ H_ hI_
      obtain ⟨k, hk, rfl, hbad, he, hle, hk1⟩ := hI_
      have hbv_ := hle _ _ hbv
      refine CW_env he.sub ?_; clear he e_
      refine CW_seq (fun K7 hK7 => ?_)
      refine CW_region ?_
      refine OW_opS (fun K hK r => ?_)
      simp (disch := (first | omega | decide)) only [x_bin, g_int, b_lss, dec_lt_t, dec_lt_f, dec_le_t, dec_le_f, dec_eq_t, dec_eq_f, Bool.not_true, Bool.not_false, eX, ↓reduceIte, Nat.reduceEqDiff, Int.reduceToNat]
      refine hK _ _ ?_; clear hK K
      refine OW_nil ?_
      try simp only [Ex.thnH, Ex.inBlockH, ↓reduceIte, Nat.reduceEqDiff]
      refine hK7 _ _ ?_; try clear hK7 K7
      refine CW_seq (fun K8 hK8 => ?_)
      refine CW_cond (fun r => rfl) (fun c21 => ?_) (fun c21 => ?_)
      · first
        | (exfalso; exact cnA c21; done)
        | skip
          (try simp only [decide_eq_true_eq, decide_eq_false_iff_not, Bool.not_eq_true, Bool.not_eq_false, Bool.and_eq_true, Bool.or_eq_true, Bool.or_eq_false_iff, Bool.not_eq_true, Bool.not_eq_eq_eq_not, Bool.not_true, Bool.not_false] at c21)
          refine CW_skip ?_
          try simp only [Ex.thnH, Ex.inBlockH, ↓reduceIte, Nat.reduceEqDiff]
          refine hK8 _ _ ?_; try clear hK8 K8
          refine CW_seq (fun K9 hK9 => ?_)
          refine CW_block ?_
          refine CW_seq (fun K10 hK10 => ?_)
          refine CW_region ?_
          refine OW_mv rfl ?_
          refine OW_opS (fun K hK r => ?_)
          simp only [x_indexAddr, eX, ↓reduceIte, Nat.reduceEqDiff, Int.reduceToNat]
          refine Lt_indexS Try.underlying22 sz47 ixA ixA ?_
          try simp only [add_mk, Nat.mul_one, Nat.zero_add, Int.reduceToNat]
          try simp only [eX, ↓reduceIte, Nat.reduceEqDiff, Int.reduceToNat]
          refine hK _ _ ?_; clear hK K
          refine OW_opS (fun K hK r => ?_)
          simp only [x_load, eX, ↓reduceIte, Nat.reduceEqDiff, Int.reduceToNat]
          refine Lt_loadAtA Try.underlying47 rfl sz47 hbA (by simp only [Int.toNat_natCast]; omega) ?_
          simp only [Int.toNat_natCast]
          rw [ext_at Cd.len atv rfl k (by omega) hsv]
          refine hK _ _ ?_; clear hK K
          refine OW_opS (fun K hK r => ?_)
          simp only [x_alloc, zr47, orF_some, Value.cells, eX, ↓reduceIte, Nat.reduceEqDiff, Int.reduceToNat]
          intro b4 hb4
          try have n4_b1 : b1 ≠ b4 := ne_of_none hbA hb4
          have f4_H : H b4 = none := none_of_le lhA hb4
          try simp only [eX, ↓reduceIte, Nat.reduceEqDiff, Int.reduceToNat]
          refine hK _ _ ?_; clear hK K
          refine OW_as rfl ?_
          refine OW_op rfl (lt_none) (fun K hK r => ?_)
          simp only [x_store, eX, ↓reduceIte, Nat.reduceEqDiff, Int.reduceToNat]
          first | refine Lt_storeAll sz47 bdA hbA bdA plA (by decide) ?_ | refine Lt_storeAtA sz47 bdA hbA bdA plA (by decide) ?_
          try simp only [eX, ↓reduceIte, Nat.reduceEqDiff, Int.reduceToNat]
          refine hK _ _ ?_; clear hK K
          refine OW_nil ?_
          try simp only [Ex.thnH, Ex.inBlockH, ↓reduceIte, Nat.reduceEqDiff]
          refine hK10 _ _ ?_; try clear hK10 K10
          refine CW_seq (fun K11 hK11 => ?_)
          refine CW_region ?_
          refine OW_opS (fun K hK r => ?_)
          simp only [x_load, eX, ↓reduceIte, Nat.reduceEqDiff, Int.reduceToNat]
          first | refine Lt_loadAll Try.underlying47 rfl sz47 hbA bdA ?_ | refine Lt_loadAtA Try.underlying47 rfl sz47 hbA bdA ?_
          try simp only [List.extract_toArray, List.extract_eq_take_drop, Nat.zero_add, Nat.reduceAdd, Nat.reduceSub, Nat.sub_zero, List.drop_succ_cons, List.drop_zero, List.take_succ_cons, List.take_zero, List.take_nil, List.drop_nil]
          try simp only [eX, ↓reduceIte, Nat.reduceEqDiff, Int.reduceToNat]
          refine hK _ _ ?_; clear hK K
          refine OW_opS (fun K hK r => ?_)
          simp only [x_fieldAddr, fa24_1, add_mk, Nat.reduceAdd, Nat.zero_add, eX, ↓reduceIte, Nat.reduceEqDiff, Int.reduceToNat]
          refine hK _ _ ?_; clear hK K
          refine OW_opS (fun K hK r => ?_)
          simp only [x_load, eX, ↓reduceIte, Nat.reduceEqDiff, Int.reduceToNat]
          refine Lt_loadAt1 Try.underlying22 rfl hbA ldA ?_
          try simp only [eX, ↓reduceIte, Nat.reduceEqDiff, Int.reduceToNat]
          refine hK _ _ ?_; clear hK K
          refine OW_opS (fun K hK r => ?_)
          simp only [x_builtin, l_len, List.map_toArray, List.map_cons, List.map_nil, i_len_slice _ _ Try.underlying22, eX, ↓reduceIte, Nat.reduceEqDiff, Int.reduceToNat]
          refine hK _ _ ?_; clear hK K
          refine OW_opS (fun K hK r => ?_)
          simp (disch := (first | omega | decide)) only [x_bin, g_int, b_sub, wrap_i64, wrap_u64, wrap_u32, wrap_u8, eX, ↓reduceIte, Nat.reduceEqDiff, Int.reduceToNat]
          refine hK _ _ ?_; clear hK K
          refine OW_mv rfl ?_
          refine OW_opS (fun K hK r => ?_)
          simp (disch := (first | omega | decide)) only [x_bin, g_int, b_sub, wrap_i64, wrap_u64, wrap_u32, wrap_u8, eX, ↓reduceIte, Nat.reduceEqDiff, Int.reduceToNat]
          refine hK _ _ ?_; clear hK K
          refine OW_opS (fun K hK r => ?_)
          simp only [x_callF _ bd48, List.map_toArray, List.map_cons, List.map_nil, eX, ↓reduceIte, Nat.reduceEqDiff, Int.reduceToNat]
          refine (good_ok _ (cs.getD k default) ((cs.length : Int) - 1 - k)).mono ?_
          rintro v32 H32 ⟨rfl, hl32⟩
          have kH32_b1 := hl32 b1 _ hbA
          have kH32_b4 := hl32 b4 _ hbA
          have lH32_H : Le H H32 := Le.trans lhA hl32
          try simp only [eX, ↓reduceIte, Nat.reduceEqDiff, Int.reduceToNat]
          refine hK _ _ ?_; clear hK K
          refine OW_opS (fun K hK r => ?_)
          simp only [x_un, u_not, eX, ↓reduceIte, Nat.reduceEqDiff, Int.reduceToNat]
          refine hK _ _ ?_; clear hK K
          refine OW_nil ?_
          try simp only [Ex.thnH, Ex.inBlockH, ↓reduceIte, Nat.reduceEqDiff]
          refine hK11 _ _ ?_; try clear hK11 K11
          refine CW_cond (fun r => rfl) (fun c33 => ?_) (fun c33 => ?_)
          · first
            | (exfalso; exact cnA c33; done)
            | skip
              (try simp only [decide_eq_true_eq, decide_eq_false_iff_not, Bool.not_eq_true, Bool.not_eq_false, Bool.and_eq_true, Bool.or_eq_true, Bool.or_eq_false_iff, Bool.not_eq_true, Bool.not_eq_eq_eq_not, Bool.not_true, Bool.not_false] at c33)
              refine CW_seq (fun K12 hK12 => ?_)
              refine CW_region ?_
              refine OW_mv rfl ?_
              refine OW_opS (fun K hK r => ?_)
              simp only [x_callF _ bd47, List.map_toArray, List.map_cons, List.map_nil, eX, ↓reduceIte, Nat.reduceEqDiff, Int.reduceToNat]
              refine (fault_ok _ k).mono ?_
              rintro v H35 ⟨bf, rfl, hbf, rfl⟩
              try simp only [eX, ↓reduceIte, Nat.reduceEqDiff, Int.reduceToNat]
              refine hK _ _ ?_; clear hK K
              refine OW_as rfl ?_
              refine OW_nil ?_
              try simp only [Ex.thnH, Ex.inBlockH, ↓reduceIte, Nat.reduceEqDiff]
              refine hK12 _ _ ?_; try clear hK12 K12
              refine CW_ret ?_
              try simp only [Ex.thnH, Ex.inBlockH, ↓reduceIte, Nat.reduceEqDiff]
              have hc : checkP fuel cs = k := by
                unfold checkP; rw [if_pos hr, hbad, badAt_step (by omega), if_neg (by first | assumption | simp_all)]
              refine ⟨[_], ⟨rfl, trivial⟩, _, Le.refl _, some bf, rfl, (by exact le_upd_of lhA (none_of_le lhA hbf)), ⟨(fun h => by cases h), (fun h => by rw [hc] at h; omega)⟩, fun b hb => ?_⟩
              cases hb
              exact ⟨none_of_le lhA hbf, by rw [hc]; exact upd_same _ _ _⟩
          · first
            | (exfalso; exact cnA c33; done)
            | skip
              (try simp only [decide_eq_true_eq, decide_eq_false_iff_not, Bool.not_eq_true, Bool.not_eq_false, Bool.and_eq_true, Bool.or_eq_true, Bool.or_eq_false_iff, Bool.not_eq_true, Bool.not_eq_eq_eq_not, Bool.not_true, Bool.not_false] at c33)
              refine CW_skip ?_
              try simp only [Ex.thnH, Ex.inBlockH, ↓reduceIte, Nat.reduceEqDiff]
              refine hK9 _ _ ?_; try clear hK9 K9
              refine CW_region ?_
              refine OW_opS (fun K hK r => ?_)
              simp (disch := (first | omega | decide)) only [x_bin, g_int, b_add, wrap_i64, wrap_u64, wrap_u32, wrap_u8, eX, ↓reduceIte, Nat.reduceEqDiff, Int.reduceToNat]
              refine hK _ _ ?_; clear hK K
              refine OW_mv rfl ?_
              refine OW_nil ?_
              try simp only [Ex.thnH, Ex.inBlockH, ↓reduceIte, Nat.reduceEqDiff]
              exact ⟨cs.length - (k + 1), by omega, k + 1, by omega, rfl, by rw [hbad, badAt_step (by omega), if_pos (by first | assumption | simp_all)], ⟨rfl, rfl, rfl, rfl, trivial⟩, lhA, hbA⟩
      · first
        | (exfalso; exact cnA c21; done)
        | skip
          (try simp only [decide_eq_true_eq, decide_eq_false_iff_not, Bool.not_eq_true, Bool.not_eq_false, Bool.and_eq_true, Bool.or_eq_true, Bool.or_eq_false_iff, Bool.not_eq_true, Bool.not_eq_eq_eq_not, Bool.not_true, Bool.not_false] at c21)
          refine CW_exit ?_
          try simp only [Ex.thnH, Ex.inBlockH, ↓reduceIte, Nat.reduceEqDiff]
          refine hK5 _ _ ?_; try clear hK5 K5
          refine CW_seq (fun K13 hK13 => ?_)
          refine CW_region ?_
          refine OW_as rfl ?_
          refine OW_nil ?_
          try simp only [Ex.thnH, Ex.inBlockH, ↓reduceIte, Nat.reduceEqDiff]
          refine hK13 _ _ ?_; try clear hK13 K13
          refine CW_ret ?_
          try simp only [Ex.thnH, Ex.inBlockH, ↓reduceIte, Nat.reduceEqDiff]
          have ek : k = cs.length := by omega
          subst ek
          refine ⟨[_], ⟨rfl, trivial⟩, _, Le.refl _, none, rfl, lhA, ⟨fun _ => ?_, fun _ => rfl⟩, fun b hb => by cases hb⟩
          unfold checkP; rw [if_pos hr, hbad, Nat.sub_self]; rfl

end Go.Proofs.Ytlkopcgoaldpeaa.HL
