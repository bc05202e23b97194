/- A part of the proof. -/
import Derived.Test.YtlkopcgoaldpeaaP12
import Derived.Test.YtlkopcgoaldpeaaQ46
namespace Go.Proofs.Ytlkopcgoaldpeaa.HL
open Go Go.Proofs
set_option linter.unusedSimpArgs false
set_option linter.unusedVariables false
attribute [local irreducible] Lt Lq CW OW TW CallH

set_option maxRecDepth 100000 in
set_option maxHeartbeats 4000000 in
theorem num_Num_flt (H : Hp) (b : Nat) (n : Int) (hb : H b = some (fltO n)) : CallH Try.prog 32 #[fltV (some b)] H (fun v H' => v = .int .i64 5 ∧ H' = H) := by
  refine CallH_enter (l := [_]) (rl := [.tmp 2]) (n := 45) Try.func32 rfl rfl rfl rfl rfl ?_
  simp only [envOf, Nat.reduceAdd]
  show CW _ _ _ _ _ [(0, .iface 68 (.pointer (some ⟨b, 0, none⟩)))] H
  refine CW_seq (fun K1 hK1 => ?_)
  refine CW_region ?_
  refine OW_as rfl ?_
  refine OW_nil ?_
  try simp only [Ex.thnH, Ex.inBlockH, ↓reduceIte, Nat.reduceEqDiff]
  refine hK1 _ _ ?_; try clear hK1 K1
  refine CW_seq (fun K2 hK2 => ?_)
  refine CW_seq (fun K3 hK3 => ?_)
  refine CW_region ?_
  refine OW_mv rfl ?_
  refine OW_nil ?_
  try simp only [Ex.thnH, Ex.inBlockH, ↓reduceIte, Nat.reduceEqDiff]
  refine hK3 _ _ ?_; try clear hK3 K3
  refine CW_block ?_
  refine CW_loop (fun m e H_ => ((m = 1 ∧ Env.has [(0, .iface 68 (.pointer (some ⟨b, 0, none⟩))), (7, .int .i64 0)] e) ∨ (m = 0 ∧ Env.has [(0, .iface 40 (.int .i64 5)), (7, .int .i64 1)] e)) ∧ H_ = H) (1) ?_ ?_
  · skip
    exact ⟨.inl ⟨rfl, rfl, rfl, trivial⟩, rfl⟩
  intro m_ e_ H_ hI_
  obtain ⟨⟨rfl, he⟩ | ⟨rfl, he⟩, hH_⟩ := hI_
  all_goals (have hH_ := hH_.symm; subst hH_)
  all_goals (refine CW_env he.sub ?_; clear he e_)
  all_goals
    refine CW_seq (fun K4 hK4 => ?_)
    refine CW_region ?_
    refine OW_opS (fun K hK r => ?_)
    simp (disch := (first | omega | decide)) only [x_bin, g_int, b_lss, dec_lt_t, dec_lt_f, dec_le_t, dec_le_f, dec_eq_t, dec_eq_f, Bool.not_true, Bool.not_false, eX, ↓reduceIte, Nat.reduceEqDiff, Int.reduceToNat]
    refine hK _ _ ?_; clear hK K
    refine OW_nil ?_
    try simp only [Ex.thnH, Ex.inBlockH, ↓reduceIte, Nat.reduceEqDiff]
    refine hK4 _ _ ?_; try clear hK4 K4
    refine CW_seq (fun K5 hK5 => ?_)
    refine CW_cond (fun r => rfl) (fun c8 => ?_) (fun c8 => ?_)
    · first
      | (exfalso; exact cnA c8; done)
      | skip
        (try simp only [decide_eq_true_eq, decide_eq_false_iff_not, Bool.not_eq_true, Bool.not_eq_false, Bool.and_eq_true, Bool.or_eq_true, Bool.or_eq_false_iff, Bool.not_eq_true, Bool.not_eq_eq_eq_not, Bool.not_true, Bool.not_false] at c8)
        refine CW_skip ?_
        try simp only [Ex.thnH, Ex.inBlockH, ↓reduceIte, Nat.reduceEqDiff]
        refine hK5 _ _ ?_; try clear hK5 K5
        refine CW_seq (fun K6 hK6 => ?_)
        refine CW_block ?_
        refine CW_seq (fun K7 hK7 => ?_)
        refine CW_seq (fun K8 hK8 => ?_)
        refine CW_region ?_
        refine OW_mv rfl ?_
        refine OW_opS (fun K hK r => ?_)
        simp only [x_bin, g_int, g_bool, g_string, g_pointer, g_slice, g_map, g_func, g_nilFunc, g_err, g_ifv, g_iface, g_nil_iface, g_nil_r, g_nil_l, eX, ↓reduceIte, Nat.reduceEqDiff, Int.reduceToNat]
        first | rw [b_err_eql _ _ Try.underlying35] | rw [b_ifv_eql _ _ Try.underlying35] | (rw [e_eql _ _ _ _ (by simp), q_equal]; first | rw [q_iface_nil _ _ _ Try.underlying35] | rw [q_nil_iface _ _ _ Try.underlying35] | rw [q_nil_nil _ _ _ Try.underlying35])
        try simp only [eX, ↓reduceIte, Nat.reduceEqDiff, Int.reduceToNat]
        refine hK _ _ ?_; clear hK K
        refine OW_nil ?_
        try simp only [Ex.thnH, Ex.inBlockH, ↓reduceIte, Nat.reduceEqDiff]
        refine hK8 _ _ ?_; try clear hK8 K8
        refine CW_cond (fun r => rfl) (fun c10 => ?_) (fun c10 => ?_)
        · first
          | (exfalso; exact cnA c10; done)
          | skip
            (try simp only [decide_eq_true_eq, decide_eq_false_iff_not, Bool.not_eq_true, Bool.not_eq_false, Bool.and_eq_true, Bool.or_eq_true, Bool.or_eq_false_iff, Bool.not_eq_true, Bool.not_eq_eq_eq_not, Bool.not_true, Bool.not_false] at c10)
            refine CW_seq (fun K9 hK9 => ?_)
            refine CW_region ?_
            refine OW_as rfl ?_
            refine OW_nil ?_
            try simp only [Ex.thnH, Ex.inBlockH, ↓reduceIte, Nat.reduceEqDiff]
            refine hK9 _ _ ?_; try clear hK9 K9
            refine CW_ret ?_
            try simp only [Ex.thnH, Ex.inBlockH, ↓reduceIte, Nat.reduceEqDiff]
            first | exact ⟨[_], ⟨rfl, trivial⟩, _, Le.refl _, rfl, rfl⟩ | (exfalso; simp_all; done)
        · first
          | (exfalso; exact cnA c10; done)
          | skip
            (try simp only [decide_eq_true_eq, decide_eq_false_iff_not, Bool.not_eq_true, Bool.not_eq_false, Bool.and_eq_true, Bool.or_eq_true, Bool.or_eq_false_iff, Bool.not_eq_true, Bool.not_eq_eq_eq_not, Bool.not_true, Bool.not_false] at c10)
            refine CW_skip ?_
            try simp only [Ex.thnH, Ex.inBlockH, ↓reduceIte, Nat.reduceEqDiff]
            refine hK7 _ _ ?_; try clear hK7 K7
            refine CW_seq (fun K10 hK10 => ?_)
            refine CW_seq (fun K11 hK11 => ?_)
            refine CW_region ?_
            refine OW_mv rfl ?_
            refine OW_opS (fun K hK r => ?_)
            simp only [x_typeAssert, eX, ↓reduceIte, Nat.reduceEqDiff, Int.reduceToNat]
            first | rw [t_same _ _ _ Try.underlying40 (by simp)] | rw [t_other _ _ _ _ Try.underlying40 (by simp) (by decide) _ _ zr40] | rw [t_nil _ _ _ Try.underlying40 (by simp) _ zr40]
            try simp only [if_true, Bool.false_eq_true, if_false]
            try simp only [eX, ↓reduceIte, Nat.reduceEqDiff, Int.reduceToNat]
            refine hK _ _ ?_; clear hK K
            refine OW_mv rfl ?_
            refine OW_opS (fun K hK r => ?_)
            simp only [x_extract, i_extract, List.getElem?_toArray, List.getElem?_cons_zero, List.getElem?_cons_succ, orF_some, eX, ↓reduceIte, Nat.reduceEqDiff, Int.reduceToNat]
            refine hK _ _ ?_; clear hK K
            refine OW_opS (fun K hK r => ?_)
            simp only [x_extract, i_extract, List.getElem?_toArray, List.getElem?_cons_zero, List.getElem?_cons_succ, orF_some, eX, ↓reduceIte, Nat.reduceEqDiff, Int.reduceToNat]
            refine hK _ _ ?_; clear hK K
            refine OW_as rfl ?_
            refine OW_as rfl ?_
            refine OW_nil ?_
            try simp only [Ex.thnH, Ex.inBlockH, ↓reduceIte, Nat.reduceEqDiff]
            refine hK11 _ _ ?_; try clear hK11 K11
            refine CW_seq (fun K12 hK12 => ?_)
            refine CW_region ?_
            refine OW_mv rfl ?_
            refine OW_mv rfl ?_
            (first | refine OW_split (d := 17) rfl (fun g17 => ?_) (fun g17 => ?_) | skip)
            all_goals try (exfalso; exact cnA g17)
            all_goals (try simp only [decide_eq_true_eq, decide_eq_false_iff_not, Bool.not_eq_true, Bool.not_eq_false, Bool.and_eq_true, Bool.or_eq_true, Bool.or_eq_false_iff, Bool.not_eq_true, Bool.not_eq_eq_eq_not, Bool.not_true, Bool.not_false] at g17)
            all_goals
              try simp only [eX, ↓reduceIte, Nat.reduceEqDiff, Int.reduceToNat]
              first
              | refine OW_guardT rfl (lt_some (by decide)) rfl (fun K hK r => ?_)
                simp only [x_move, eX, ↓reduceIte, Nat.reduceEqDiff, Int.reduceToNat]
                refine hK _ _ ?_; clear hK K
              | refine OW_guardF rfl (lt_some (by decide)) rfl ?_
                simp only [eX, ↓reduceIte, Nat.reduceEqDiff, Int.reduceToNat]
              first
              | refine OW_guardT rfl (lt_some (by decide)) rfl (fun K hK r => ?_)
                simp (disch := (first | omega | decide)) only [x_bin, g_int, b_neq, dec_lt_t, dec_lt_f, dec_le_t, dec_le_f, dec_eq_t, dec_eq_f, Bool.not_true, Bool.not_false, eX, ↓reduceIte, Nat.reduceEqDiff, Int.reduceToNat]
                refine hK _ _ ?_; clear hK K
              | refine OW_guardF rfl (lt_some (by decide)) rfl ?_
                simp only [eX, ↓reduceIte, Nat.reduceEqDiff, Int.reduceToNat]
              refine OW_opS (fun K hK r => ?_)
              simp only [x_pick, l_asBool, HL.ite_bool, if_true, if_false, Bool.false_eq_true, eX, ↓reduceIte, Nat.reduceEqDiff, Int.reduceToNat]
              refine hK _ _ ?_; clear hK K
              refine OW_nil ?_
              try simp only [Ex.thnH, Ex.inBlockH, ↓reduceIte, Nat.reduceEqDiff]
              refine hK12 _ _ ?_; try clear hK12 K12
              refine CW_cond (fun r => rfl) (fun c20 => ?_) (fun c20 => ?_)
              · first
                | (exfalso; exact cnA c20; done)
                | skip
                  (try simp only [decide_eq_true_eq, decide_eq_false_iff_not, Bool.not_eq_true, Bool.not_eq_false, Bool.and_eq_true, Bool.or_eq_true, Bool.or_eq_false_iff, Bool.not_eq_true, Bool.not_eq_eq_eq_not, Bool.not_true, Bool.not_false] at c20)
                  refine CW_seq (fun K13 hK13 => ?_)
                  refine CW_region ?_
                  refine OW_mv rfl ?_
                  refine OW_as rfl ?_
                  refine OW_nil ?_
                  try simp only [Ex.thnH, Ex.inBlockH, ↓reduceIte, Nat.reduceEqDiff]
                  refine hK13 _ _ ?_; try clear hK13 K13
                  refine CW_ret ?_
                  try simp only [Ex.thnH, Ex.inBlockH, ↓reduceIte, Nat.reduceEqDiff]
                  first | exact ⟨[_], ⟨rfl, trivial⟩, _, Le.refl _, rfl, rfl⟩ | (exfalso; simp_all; done)
              · first
                | (exfalso; exact cnA c20; done)
                | skip
                  (try simp only [decide_eq_true_eq, decide_eq_false_iff_not, Bool.not_eq_true, Bool.not_eq_false, Bool.and_eq_true, Bool.or_eq_true, Bool.or_eq_false_iff, Bool.not_eq_true, Bool.not_eq_eq_eq_not, Bool.not_true, Bool.not_false] at c20)
                  refine CW_skip ?_
                  try simp only [Ex.thnH, Ex.inBlockH, ↓reduceIte, Nat.reduceEqDiff]
                  refine hK10 _ _ ?_; try clear hK10 K10
                  refine CW_seq (fun K14 hK14 => ?_)
                  refine CW_region ?_
                  refine OW_mv rfl ?_
                  refine OW_opS (fun K hK r => ?_)
                  simp only [x_typeAssert, eX, ↓reduceIte, Nat.reduceEqDiff, Int.reduceToNat]
                  first | rw [t_same _ _ _ Try.underlying68 (by simp)] | rw [t_other _ _ _ _ Try.underlying68 (by simp) (by decide) _ _ zr68] | rw [t_nil _ _ _ Try.underlying68 (by simp) _ zr68]
                  try simp only [if_true, Bool.false_eq_true, if_false]
                  try simp only [eX, ↓reduceIte, Nat.reduceEqDiff, Int.reduceToNat]
                  refine hK _ _ ?_; clear hK K
                  refine OW_mv rfl ?_
                  refine OW_opS (fun K hK r => ?_)
                  simp only [x_extract, i_extract, List.getElem?_toArray, List.getElem?_cons_zero, List.getElem?_cons_succ, orF_some, eX, ↓reduceIte, Nat.reduceEqDiff, Int.reduceToNat]
                  refine hK _ _ ?_; clear hK K
                  refine OW_opS (fun K hK r => ?_)
                  simp only [x_extract, i_extract, List.getElem?_toArray, List.getElem?_cons_zero, List.getElem?_cons_succ, orF_some, eX, ↓reduceIte, Nat.reduceEqDiff, Int.reduceToNat]
                  refine hK _ _ ?_; clear hK K
                  refine OW_as rfl ?_
                  refine OW_as rfl ?_
                  refine OW_nil ?_
                  try simp only [Ex.thnH, Ex.inBlockH, ↓reduceIte, Nat.reduceEqDiff]
                  refine hK14 _ _ ?_; try clear hK14 K14
                  refine CW_seq (fun K15 hK15 => ?_)
                  refine CW_seq (fun K16 hK16 => ?_)
                  refine CW_region ?_
                  refine OW_mv rfl ?_
                  refine OW_opS (fun K hK r => ?_)
                  simp only [x_un, u_not, eX, ↓reduceIte, Nat.reduceEqDiff, Int.reduceToNat]
                  refine hK _ _ ?_; clear hK K
                  refine OW_mv rfl ?_
                  (first | refine OW_split (d := 29) rfl (fun g29 => ?_) (fun g29 => ?_) | skip)
                  all_goals try (exfalso; exact cnA g29)
                  all_goals (try simp only [decide_eq_true_eq, decide_eq_false_iff_not, Bool.not_eq_true, Bool.not_eq_false, Bool.and_eq_true, Bool.or_eq_true, Bool.or_eq_false_iff, Bool.not_eq_true, Bool.not_eq_eq_eq_not, Bool.not_true, Bool.not_false] at g29)
                  all_goals
                    try simp only [eX, ↓reduceIte, Nat.reduceEqDiff, Int.reduceToNat]
                    first
                    | refine OW_guardT rfl (lt_some (by decide)) rfl (fun K hK r => ?_)
                      simp only [x_move, eX, ↓reduceIte, Nat.reduceEqDiff, Int.reduceToNat]
                      refine hK _ _ ?_; clear hK K
                    | refine OW_guardF rfl (lt_some (by decide)) rfl ?_
                      simp only [eX, ↓reduceIte, Nat.reduceEqDiff, Int.reduceToNat]
                    first
                    | refine OW_guardT rfl (lt_some (by decide)) rfl (fun K hK r => ?_)
                      simp only [x_bin, g_int, g_bool, g_string, g_pointer, g_slice, g_map, g_func, g_nilFunc, g_iface, g_nil_iface, g_nil_r, g_nil_l, eX, ↓reduceIte, Nat.reduceEqDiff, Int.reduceToNat]
                      rw [e_eql _ _ _ _ (by simp)]
                      rw [q_equal]
                      first | rw [q_ptr_nil _ _ _ Try.underlying68] | rw [q_nil_ptr _ _ _ Try.underlying68]
                      try simp only [eX, ↓reduceIte, Nat.reduceEqDiff, Int.reduceToNat]
                      refine hK _ _ ?_; clear hK K
                    | refine OW_guardF rfl (lt_some (by decide)) rfl ?_
                      simp only [eX, ↓reduceIte, Nat.reduceEqDiff, Int.reduceToNat]
                    refine OW_opS (fun K hK r => ?_)
                    simp only [x_pick, l_asBool, HL.ite_bool, if_true, if_false, Bool.false_eq_true, eX, ↓reduceIte, Nat.reduceEqDiff, Int.reduceToNat]
                    refine hK _ _ ?_; clear hK K
                    refine OW_mv rfl ?_
                    (first | refine OW_split (d := 33) rfl (fun g33 => ?_) (fun g33 => ?_) | skip)
                    all_goals try (exfalso; exact cnA g33)
                    all_goals (try simp only [decide_eq_true_eq, decide_eq_false_iff_not, Bool.not_eq_true, Bool.not_eq_false, Bool.and_eq_true, Bool.or_eq_true, Bool.or_eq_false_iff, Bool.not_eq_true, Bool.not_eq_eq_eq_not, Bool.not_true, Bool.not_false] at g33)
                    all_goals
                      try simp only [eX, ↓reduceIte, Nat.reduceEqDiff, Int.reduceToNat]
                      first
                      | refine OW_guardT rfl (lt_some (by decide)) rfl (fun K hK r => ?_)
                        simp only [x_move, eX, ↓reduceIte, Nat.reduceEqDiff, Int.reduceToNat]
                        refine hK _ _ ?_; clear hK K
                      | refine OW_guardF rfl (lt_some (by decide)) rfl ?_
                        simp only [eX, ↓reduceIte, Nat.reduceEqDiff, Int.reduceToNat]
                      first
                      | refine OW_guardT rfl (lt_some (by decide)) rfl (fun K hK r => ?_)
                        rw [x_nilCheck _ _ rfl]
                        simp only [eX, ↓reduceIte, Nat.reduceEqDiff, Int.reduceToNat]
                        refine hK _ _ ?_; clear hK K
                      | refine OW_guardF rfl (lt_some (by decide)) rfl ?_
                        simp only [eX, ↓reduceIte, Nat.reduceEqDiff, Int.reduceToNat]
                      first
                      | refine OW_guardT rfl (lt_some (by decide)) rfl (fun K hK r => ?_)
                        simp only [x_fieldAddr, fa71_1, add_mk, Nat.reduceAdd, Nat.zero_add, eX, ↓reduceIte, Nat.reduceEqDiff, Int.reduceToNat]
                        refine hK _ _ ?_; clear hK K
                      | refine OW_guardF rfl (lt_some (by decide)) rfl ?_
                        simp only [eX, ↓reduceIte, Nat.reduceEqDiff, Int.reduceToNat]
                      first
                      | refine OW_guardT rfl (lt_some (by decide)) rfl (fun K hK r => ?_)
                        simp only [x_load, eX, ↓reduceIte, Nat.reduceEqDiff, Int.reduceToNat]
                        refine Lt_loadAt1 Try.underlying35 rfl hbA ldA ?_
                        try simp only [eX, ↓reduceIte, Nat.reduceEqDiff, Int.reduceToNat]
                        refine hK _ _ ?_; clear hK K
                      | refine OW_guardF rfl (lt_some (by decide)) rfl ?_
                        simp only [eX, ↓reduceIte, Nat.reduceEqDiff, Int.reduceToNat]
                      first
                      | refine OW_guardT rfl (lt_some (by decide)) rfl (fun K hK r => ?_)
                        simp only [x_bin, g_int, g_bool, g_string, g_pointer, g_slice, g_map, g_func, g_nilFunc, g_err, g_ifv, g_iface, g_nil_iface, g_nil_r, g_nil_l, eX, ↓reduceIte, Nat.reduceEqDiff, Int.reduceToNat]
                        first | rw [b_err_eql _ _ Try.underlying35] | rw [b_ifv_eql _ _ Try.underlying35] | (rw [e_eql _ _ _ _ (by simp), q_equal]; first | rw [q_iface_nil _ _ _ Try.underlying35] | rw [q_nil_iface _ _ _ Try.underlying35] | rw [q_nil_nil _ _ _ Try.underlying35])
                        try simp only [eX, ↓reduceIte, Nat.reduceEqDiff, Int.reduceToNat]
                        refine hK _ _ ?_; clear hK K
                      | refine OW_guardF rfl (lt_some (by decide)) rfl ?_
                        simp only [eX, ↓reduceIte, Nat.reduceEqDiff, Int.reduceToNat]
                      refine OW_opS (fun K hK r => ?_)
                      simp only [x_pick, l_asBool, HL.ite_bool, if_true, if_false, Bool.false_eq_true, eX, ↓reduceIte, Nat.reduceEqDiff, Int.reduceToNat]
                      refine hK _ _ ?_; clear hK K
                      refine OW_nil ?_
                      try simp only [Ex.thnH, Ex.inBlockH, ↓reduceIte, Nat.reduceEqDiff]
                      refine hK16 _ _ ?_; try clear hK16 K16
                      refine CW_cond (fun r => rfl) (fun c39 => ?_) (fun c39 => ?_)
                      · first
                        | (exfalso; exact cnA c39; done)
                        | skip
                          (try simp only [decide_eq_true_eq, decide_eq_false_iff_not, Bool.not_eq_true, Bool.not_eq_false, Bool.and_eq_true, Bool.or_eq_true, Bool.or_eq_false_iff, Bool.not_eq_true, Bool.not_eq_eq_eq_not, Bool.not_true, Bool.not_false] at c39)
                          refine CW_seq (fun K17 hK17 => ?_)
                          refine CW_region ?_
                          refine OW_as rfl ?_
                          refine OW_nil ?_
                          try simp only [Ex.thnH, Ex.inBlockH, ↓reduceIte, Nat.reduceEqDiff]
                          refine hK17 _ _ ?_; try clear hK17 K17
                          refine CW_ret ?_
                          try simp only [Ex.thnH, Ex.inBlockH, ↓reduceIte, Nat.reduceEqDiff]
                          first | exact ⟨[_], ⟨rfl, trivial⟩, _, Le.refl _, rfl, rfl⟩ | (exfalso; simp_all; done)
                      · first
                        | (exfalso; exact cnA c39; done)
                        | skip
                          (try simp only [decide_eq_true_eq, decide_eq_false_iff_not, Bool.not_eq_true, Bool.not_eq_false, Bool.and_eq_true, Bool.or_eq_true, Bool.or_eq_false_iff, Bool.not_eq_true, Bool.not_eq_eq_eq_not, Bool.not_true, Bool.not_false] at c39)
                          refine CW_skip ?_
                          try simp only [Ex.thnH, Ex.inBlockH, ↓reduceIte, Nat.reduceEqDiff]
                          refine hK15 _ _ ?_; try clear hK15 K15
                          refine CW_region ?_
                          refine OW_mv rfl ?_
                          refine OW_opS (fun K hK r => ?_)
                          rw [x_nilCheck _ _ rfl]
                          simp only [eX, ↓reduceIte, Nat.reduceEqDiff, Int.reduceToNat]
                          refine hK _ _ ?_; clear hK K
                          refine OW_opS (fun K hK r => ?_)
                          simp only [x_fieldAddr, fa71_1, add_mk, Nat.reduceAdd, Nat.zero_add, eX, ↓reduceIte, Nat.reduceEqDiff, Int.reduceToNat]
                          refine hK _ _ ?_; clear hK K
                          refine OW_opS (fun K hK r => ?_)
                          simp only [x_load, eX, ↓reduceIte, Nat.reduceEqDiff, Int.reduceToNat]
                          refine Lt_loadAt1 Try.underlying35 rfl hbA ldA ?_
                          try simp only [eX, ↓reduceIte, Nat.reduceEqDiff, Int.reduceToNat]
                          refine hK _ _ ?_; clear hK K
                          refine OW_as rfl ?_
                          refine OW_nil ?_
                          try simp only [Ex.thnH, Ex.inBlockH, ↓reduceIte, Nat.reduceEqDiff]
                          refine hK6 _ _ ?_; try clear hK6 K6
                          refine CW_region ?_
                          refine OW_opS (fun K hK r => ?_)
                          simp (disch := (first | omega | decide)) only [x_bin, g_int, b_add, wrap_i64, wrap_u64, wrap_u32, wrap_u8, eX, ↓reduceIte, Nat.reduceEqDiff, Int.reduceToNat]
                          refine hK _ _ ?_; clear hK K
                          refine OW_mv rfl ?_
                          refine OW_nil ?_
                          try simp only [Ex.thnH, Ex.inBlockH, ↓reduceIte, Nat.reduceEqDiff]
                          first | exact ⟨0, by omega, .inr ⟨rfl, rfl, rfl, trivial⟩, rfA⟩ | (exfalso; simp_all; done)
    · first
      | (exfalso; exact cnA c8; done)
      | skip
        (try simp only [decide_eq_true_eq, decide_eq_false_iff_not, Bool.not_eq_true, Bool.not_eq_false, Bool.and_eq_true, Bool.or_eq_true, Bool.or_eq_false_iff, Bool.not_eq_true, Bool.not_eq_eq_eq_not, Bool.not_true, Bool.not_false] at c8)
        refine CW_exit ?_
        try simp only [Ex.thnH, Ex.inBlockH, ↓reduceIte, Nat.reduceEqDiff]
        refine hK2 _ _ ?_; try clear hK2 K2
        refine CW_seq (fun K18 hK18 => ?_)
        refine CW_region ?_
        refine OW_as rfl ?_
        refine OW_nil ?_
        try simp only [Ex.thnH, Ex.inBlockH, ↓reduceIte, Nat.reduceEqDiff]
        refine hK18 _ _ ?_; try clear hK18 K18
        refine CW_ret ?_
        try simp only [Ex.thnH, Ex.inBlockH, ↓reduceIte, Nat.reduceEqDiff]
        first | exact ⟨[_], ⟨rfl, trivial⟩, _, Le.refl _, rfl, rfl⟩ | (exfalso; simp_all; done)

set_option maxRecDepth 100000 in
set_option maxHeartbeats 1000000 in
theorem num_Is_flt (H : Hp) (b : Nat) (n : Int) (hb : H b = some (fltO n)) (k : Int) : CallH Try.prog 16 #[fltV (some b), .int .i64 k] H (fun v H' => v = .bool (decide ((5 : Int) = k)) ∧ H' = H) := by
  refine CallH_enter (l := [_, _]) (rl := [.tmp 4]) (n := 9) Try.func16 rfl rfl rfl rfl rfl ?_
  simp only [envOf, Nat.reduceAdd]
  refine CW_seq (fun K1 hK1 => ?_)
  refine CW_region ?_
  refine OW_as rfl ?_
  refine OW_nil ?_
  try simp only [Ex.thnH, Ex.inBlockH, ↓reduceIte, Nat.reduceEqDiff]
  refine hK1 _ _ ?_; try clear hK1 K1
  refine CW_seq (fun K2 hK2 => ?_)
  refine CW_region ?_
  refine OW_mv rfl ?_
  refine OW_opS (fun K hK r => ?_)
  simp only [x_callF _ bd32, List.map_toArray, List.map_cons, List.map_nil, eX, ↓reduceIte, Nat.reduceEqDiff, Int.reduceToNat]
  refine (num_Num_flt _ b n hb).mono ?_
  rintro v H' ⟨rfl, rfl⟩
  try simp only [eX, ↓reduceIte, Nat.reduceEqDiff, Int.reduceToNat]
  refine hK _ _ ?_; clear hK K
  refine OW_mv rfl ?_
  refine OW_opS (fun K hK r => ?_)
  simp (disch := (first | omega | decide)) only [x_bin, g_int, b_eql, dec_lt_t, dec_lt_f, dec_le_t, dec_le_f, dec_eq_t, dec_eq_f, Bool.not_true, Bool.not_false, eX, ↓reduceIte, Nat.reduceEqDiff, Int.reduceToNat]
  refine hK _ _ ?_; clear hK K
  refine OW_as rfl ?_
  refine OW_nil ?_
  try simp only [Ex.thnH, Ex.inBlockH, ↓reduceIte, Nat.reduceEqDiff]
  refine hK2 _ _ ?_; try clear hK2 K2
  refine CW_ret ?_
  try simp only [Ex.thnH, Ex.inBlockH, ↓reduceIte, Nat.reduceEqDiff]
  exact ⟨[_], ⟨rfl, trivial⟩, _, Le.refl _, rfl, rfl⟩

set_option maxRecDepth 100000 in
set_option maxHeartbeats 1000000 in
theorem num_At_flt (H : Hp) (b : Nat) (n : Int) (hb : H b = some (fltO n)) : CallH Try.prog 17 #[fltV (some b)] H (fun v H' => v = .int .i64 n ∧ H' = H) := by
  refine CallH_enter (l := [_]) (rl := [.tmp 2]) (n := 19) Try.func17 rfl rfl rfl rfl rfl ?_
  simp only [envOf, Nat.reduceAdd]
  show CW _ _ _ _ _ [(0, .iface 68 (.pointer (some ⟨b, 0, none⟩)))] H
  refine CW_seq (fun K1 hK1 => ?_)
  refine CW_region ?_
  refine OW_as rfl ?_
  refine OW_nil ?_
  try simp only [Ex.thnH, Ex.inBlockH, ↓reduceIte, Nat.reduceEqDiff]
  refine hK1 _ _ ?_; try clear hK1 K1
  refine CW_seq (fun K2 hK2 => ?_)
  refine CW_seq (fun K3 hK3 => ?_)
  refine CW_region ?_
  refine OW_mv rfl ?_
  refine OW_opS (fun K hK r => ?_)
  simp only [x_typeAssert, eX, ↓reduceIte, Nat.reduceEqDiff, Int.reduceToNat]
  first | rw [t_same _ _ _ Try.underlying68 (by simp)] | rw [t_other _ _ _ _ Try.underlying68 (by simp) (by decide) _ _ zr68] | rw [t_nil _ _ _ Try.underlying68 (by simp) _ zr68]
  try simp only [if_true, Bool.false_eq_true, if_false]
  try simp only [eX, ↓reduceIte, Nat.reduceEqDiff, Int.reduceToNat]
  refine hK _ _ ?_; clear hK K
  refine OW_mv rfl ?_
  refine OW_opS (fun K hK r => ?_)
  simp only [x_extract, i_extract, List.getElem?_toArray, List.getElem?_cons_zero, List.getElem?_cons_succ, orF_some, eX, ↓reduceIte, Nat.reduceEqDiff, Int.reduceToNat]
  refine hK _ _ ?_; clear hK K
  refine OW_opS (fun K hK r => ?_)
  simp only [x_extract, i_extract, List.getElem?_toArray, List.getElem?_cons_zero, List.getElem?_cons_succ, orF_some, eX, ↓reduceIte, Nat.reduceEqDiff, Int.reduceToNat]
  refine hK _ _ ?_; clear hK K
  refine OW_as rfl ?_
  refine OW_as rfl ?_
  refine OW_nil ?_
  try simp only [Ex.thnH, Ex.inBlockH, ↓reduceIte, Nat.reduceEqDiff]
  refine hK3 _ _ ?_; try clear hK3 K3
  refine CW_seq (fun K4 hK4 => ?_)
  refine CW_region ?_
  refine OW_mv rfl ?_
  refine OW_mv rfl ?_
  (first | refine OW_split (d := 11) rfl (fun g11 => ?_) (fun g11 => ?_) | skip)
  all_goals try (exfalso; exact cnA g11)
  all_goals (try simp only [decide_eq_true_eq, decide_eq_false_iff_not, Bool.not_eq_true, Bool.not_eq_false, Bool.and_eq_true, Bool.or_eq_true, Bool.or_eq_false_iff, Bool.not_eq_true, Bool.not_eq_eq_eq_not, Bool.not_true, Bool.not_false] at g11)
  all_goals
    try simp only [eX, ↓reduceIte, Nat.reduceEqDiff, Int.reduceToNat]
    first
    | refine OW_guardT rfl (lt_some (by decide)) rfl (fun K hK r => ?_)
      simp only [x_move, eX, ↓reduceIte, Nat.reduceEqDiff, Int.reduceToNat]
      refine hK _ _ ?_; clear hK K
    | refine OW_guardF rfl (lt_some (by decide)) rfl ?_
      simp only [eX, ↓reduceIte, Nat.reduceEqDiff, Int.reduceToNat]
    first
    | refine OW_guardT rfl (lt_some (by decide)) rfl (fun K hK r => ?_)
      simp only [x_bin, g_int, g_bool, g_string, g_pointer, g_slice, g_map, g_func, g_nilFunc, g_iface, g_nil_iface, g_nil_r, g_nil_l, eX, ↓reduceIte, Nat.reduceEqDiff, Int.reduceToNat]
      rw [e_neq _ _ _ _ (by simp)]
      rw [q_equal]
      first | rw [q_ptr_nil _ _ _ Try.underlying68] | rw [q_nil_ptr _ _ _ Try.underlying68]
      try simp only [eX, ↓reduceIte, Nat.reduceEqDiff, Int.reduceToNat]
      refine hK _ _ ?_; clear hK K
    | refine OW_guardF rfl (lt_some (by decide)) rfl ?_
      simp only [eX, ↓reduceIte, Nat.reduceEqDiff, Int.reduceToNat]
    refine OW_opS (fun K hK r => ?_)
    simp only [x_pick, l_asBool, HL.ite_bool, if_true, if_false, Bool.false_eq_true, eX, ↓reduceIte, Nat.reduceEqDiff, Int.reduceToNat]
    refine hK _ _ ?_; clear hK K
    refine OW_nil ?_
    try simp only [Ex.thnH, Ex.inBlockH, ↓reduceIte, Nat.reduceEqDiff]
    refine hK4 _ _ ?_; try clear hK4 K4
    refine CW_cond (fun r => rfl) (fun c14 => ?_) (fun c14 => ?_)
    · first
      | (exfalso; exact cnA c14; done)
      | skip
        (try simp only [decide_eq_true_eq, decide_eq_false_iff_not, Bool.not_eq_true, Bool.not_eq_false, Bool.and_eq_true, Bool.or_eq_true, Bool.or_eq_false_iff, Bool.not_eq_true, Bool.not_eq_eq_eq_not, Bool.not_true, Bool.not_false] at c14)
        refine CW_seq (fun K5 hK5 => ?_)
        refine CW_region ?_
        refine OW_mv rfl ?_
        refine OW_opS (fun K hK r => ?_)
        rw [x_nilCheck _ _ rfl]
        simp only [eX, ↓reduceIte, Nat.reduceEqDiff, Int.reduceToNat]
        refine hK _ _ ?_; clear hK K
        refine OW_opS (fun K hK r => ?_)
        simp only [x_fieldAddr, fa71_0, add_mk, Nat.reduceAdd, Nat.zero_add, eX, ↓reduceIte, Nat.reduceEqDiff, Int.reduceToNat]
        refine hK _ _ ?_; clear hK K
        refine OW_opS (fun K hK r => ?_)
        simp only [x_load, eX, ↓reduceIte, Nat.reduceEqDiff, Int.reduceToNat]
        refine Lt_loadAt1 Try.underlying3 rfl hbA ldA ?_
        try simp only [eX, ↓reduceIte, Nat.reduceEqDiff, Int.reduceToNat]
        refine hK _ _ ?_; clear hK K
        refine OW_as rfl ?_
        refine OW_nil ?_
        try simp only [Ex.thnH, Ex.inBlockH, ↓reduceIte, Nat.reduceEqDiff]
        refine hK5 _ _ ?_; try clear hK5 K5
        refine CW_ret ?_
        try simp only [Ex.thnH, Ex.inBlockH, ↓reduceIte, Nat.reduceEqDiff]
        exact ⟨[_], ⟨rfl, trivial⟩, _, Le.refl _, rfl, rfl⟩
    · first
      | (exfalso; exact cnA c14; done)
      | skip
        (try simp only [decide_eq_true_eq, decide_eq_false_iff_not, Bool.not_eq_true, Bool.not_eq_false, Bool.and_eq_true, Bool.or_eq_true, Bool.or_eq_false_iff, Bool.not_eq_true, Bool.not_eq_eq_eq_not, Bool.not_true, Bool.not_false] at c14)
        refine CW_skip ?_
        try simp only [Ex.thnH, Ex.inBlockH, ↓reduceIte, Nat.reduceEqDiff]
        refine hK2 _ _ ?_; try clear hK2 K2
        refine CW_seq (fun K6 hK6 => ?_)
        refine CW_region ?_
        refine OW_as rfl ?_
        refine OW_nil ?_
        try simp only [Ex.thnH, Ex.inBlockH, ↓reduceIte, Nat.reduceEqDiff]
        refine hK6 _ _ ?_; try clear hK6 K6
        refine CW_ret ?_
        try simp only [Ex.thnH, Ex.inBlockH, ↓reduceIte, Nat.reduceEqDiff]
        exact ⟨[_], ⟨rfl, trivial⟩, _, Le.refl _, rfl, rfl⟩

end Go.Proofs.Ytlkopcgoaldpeaa.HL
