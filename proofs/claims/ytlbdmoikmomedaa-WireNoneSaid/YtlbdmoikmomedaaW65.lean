/- A part of the proof. -/
import Derived.Test.YtlbdmoikmomedaaW63
namespace Go.Proofs.Ytlbdmoikmomedaa.HL
open Go Go.Proofs
set_option linter.unusedSimpArgs false
set_option linter.unusedVariables false
attribute [local irreducible] Lt Lq CW OW TW CallH

set_option maxRecDepth 100000 in
set_option maxHeartbeats 1000000 in
theorem rCount_nil (H : Hp) : CallH Try.prog 26 #[.pointer none] H (fun v H' => v = .int .u64 0 ∧ H' = H) := by
  refine CallH_enter (l := [_]) (rl := [.tmp 2]) (n := 49) Try.func26 rfl rfl rfl rfl rfl ?_
  simp only [envOf, Nat.reduceAdd]
  refine CW_seq (fun K1 hK1 => ?_)
  refine CW_region ?_
  refine OW_op rfl (lt_some (by decide)) (fun K hK r => ?_)
  simp only [x_assign, ev, Env.get, Option.getD_some, ↓reduceIte, Nat.reduceEqDiff, NextH, Env.putO, Env.put, ↓reduceIte, Nat.reduceEqDiff, upd_upd, Int.reduceToNat]
  refine hK _ _ ?_; clear hK K
  refine OW_nil ?_
  try simp only [Ex.thnH, Ex.inBlockH, ↓reduceIte, Nat.reduceEqDiff]
  refine hK1 _ _ ?_; try clear hK1 K1
  refine CW_seq (fun K2 hK2 => ?_)
  refine CW_region ?_
  refine OW_op rfl (lt_some (by decide)) (fun K hK r => ?_)
  simp only [x_assign, ev, Env.get, Option.getD_some, ↓reduceIte, Nat.reduceEqDiff, NextH, Env.putO, Env.put, ↓reduceIte, Nat.reduceEqDiff, upd_upd, Int.reduceToNat]
  refine hK _ _ ?_; clear hK K
  refine OW_nil ?_
  try simp only [Ex.thnH, Ex.inBlockH, ↓reduceIte, Nat.reduceEqDiff]
  refine hK2 _ _ ?_; try clear hK2 K2
  refine CW_seq (fun K3 hK3 => ?_)
  refine CW_seq (fun K4 hK4 => ?_)
  refine CW_region ?_
  refine OW_op rfl (lt_some (by decide)) (fun K hK r => ?_)
  simp only [x_move, ev, Env.get, Option.getD_some, ↓reduceIte, Nat.reduceEqDiff, NextH, Env.putO, Env.put, ↓reduceIte, Nat.reduceEqDiff, upd_upd, Int.reduceToNat]
  refine hK _ _ ?_; clear hK K
  refine OW_nil ?_
  try simp only [Ex.thnH, Ex.inBlockH, ↓reduceIte, Nat.reduceEqDiff]
  refine hK4 _ _ ?_; try clear hK4 K4
  refine CW_block ?_
  refine CW_loop (fun m e H_ => m = 0 ∧ Env.has [(0, .pointer none), (8, .int .i64 0)] e ∧ H_ = H) (0) ?_ ?_
  · skip
    exact ⟨rfl, ⟨rfl, rfl, trivial⟩, rfl⟩
  intro m_ e_ H_ hI_
  obtain ⟨rfl, he, hH_⟩ := hI_
  subst hH_
  refine CW_env he.sub ?_; clear he e_
  refine CW_seq (fun K5 hK5 => ?_)
  refine CW_region ?_
  refine OW_op rfl (lt_some (by decide)) (fun K hK r => ?_)
  simp (disch := (first | omega | decide)) only [x_bin, g_int, b_lss, dec_lt_t, dec_lt_f, dec_le_t, dec_le_f, dec_eq_t, dec_eq_f, Bool.not_true, Bool.not_false, ev, Env.get, Option.getD_some, ↓reduceIte, Nat.reduceEqDiff, NextH, Env.putO, Env.put, ↓reduceIte, Nat.reduceEqDiff, upd_upd, Int.reduceToNat]
  refine hK _ _ ?_; clear hK K
  refine OW_nil ?_
  try simp only [Ex.thnH, Ex.inBlockH, ↓reduceIte, Nat.reduceEqDiff]
  refine hK5 _ _ ?_; try clear hK5 K5
  refine CW_seq (fun K6 hK6 => ?_)
  refine CW_cond (fun r => rfl) (fun c9 => ?_) (fun c9 => ?_)
  · first
    | (exfalso; exact cnA c9; done)
    | skip
      (try simp only [decide_eq_true_eq, decide_eq_false_iff_not, Bool.not_eq_true, Bool.not_eq_false, Bool.and_eq_true, Bool.or_eq_true, Bool.or_eq_false_iff, Bool.not_eq_true, Bool.not_eq_eq_eq_not, Bool.not_true, Bool.not_false] at c9)
      refine CW_skip ?_
      try simp only [Ex.thnH, Ex.inBlockH, ↓reduceIte, Nat.reduceEqDiff]
      refine hK6 _ _ ?_; try clear hK6 K6
      refine CW_seq (fun K7 hK7 => ?_)
      refine CW_block ?_
      refine CW_seq (fun K8 hK8 => ?_)
      refine CW_region ?_
      refine OW_op rfl (lt_some (by decide)) (fun K hK r => ?_)
      simp only [x_move, ev, Env.get, Option.getD_some, ↓reduceIte, Nat.reduceEqDiff, NextH, Env.putO, Env.put, ↓reduceIte, Nat.reduceEqDiff, upd_upd, Int.reduceToNat]
      refine hK _ _ ?_; clear hK K
      refine OW_op rfl (lt_some (by decide)) (fun K hK r => ?_)
      simp only [x_assign, ev, Env.get, Option.getD_some, ↓reduceIte, Nat.reduceEqDiff, NextH, Env.putO, Env.put, ↓reduceIte, Nat.reduceEqDiff, upd_upd, Int.reduceToNat]
      refine hK _ _ ?_; clear hK K
      refine OW_nil ?_
      try simp only [Ex.thnH, Ex.inBlockH, ↓reduceIte, Nat.reduceEqDiff]
      refine hK8 _ _ ?_; try clear hK8 K8
      refine CW_seq (fun K9 hK9 => ?_)
      refine CW_region ?_
      refine OW_op rfl (lt_some (by decide)) (fun K hK r => ?_)
      simp only [x_move, ev, Env.get, Option.getD_some, ↓reduceIte, Nat.reduceEqDiff, NextH, Env.putO, Env.put, ↓reduceIte, Nat.reduceEqDiff, upd_upd, Int.reduceToNat]
      refine hK _ _ ?_; clear hK K
      refine OW_op rfl (lt_some (by decide)) (fun K hK r => ?_)
      simp only [x_callF _ bd49, List.map_toArray, List.map_cons, List.map_nil, ev, Env.get, Option.getD_some, ↓reduceIte, Nat.reduceEqDiff, NextH, Env.putO, Env.put, ↓reduceIte, Nat.reduceEqDiff, upd_upd, Int.reduceToNat]
      refine (take_nil _ 1).mono ?_
      rintro v H' ⟨rfl, rfl⟩
      try simp only [ev, Env.get, Option.getD_some, ↓reduceIte, Nat.reduceEqDiff, NextH, Env.putO, Env.put, ↓reduceIte, Nat.reduceEqDiff, upd_upd, Int.reduceToNat]
      refine hK _ _ ?_; clear hK K
      refine OW_op rfl (lt_some (by decide)) (fun K hK r => ?_)
      simp only [x_move, ev, Env.get, Option.getD_some, ↓reduceIte, Nat.reduceEqDiff, NextH, Env.putO, Env.put, ↓reduceIte, Nat.reduceEqDiff, upd_upd, Int.reduceToNat]
      refine hK _ _ ?_; clear hK K
      refine OW_op rfl (lt_some (by decide)) (fun K hK r => ?_)
      simp only [x_extract, i_extract, List.getElem?_toArray, List.getElem?_cons_zero, List.getElem?_cons_succ, orF_some, ev, Env.get, Option.getD_some, ↓reduceIte, Nat.reduceEqDiff, NextH, Env.putO, Env.put, ↓reduceIte, Nat.reduceEqDiff, upd_upd, Int.reduceToNat]
      refine hK _ _ ?_; clear hK K
      refine OW_op rfl (lt_some (by decide)) (fun K hK r => ?_)
      simp only [x_extract, i_extract, List.getElem?_toArray, List.getElem?_cons_zero, List.getElem?_cons_succ, orF_some, ev, Env.get, Option.getD_some, ↓reduceIte, Nat.reduceEqDiff, NextH, Env.putO, Env.put, ↓reduceIte, Nat.reduceEqDiff, upd_upd, Int.reduceToNat]
      refine hK _ _ ?_; clear hK K
      refine OW_op rfl (lt_some (by decide)) (fun K hK r => ?_)
      simp only [x_assign, ev, Env.get, Option.getD_some, ↓reduceIte, Nat.reduceEqDiff, NextH, Env.putO, Env.put, ↓reduceIte, Nat.reduceEqDiff, upd_upd, Int.reduceToNat]
      refine hK _ _ ?_; clear hK K
      refine OW_op rfl (lt_some (by decide)) (fun K hK r => ?_)
      simp only [x_assign, ev, Env.get, Option.getD_some, ↓reduceIte, Nat.reduceEqDiff, NextH, Env.putO, Env.put, ↓reduceIte, Nat.reduceEqDiff, upd_upd, Int.reduceToNat]
      refine hK _ _ ?_; clear hK K
      refine OW_nil ?_
      try simp only [Ex.thnH, Ex.inBlockH, ↓reduceIte, Nat.reduceEqDiff]
      refine hK9 _ _ ?_; try clear hK9 K9
      refine CW_seq (fun K10 hK10 => ?_)
      refine CW_seq (fun K11 hK11 => ?_)
      refine CW_region ?_
      refine OW_op rfl (lt_some (by decide)) (fun K hK r => ?_)
      simp only [x_move, ev, Env.get, Option.getD_some, ↓reduceIte, Nat.reduceEqDiff, NextH, Env.putO, Env.put, ↓reduceIte, Nat.reduceEqDiff, upd_upd, Int.reduceToNat]
      refine hK _ _ ?_; clear hK K
      refine OW_op rfl (lt_some (by decide)) (fun K hK r => ?_)
      simp only [x_un, u_not, ev, Env.get, Option.getD_some, ↓reduceIte, Nat.reduceEqDiff, NextH, Env.putO, Env.put, ↓reduceIte, Nat.reduceEqDiff, upd_upd, Int.reduceToNat]
      refine hK _ _ ?_; clear hK K
      refine OW_nil ?_
      try simp only [Ex.thnH, Ex.inBlockH, ↓reduceIte, Nat.reduceEqDiff]
      refine hK11 _ _ ?_; try clear hK11 K11
      refine CW_cond (fun r => rfl) (fun c17 => ?_) (fun c17 => ?_)
      · first
        | (exfalso; exact cnA c17; done)
        | skip
          (try simp only [decide_eq_true_eq, decide_eq_false_iff_not, Bool.not_eq_true, Bool.not_eq_false, Bool.and_eq_true, Bool.or_eq_true, Bool.or_eq_false_iff, Bool.not_eq_true, Bool.not_eq_eq_eq_not, Bool.not_true, Bool.not_false] at c17)
          refine CW_seq (fun K12 hK12 => ?_)
          refine CW_region ?_
          refine OW_op rfl (lt_some (by decide)) (fun K hK r => ?_)
          simp only [x_assign, ev, Env.get, Option.getD_some, ↓reduceIte, Nat.reduceEqDiff, NextH, Env.putO, Env.put, ↓reduceIte, Nat.reduceEqDiff, upd_upd, Int.reduceToNat]
          refine hK _ _ ?_; clear hK K
          refine OW_nil ?_
          try simp only [Ex.thnH, Ex.inBlockH, ↓reduceIte, Nat.reduceEqDiff]
          refine hK12 _ _ ?_; try clear hK12 K12
          refine CW_ret ?_
          try simp only [Ex.thnH, Ex.inBlockH, ↓reduceIte, Nat.reduceEqDiff]
          exact ⟨[_], ⟨rfl, trivial⟩, _, Le.refl _, rfl, rfl⟩
      · first
        | (exfalso; exact cnA c17; done)
        | skip
          (try simp only [decide_eq_true_eq, decide_eq_false_iff_not, Bool.not_eq_true, Bool.not_eq_false, Bool.and_eq_true, Bool.or_eq_true, Bool.or_eq_false_iff, Bool.not_eq_true, Bool.not_eq_eq_eq_not, Bool.not_true, Bool.not_false] at c17)
          refine CW_skip ?_
          try simp only [Ex.thnH, Ex.inBlockH, ↓reduceIte, Nat.reduceEqDiff]
          refine hK10 _ _ ?_; try clear hK10 K10
          refine CW_seq (fun K13 hK13 => ?_)
          refine CW_region ?_
          refine OW_op rfl (lt_some (by decide)) (fun K hK r => ?_)
          simp only [x_move, ev, Env.get, Option.getD_some, ↓reduceIte, Nat.reduceEqDiff, NextH, Env.putO, Env.put, ↓reduceIte, Nat.reduceEqDiff, upd_upd, Int.reduceToNat]
          refine hK _ _ ?_; clear hK K
          refine OW_op rfl (lt_some (by decide)) (fun K hK r => ?_)
          simp only [x_indexAddr, ev, Env.get, Option.getD_some, ↓reduceIte, Nat.reduceEqDiff, NextH, Env.putO, Env.put, ↓reduceIte, Nat.reduceEqDiff, upd_upd, Int.reduceToNat]
          refine Lt_indexS Try.underlying27 sz5 ixA ixA ?_
          try simp only [add_mk, Nat.mul_one, Nat.zero_add, Int.reduceToNat]
          try simp only [ev, Env.get, Option.getD_some, ↓reduceIte, Nat.reduceEqDiff, NextH, Env.putO, Env.put, ↓reduceIte, Nat.reduceEqDiff, upd_upd, Int.reduceToNat]
          refine hK _ _ ?_; clear hK K
          refine OW_op rfl (lt_some (by decide)) (fun K hK r => ?_)
          simp only [x_load, ev, Env.get, Option.getD_some, ↓reduceIte, Nat.reduceEqDiff, NextH, Env.putO, Env.put, ↓reduceIte, Nat.reduceEqDiff, upd_upd, Int.reduceToNat]
          refine Lt_loadAt1 Try.underlying5 rfl hbA ldA ?_
          try simp only [ev, Env.get, Option.getD_some, ↓reduceIte, Nat.reduceEqDiff, NextH, Env.putO, Env.put, ↓reduceIte, Nat.reduceEqDiff, upd_upd, Int.reduceToNat]
          refine hK _ _ ?_; clear hK K
          refine OW_op rfl (lt_some (by decide)) (fun K hK r => ?_)
          simp only [x_assign, ev, Env.get, Option.getD_some, ↓reduceIte, Nat.reduceEqDiff, NextH, Env.putO, Env.put, ↓reduceIte, Nat.reduceEqDiff, upd_upd, Int.reduceToNat]
          refine hK _ _ ?_; clear hK K
          refine OW_nil ?_
          try simp only [Ex.thnH, Ex.inBlockH, ↓reduceIte, Nat.reduceEqDiff]
          refine hK13 _ _ ?_; try clear hK13 K13
          refine CW_seq (fun K14 hK14 => ?_)
          refine CW_seq (fun K15 hK15 => ?_)
          refine CW_region ?_
          refine OW_op rfl (lt_some (by decide)) (fun K hK r => ?_)
          simp only [x_move, ev, Env.get, Option.getD_some, ↓reduceIte, Nat.reduceEqDiff, NextH, Env.putO, Env.put, ↓reduceIte, Nat.reduceEqDiff, upd_upd, Int.reduceToNat]
          refine hK _ _ ?_; clear hK K
          refine OW_op rfl (lt_some (by decide)) (fun K hK r => ?_)
          simp (disch := (first | omega | decide)) only [x_bin, g_int, b_eql, dec_lt_t, dec_lt_f, dec_le_t, dec_le_f, dec_eq_t, dec_eq_f, Bool.not_true, Bool.not_false, ev, Env.get, Option.getD_some, ↓reduceIte, Nat.reduceEqDiff, NextH, Env.putO, Env.put, ↓reduceIte, Nat.reduceEqDiff, upd_upd, Int.reduceToNat]
          refine hK _ _ ?_; clear hK K
          refine OW_op rfl (lt_some (by decide)) (fun K hK r => ?_)
          simp only [x_move, ev, Env.get, Option.getD_some, ↓reduceIte, Nat.reduceEqDiff, NextH, Env.putO, Env.put, ↓reduceIte, Nat.reduceEqDiff, upd_upd, Int.reduceToNat]
          refine hK _ _ ?_; clear hK K
          (first | refine OW_split (d := 23) rfl (fun g23 => ?_) (fun g23 => ?_) | skip)
          all_goals try (exfalso; exact cnA g23)
          all_goals (try simp only [decide_eq_true_eq, decide_eq_false_iff_not, Bool.not_eq_true, Bool.not_eq_false, Bool.and_eq_true, Bool.or_eq_true, Bool.or_eq_false_iff, Bool.not_eq_true, Bool.not_eq_eq_eq_not, Bool.not_true, Bool.not_false] at g23)
          all_goals
            try simp only [NextH, Env.putO, Env.put, ↓reduceIte, Nat.reduceEqDiff, upd_upd, Int.reduceToNat]
            first
            | refine OW_guardT rfl (lt_some (by decide)) rfl (fun K hK r => ?_)
              simp only [x_move, ev, Env.get, Option.getD_some, ↓reduceIte, Nat.reduceEqDiff, NextH, Env.putO, Env.put, ↓reduceIte, Nat.reduceEqDiff, upd_upd, Int.reduceToNat]
              refine hK _ _ ?_; clear hK K
            | refine OW_guardF rfl (lt_some (by decide)) rfl ?_
              simp only [NextH, Env.putO, Env.put, ↓reduceIte, Nat.reduceEqDiff, upd_upd, Int.reduceToNat]
            first
            | refine OW_guardT rfl (lt_some (by decide)) rfl (fun K hK r => ?_)
              simp (disch := (first | omega | decide)) only [x_bin, g_int, b_gtr, dec_lt_t, dec_lt_f, dec_le_t, dec_le_f, dec_eq_t, dec_eq_f, Bool.not_true, Bool.not_false, ev, Env.get, Option.getD_some, ↓reduceIte, Nat.reduceEqDiff, NextH, Env.putO, Env.put, ↓reduceIte, Nat.reduceEqDiff, upd_upd, Int.reduceToNat]
              refine hK _ _ ?_; clear hK K
            | refine OW_guardF rfl (lt_some (by decide)) rfl ?_
              simp only [NextH, Env.putO, Env.put, ↓reduceIte, Nat.reduceEqDiff, upd_upd, Int.reduceToNat]
            refine OW_op rfl (lt_some (by decide)) (fun K hK r => ?_)
            simp only [x_pick, l_asBool, HL.ite_bool, if_true, if_false, Bool.false_eq_true, ev, Env.get, Option.getD_some, ↓reduceIte, Nat.reduceEqDiff, NextH, Env.putO, Env.put, ↓reduceIte, Nat.reduceEqDiff, upd_upd, Int.reduceToNat]
            refine hK _ _ ?_; clear hK K
            refine OW_op rfl (lt_some (by decide)) (fun K hK r => ?_)
            simp only [x_move, ev, Env.get, Option.getD_some, ↓reduceIte, Nat.reduceEqDiff, NextH, Env.putO, Env.put, ↓reduceIte, Nat.reduceEqDiff, upd_upd, Int.reduceToNat]
            refine hK _ _ ?_; clear hK K
            (first | refine OW_split (d := 27) rfl (fun g27 => ?_) (fun g27 => ?_) | skip)
            all_goals try (exfalso; exact cnA g27)
            all_goals (try simp only [decide_eq_true_eq, decide_eq_false_iff_not, Bool.not_eq_true, Bool.not_eq_false, Bool.and_eq_true, Bool.or_eq_true, Bool.or_eq_false_iff, Bool.not_eq_true, Bool.not_eq_eq_eq_not, Bool.not_true, Bool.not_false] at g27)
            all_goals
              try simp only [NextH, Env.putO, Env.put, ↓reduceIte, Nat.reduceEqDiff, upd_upd, Int.reduceToNat]
              first
              | refine OW_guardT rfl (lt_some (by decide)) rfl (fun K hK r => ?_)
                simp only [x_move, ev, Env.get, Option.getD_some, ↓reduceIte, Nat.reduceEqDiff, NextH, Env.putO, Env.put, ↓reduceIte, Nat.reduceEqDiff, upd_upd, Int.reduceToNat]
                refine hK _ _ ?_; clear hK K
              | refine OW_guardF rfl (lt_some (by decide)) rfl ?_
                simp only [NextH, Env.putO, Env.put, ↓reduceIte, Nat.reduceEqDiff, upd_upd, Int.reduceToNat]
              first
              | refine OW_guardT rfl (lt_some (by decide)) rfl (fun K hK r => ?_)
                simp (disch := (first | omega | decide)) only [x_bin, g_int, b_gtr, dec_lt_t, dec_lt_f, dec_le_t, dec_le_f, dec_eq_t, dec_eq_f, Bool.not_true, Bool.not_false, ev, Env.get, Option.getD_some, ↓reduceIte, Nat.reduceEqDiff, NextH, Env.putO, Env.put, ↓reduceIte, Nat.reduceEqDiff, upd_upd, Int.reduceToNat]
                refine hK _ _ ?_; clear hK K
              | refine OW_guardF rfl (lt_some (by decide)) rfl ?_
                simp only [NextH, Env.putO, Env.put, ↓reduceIte, Nat.reduceEqDiff, upd_upd, Int.reduceToNat]
              first
              | refine OW_guardT rfl (lt_some (by decide)) rfl (fun K hK r => ?_)
                simp only [x_move, ev, Env.get, Option.getD_some, ↓reduceIte, Nat.reduceEqDiff, NextH, Env.putO, Env.put, ↓reduceIte, Nat.reduceEqDiff, upd_upd, Int.reduceToNat]
                refine hK _ _ ?_; clear hK K
              | refine OW_guardF rfl (lt_some (by decide)) rfl ?_
                simp only [NextH, Env.putO, Env.put, ↓reduceIte, Nat.reduceEqDiff, upd_upd, Int.reduceToNat]
              (first | refine OW_split (d := 30) rfl (fun g30 => ?_) (fun g30 => ?_) | skip)
              all_goals try (exfalso; exact cnA g30)
              all_goals (try simp only [decide_eq_true_eq, decide_eq_false_iff_not, Bool.not_eq_true, Bool.not_eq_false, Bool.and_eq_true, Bool.or_eq_true, Bool.or_eq_false_iff, Bool.not_eq_true, Bool.not_eq_eq_eq_not, Bool.not_true, Bool.not_false] at g30)
              all_goals
                try simp only [NextH, Env.putO, Env.put, ↓reduceIte, Nat.reduceEqDiff, upd_upd, Int.reduceToNat]
                first
                | refine OW_guardT rfl (lt_some (by decide)) rfl (fun K hK r => ?_)
                  simp only [x_move, ev, Env.get, Option.getD_some, ↓reduceIte, Nat.reduceEqDiff, NextH, Env.putO, Env.put, ↓reduceIte, Nat.reduceEqDiff, upd_upd, Int.reduceToNat]
                  refine hK _ _ ?_; clear hK K
                | refine OW_guardF rfl (lt_some (by decide)) rfl ?_
                  simp only [NextH, Env.putO, Env.put, ↓reduceIte, Nat.reduceEqDiff, upd_upd, Int.reduceToNat]
                first
                | refine OW_guardT rfl (lt_some (by decide)) rfl (fun K hK r => ?_)
                  simp (disch := (first | omega | decide)) only [x_bin, g_int, b_eql, dec_lt_t, dec_lt_f, dec_le_t, dec_le_f, dec_eq_t, dec_eq_f, Bool.not_true, Bool.not_false, ev, Env.get, Option.getD_some, ↓reduceIte, Nat.reduceEqDiff, NextH, Env.putO, Env.put, ↓reduceIte, Nat.reduceEqDiff, upd_upd, Int.reduceToNat]
                  refine hK _ _ ?_; clear hK K
                | refine OW_guardF rfl (lt_some (by decide)) rfl ?_
                  simp only [NextH, Env.putO, Env.put, ↓reduceIte, Nat.reduceEqDiff, upd_upd, Int.reduceToNat]
                first
                | refine OW_guardT rfl (lt_some (by decide)) rfl (fun K hK r => ?_)
                  simp only [x_pick, l_asBool, HL.ite_bool, if_true, if_false, Bool.false_eq_true, ev, Env.get, Option.getD_some, ↓reduceIte, Nat.reduceEqDiff, NextH, Env.putO, Env.put, ↓reduceIte, Nat.reduceEqDiff, upd_upd, Int.reduceToNat]
                  refine hK _ _ ?_; clear hK K
                | refine OW_guardF rfl (lt_some (by decide)) rfl ?_
                  simp only [NextH, Env.putO, Env.put, ↓reduceIte, Nat.reduceEqDiff, upd_upd, Int.reduceToNat]
                refine OW_op rfl (lt_some (by decide)) (fun K hK r => ?_)
                simp only [x_pick, l_asBool, HL.ite_bool, if_true, if_false, Bool.false_eq_true, ev, Env.get, Option.getD_some, ↓reduceIte, Nat.reduceEqDiff, NextH, Env.putO, Env.put, ↓reduceIte, Nat.reduceEqDiff, upd_upd, Int.reduceToNat]
                refine hK _ _ ?_; clear hK K
                refine OW_nil ?_
                try simp only [Ex.thnH, Ex.inBlockH, ↓reduceIte, Nat.reduceEqDiff]
                refine hK15 _ _ ?_; try clear hK15 K15
                refine CW_cond (fun r => rfl) (fun c34 => ?_) (fun c34 => ?_)
                · first
                  | (exfalso; exact cnA c34; done)
                  | skip
                    (try simp only [decide_eq_true_eq, decide_eq_false_iff_not, Bool.not_eq_true, Bool.not_eq_false, Bool.and_eq_true, Bool.or_eq_true, Bool.or_eq_false_iff, Bool.not_eq_true, Bool.not_eq_eq_eq_not, Bool.not_true, Bool.not_false] at c34)
                    refine CW_exit ?_
                    try simp only [Ex.thnH, Ex.inBlockH, ↓reduceIte, Nat.reduceEqDiff]
                    refine hK3 _ _ ?_; try clear hK3 K3
                    refine CW_seq (fun K16 hK16 => ?_)
                    refine CW_region ?_
                    refine OW_op rfl (lt_some (by decide)) (fun K hK r => ?_)
                    simp only [x_move, ev, Env.get, Option.getD_some, ↓reduceIte, Nat.reduceEqDiff, NextH, Env.putO, Env.put, ↓reduceIte, Nat.reduceEqDiff, upd_upd, Int.reduceToNat]
                    refine hK _ _ ?_; clear hK K
                    refine OW_op rfl (lt_some (by decide)) (fun K hK r => ?_)
                    simp only [x_callF _ bd50, List.map_toArray, List.map_cons, List.map_nil, ev, Env.get, Option.getD_some, ↓reduceIte, Nat.reduceEqDiff, NextH, Env.putO, Env.put, ↓reduceIte, Nat.reduceEqDiff, upd_upd, Int.reduceToNat]
                    refine (fail_nil _).mono ?_
                    rintro v H' rfl
                    try simp only [ev, Env.get, Option.getD_some, ↓reduceIte, Nat.reduceEqDiff, NextH, Env.putO, Env.put, ↓reduceIte, Nat.reduceEqDiff, upd_upd, Int.reduceToNat]
                    refine hK _ _ ?_; clear hK K
                    refine OW_nil ?_
                    try simp only [Ex.thnH, Ex.inBlockH, ↓reduceIte, Nat.reduceEqDiff]
                    refine hK16 _ _ ?_; try clear hK16 K16
                    refine CW_seq (fun K17 hK17 => ?_)
                    refine CW_region ?_
                    refine OW_op rfl (lt_some (by decide)) (fun K hK r => ?_)
                    simp only [x_assign, ev, Env.get, Option.getD_some, ↓reduceIte, Nat.reduceEqDiff, NextH, Env.putO, Env.put, ↓reduceIte, Nat.reduceEqDiff, upd_upd, Int.reduceToNat]
                    refine hK _ _ ?_; clear hK K
                    refine OW_nil ?_
                    try simp only [Ex.thnH, Ex.inBlockH, ↓reduceIte, Nat.reduceEqDiff]
                    refine hK17 _ _ ?_; try clear hK17 K17
                    refine CW_ret ?_
                    try simp only [Ex.thnH, Ex.inBlockH, ↓reduceIte, Nat.reduceEqDiff]
                    exfalso; simp_all
                · first
                  | (exfalso; exact cnA c34; done)
                  | skip
                    (try simp only [decide_eq_true_eq, decide_eq_false_iff_not, Bool.not_eq_true, Bool.not_eq_false, Bool.and_eq_true, Bool.or_eq_true, Bool.or_eq_false_iff, Bool.not_eq_true, Bool.not_eq_eq_eq_not, Bool.not_true, Bool.not_false] at c34)
                    refine CW_skip ?_
                    try simp only [Ex.thnH, Ex.inBlockH, ↓reduceIte, Nat.reduceEqDiff]
                    refine hK14 _ _ ?_; try clear hK14 K14
                    refine CW_seq (fun K18 hK18 => ?_)
                    refine CW_region ?_
                    refine OW_op rfl (lt_some (by decide)) (fun K hK r => ?_)
                    simp only [x_move, ev, Env.get, Option.getD_some, ↓reduceIte, Nat.reduceEqDiff, NextH, Env.putO, Env.put, ↓reduceIte, Nat.reduceEqDiff, upd_upd, Int.reduceToNat]
                    refine hK _ _ ?_; clear hK K
                    refine OW_op rfl (lt_some (by decide)) (fun K hK r => ?_)
                    simp only [x_move, ev, Env.get, Option.getD_some, ↓reduceIte, Nat.reduceEqDiff, NextH, Env.putO, Env.put, ↓reduceIte, Nat.reduceEqDiff, upd_upd, Int.reduceToNat]
                    refine hK _ _ ?_; clear hK K
                    refine OW_op rfl (lt_some (by decide)) (fun K hK r => ?_)
                    simp only [x_bin, g_int, b_and, ev, Env.get, Option.getD_some, ↓reduceIte, Nat.reduceEqDiff, NextH, Env.putO, Env.put, ↓reduceIte, Nat.reduceEqDiff, upd_upd, Int.reduceToNat]
                    refine hK _ _ ?_; clear hK K
                    refine OW_op rfl (lt_some (by decide)) (fun K hK r => ?_)
                    simp (disch := (first | omega | decide)) only [x_convert, c_int _ _ _ _ Try.underlying5 Try.underlying22, wrap_i64, wrap_u64, wrap_u32, wrap_u8, ev, Env.get, Option.getD_some, ↓reduceIte, Nat.reduceEqDiff, NextH, Env.putO, Env.put, ↓reduceIte, Nat.reduceEqDiff, upd_upd, Int.reduceToNat]
                    refine hK _ _ ?_; clear hK K
                    refine OW_op rfl (lt_some (by decide)) (fun K hK r => ?_)
                    simp only [x_move, ev, Env.get, Option.getD_some, ↓reduceIte, Nat.reduceEqDiff, NextH, Env.putO, Env.put, ↓reduceIte, Nat.reduceEqDiff, upd_upd, Int.reduceToNat]
                    refine hK _ _ ?_; clear hK K
                    refine OW_op rfl (lt_some (by decide)) (fun K hK r => ?_)
                    simp (disch := (first | omega | decide)) only [x_bin, g_int, b_mul, wrap_i64, wrap_u64, wrap_u32, wrap_u8, ev, Env.get, Option.getD_some, ↓reduceIte, Nat.reduceEqDiff, NextH, Env.putO, Env.put, ↓reduceIte, Nat.reduceEqDiff, upd_upd, Int.reduceToNat]
                    refine hK _ _ ?_; clear hK K
                    refine OW_op rfl (lt_some (by decide)) (fun K hK r => ?_)
                    simp (disch := (first | omega | decide)) only [x_bin, g_int, b_shl, wrap_i64, wrap_u64, wrap_u32, wrap_u8, ev, Env.get, Option.getD_some, ↓reduceIte, Nat.reduceEqDiff, NextH, Env.putO, Env.put, ↓reduceIte, Nat.reduceEqDiff, upd_upd, Int.reduceToNat]
                    refine hK _ _ ?_; clear hK K
                    refine OW_op rfl (lt_some (by decide)) (fun K hK r => ?_)
                    simp only [x_bin, g_int, b_or, ev, Env.get, Option.getD_some, ↓reduceIte, Nat.reduceEqDiff, NextH, Env.putO, Env.put, ↓reduceIte, Nat.reduceEqDiff, upd_upd, Int.reduceToNat]
                    refine hK _ _ ?_; clear hK K
                    refine OW_op rfl (lt_some (by decide)) (fun K hK r => ?_)
                    simp only [x_assign, ev, Env.get, Option.getD_some, ↓reduceIte, Nat.reduceEqDiff, NextH, Env.putO, Env.put, ↓reduceIte, Nat.reduceEqDiff, upd_upd, Int.reduceToNat]
                    refine hK _ _ ?_; clear hK K
                    refine OW_nil ?_
                    try simp only [Ex.thnH, Ex.inBlockH, ↓reduceIte, Nat.reduceEqDiff]
                    refine hK18 _ _ ?_; try clear hK18 K18
                    refine CW_seq (fun K19 hK19 => ?_)
                    refine CW_region ?_
                    refine OW_op rfl (lt_some (by decide)) (fun K hK r => ?_)
                    simp only [x_move, ev, Env.get, Option.getD_some, ↓reduceIte, Nat.reduceEqDiff, NextH, Env.putO, Env.put, ↓reduceIte, Nat.reduceEqDiff, upd_upd, Int.reduceToNat]
                    refine hK _ _ ?_; clear hK K
                    refine OW_op rfl (lt_some (by decide)) (fun K hK r => ?_)
                    simp (disch := (first | omega | decide)) only [x_bin, g_int, b_lss, dec_lt_t, dec_lt_f, dec_le_t, dec_le_f, dec_eq_t, dec_eq_f, Bool.not_true, Bool.not_false, ev, Env.get, Option.getD_some, ↓reduceIte, Nat.reduceEqDiff, NextH, Env.putO, Env.put, ↓reduceIte, Nat.reduceEqDiff, upd_upd, Int.reduceToNat]
                    refine hK _ _ ?_; clear hK K
                    refine OW_nil ?_
                    try simp only [Ex.thnH, Ex.inBlockH, ↓reduceIte, Nat.reduceEqDiff]
                    refine hK19 _ _ ?_; try clear hK19 K19
                    refine CW_cond (fun r => rfl) (fun c44 => ?_) (fun c44 => ?_)
                    · first
                      | (exfalso; exact cnA c44; done)
                      | skip
                        (try simp only [decide_eq_true_eq, decide_eq_false_iff_not, Bool.not_eq_true, Bool.not_eq_false, Bool.and_eq_true, Bool.or_eq_true, Bool.or_eq_false_iff, Bool.not_eq_true, Bool.not_eq_eq_eq_not, Bool.not_true, Bool.not_false] at c44)
                        refine CW_seq (fun K20 hK20 => ?_)
                        refine CW_region ?_
                        refine OW_op rfl (lt_some (by decide)) (fun K hK r => ?_)
                        simp only [x_move, ev, Env.get, Option.getD_some, ↓reduceIte, Nat.reduceEqDiff, NextH, Env.putO, Env.put, ↓reduceIte, Nat.reduceEqDiff, upd_upd, Int.reduceToNat]
                        refine hK _ _ ?_; clear hK K
                        refine OW_op rfl (lt_some (by decide)) (fun K hK r => ?_)
                        simp only [x_assign, ev, Env.get, Option.getD_some, ↓reduceIte, Nat.reduceEqDiff, NextH, Env.putO, Env.put, ↓reduceIte, Nat.reduceEqDiff, upd_upd, Int.reduceToNat]
                        refine hK _ _ ?_; clear hK K
                        refine OW_nil ?_
                        try simp only [Ex.thnH, Ex.inBlockH, ↓reduceIte, Nat.reduceEqDiff]
                        refine hK20 _ _ ?_; try clear hK20 K20
                        refine CW_ret ?_
                        try simp only [Ex.thnH, Ex.inBlockH, ↓reduceIte, Nat.reduceEqDiff]
                        exfalso; simp_all
                    · first
                      | (exfalso; exact cnA c44; done)
                      | skip
                        (try simp only [decide_eq_true_eq, decide_eq_false_iff_not, Bool.not_eq_true, Bool.not_eq_false, Bool.and_eq_true, Bool.or_eq_true, Bool.or_eq_false_iff, Bool.not_eq_true, Bool.not_eq_eq_eq_not, Bool.not_true, Bool.not_false] at c44)
                        refine CW_skip ?_
                        try simp only [Ex.thnH, Ex.inBlockH, ↓reduceIte, Nat.reduceEqDiff]
                        refine hK7 _ _ ?_; try clear hK7 K7
                        refine CW_region ?_
                        refine OW_op rfl (lt_some (by decide)) (fun K hK r => ?_)
                        simp (disch := (first | omega | decide)) only [x_bin, g_int, b_add, wrap_i64, wrap_u64, wrap_u32, wrap_u8, ev, Env.get, Option.getD_some, ↓reduceIte, Nat.reduceEqDiff, NextH, Env.putO, Env.put, ↓reduceIte, Nat.reduceEqDiff, upd_upd, Int.reduceToNat]
                        refine hK _ _ ?_; clear hK K
                        refine OW_op rfl (lt_some (by decide)) (fun K hK r => ?_)
                        simp only [x_move, ev, Env.get, Option.getD_some, ↓reduceIte, Nat.reduceEqDiff, NextH, Env.putO, Env.put, ↓reduceIte, Nat.reduceEqDiff, upd_upd, Int.reduceToNat]
                        refine hK _ _ ?_; clear hK K
                        refine OW_nil ?_
                        try simp only [Ex.thnH, Ex.inBlockH, ↓reduceIte, Nat.reduceEqDiff]
                        exfalso; simp_all
  · first
    | (exfalso; exact cnA c9; done)
    | skip
      (try simp only [decide_eq_true_eq, decide_eq_false_iff_not, Bool.not_eq_true, Bool.not_eq_false, Bool.and_eq_true, Bool.or_eq_true, Bool.or_eq_false_iff, Bool.not_eq_true, Bool.not_eq_eq_eq_not, Bool.not_true, Bool.not_false] at c9)
      refine CW_exit ?_
      try simp only [Ex.thnH, Ex.inBlockH, ↓reduceIte, Nat.reduceEqDiff]
      refine hK3 _ _ ?_; try clear hK3 K3
      refine CW_seq (fun K21 hK21 => ?_)
      refine CW_region ?_
      refine OW_op rfl (lt_some (by decide)) (fun K hK r => ?_)
      simp only [x_move, ev, Env.get, Option.getD_some, ↓reduceIte, Nat.reduceEqDiff, NextH, Env.putO, Env.put, ↓reduceIte, Nat.reduceEqDiff, upd_upd, Int.reduceToNat]
      refine hK _ _ ?_; clear hK K
      refine OW_op rfl (lt_some (by decide)) (fun K hK r => ?_)
      simp only [x_callF _ bd50, List.map_toArray, List.map_cons, List.map_nil, ev, Env.get, Option.getD_some, ↓reduceIte, Nat.reduceEqDiff, NextH, Env.putO, Env.put, ↓reduceIte, Nat.reduceEqDiff, upd_upd, Int.reduceToNat]
      refine (fail_nil _).mono ?_
      rintro v H' rfl
      try simp only [ev, Env.get, Option.getD_some, ↓reduceIte, Nat.reduceEqDiff, NextH, Env.putO, Env.put, ↓reduceIte, Nat.reduceEqDiff, upd_upd, Int.reduceToNat]
      refine hK _ _ ?_; clear hK K
      refine OW_nil ?_
      try simp only [Ex.thnH, Ex.inBlockH, ↓reduceIte, Nat.reduceEqDiff]
      refine hK21 _ _ ?_; try clear hK21 K21
      refine CW_seq (fun K22 hK22 => ?_)
      refine CW_region ?_
      refine OW_op rfl (lt_some (by decide)) (fun K hK r => ?_)
      simp only [x_assign, ev, Env.get, Option.getD_some, ↓reduceIte, Nat.reduceEqDiff, NextH, Env.putO, Env.put, ↓reduceIte, Nat.reduceEqDiff, upd_upd, Int.reduceToNat]
      refine hK _ _ ?_; clear hK K
      refine OW_nil ?_
      try simp only [Ex.thnH, Ex.inBlockH, ↓reduceIte, Nat.reduceEqDiff]
      refine hK22 _ _ ?_; try clear hK22 K22
      refine CW_ret ?_
      try simp only [Ex.thnH, Ex.inBlockH, ↓reduceIte, Nat.reduceEqDiff]
      exfalso; simp_all

set_option maxRecDepth 100000 in
set_option maxHeartbeats 1000000 in
theorem rNum_nil (H : Hp) : CallH Try.prog 29 #[.pointer none] H (fun v H' => v = .int .i64 0 ∧ H' = H) := by
  refine CallH_enter (l := [_]) (rl := [.tmp 2]) (n := 14) Try.func29 rfl rfl rfl rfl rfl ?_
  simp only [envOf, Nat.reduceAdd]
  refine CW_seq (fun K1 hK1 => ?_)
  refine CW_region ?_
  refine OW_op rfl (lt_some (by decide)) (fun K hK r => ?_)
  simp only [x_assign, ev, Env.get, Option.getD_some, ↓reduceIte, Nat.reduceEqDiff, NextH, Env.putO, Env.put, ↓reduceIte, Nat.reduceEqDiff, upd_upd, Int.reduceToNat]
  refine hK _ _ ?_; clear hK K
  refine OW_nil ?_
  try simp only [Ex.thnH, Ex.inBlockH, ↓reduceIte, Nat.reduceEqDiff]
  refine hK1 _ _ ?_; try clear hK1 K1
  refine CW_seq (fun K2 hK2 => ?_)
  refine CW_region ?_
  refine OW_op rfl (lt_some (by decide)) (fun K hK r => ?_)
  simp only [x_move, ev, Env.get, Option.getD_some, ↓reduceIte, Nat.reduceEqDiff, NextH, Env.putO, Env.put, ↓reduceIte, Nat.reduceEqDiff, upd_upd, Int.reduceToNat]
  refine hK _ _ ?_; clear hK K
  refine OW_op rfl (lt_some (by decide)) (fun K hK r => ?_)
  simp only [x_callF _ bd26, List.map_toArray, List.map_cons, List.map_nil, ev, Env.get, Option.getD_some, ↓reduceIte, Nat.reduceEqDiff, NextH, Env.putO, Env.put, ↓reduceIte, Nat.reduceEqDiff, upd_upd, Int.reduceToNat]
  refine (rCount_nil _).mono ?_
  rintro v H' ⟨rfl, rfl⟩
  try simp only [ev, Env.get, Option.getD_some, ↓reduceIte, Nat.reduceEqDiff, NextH, Env.putO, Env.put, ↓reduceIte, Nat.reduceEqDiff, upd_upd, Int.reduceToNat]
  refine hK _ _ ?_; clear hK K
  refine OW_op rfl (lt_some (by decide)) (fun K hK r => ?_)
  simp only [x_assign, ev, Env.get, Option.getD_some, ↓reduceIte, Nat.reduceEqDiff, NextH, Env.putO, Env.put, ↓reduceIte, Nat.reduceEqDiff, upd_upd, Int.reduceToNat]
  refine hK _ _ ?_; clear hK K
  refine OW_nil ?_
  try simp only [Ex.thnH, Ex.inBlockH, ↓reduceIte, Nat.reduceEqDiff]
  refine hK2 _ _ ?_; try clear hK2 K2
  refine CW_seq (fun K3 hK3 => ?_)
  refine CW_region ?_
  refine OW_op rfl (lt_some (by decide)) (fun K hK r => ?_)
  simp only [x_move, ev, Env.get, Option.getD_some, ↓reduceIte, Nat.reduceEqDiff, NextH, Env.putO, Env.put, ↓reduceIte, Nat.reduceEqDiff, upd_upd, Int.reduceToNat]
  refine hK _ _ ?_; clear hK K
  refine OW_op rfl (lt_some (by decide)) (fun K hK r => ?_)
  simp (disch := (first | omega | decide)) only [x_bin, g_int, b_shr, wrap_i64, wrap_u64, wrap_u32, wrap_u8, ev, Env.get, Option.getD_some, ↓reduceIte, Nat.reduceEqDiff, NextH, Env.putO, Env.put, ↓reduceIte, Nat.reduceEqDiff, upd_upd, Int.reduceToNat]
  refine hK _ _ ?_; clear hK K
  refine OW_op rfl (lt_some (by decide)) (fun K hK r => ?_)
  simp (disch := (first | omega | decide)) only [x_convert, c_int _ _ _ _ Try.underlying22 Try.underlying3, wrap_i64, wrap_u64, wrap_u32, wrap_u8, ev, Env.get, Option.getD_some, ↓reduceIte, Nat.reduceEqDiff, NextH, Env.putO, Env.put, ↓reduceIte, Nat.reduceEqDiff, upd_upd, Int.reduceToNat]
  refine hK _ _ ?_; clear hK K
  refine OW_op rfl (lt_some (by decide)) (fun K hK r => ?_)
  simp only [x_move, ev, Env.get, Option.getD_some, ↓reduceIte, Nat.reduceEqDiff, NextH, Env.putO, Env.put, ↓reduceIte, Nat.reduceEqDiff, upd_upd, Int.reduceToNat]
  refine hK _ _ ?_; clear hK K
  refine OW_op rfl (lt_some (by decide)) (fun K hK r => ?_)
  simp only [x_bin, g_int, b_and, ev, Env.get, Option.getD_some, ↓reduceIte, Nat.reduceEqDiff, NextH, Env.putO, Env.put, ↓reduceIte, Nat.reduceEqDiff, upd_upd, Int.reduceToNat]
  refine hK _ _ ?_; clear hK K
  refine OW_op rfl (lt_some (by decide)) (fun K hK r => ?_)
  simp (disch := (first | omega | decide)) only [x_convert, c_int _ _ _ _ Try.underlying22 Try.underlying3, wrap_i64, wrap_u64, wrap_u32, wrap_u8, ev, Env.get, Option.getD_some, ↓reduceIte, Nat.reduceEqDiff, NextH, Env.putO, Env.put, ↓reduceIte, Nat.reduceEqDiff, upd_upd, Int.reduceToNat]
  refine hK _ _ ?_; clear hK K
  refine OW_op rfl (lt_some (by decide)) (fun K hK r => ?_)
  simp (disch := (first | omega | decide)) only [x_un, u_neg, wrap_i64, wrap_u64, wrap_u32, wrap_u8, ev, Env.get, Option.getD_some, ↓reduceIte, Nat.reduceEqDiff, NextH, Env.putO, Env.put, ↓reduceIte, Nat.reduceEqDiff, upd_upd, Int.reduceToNat]
  refine hK _ _ ?_; clear hK K
  refine OW_op rfl (lt_some (by decide)) (fun K hK r => ?_)
  simp only [x_bin, g_int, b_xor, ev, Env.get, Option.getD_some, ↓reduceIte, Nat.reduceEqDiff, NextH, Env.putO, Env.put, ↓reduceIte, Nat.reduceEqDiff, upd_upd, Int.reduceToNat]
  skip
  refine hK _ _ ?_; clear hK K
  refine OW_op rfl (lt_some (by decide)) (fun K hK r => ?_)
  simp only [x_assign, ev, Env.get, Option.getD_some, ↓reduceIte, Nat.reduceEqDiff, NextH, Env.putO, Env.put, ↓reduceIte, Nat.reduceEqDiff, upd_upd, Int.reduceToNat]
  refine hK _ _ ?_; clear hK K
  refine OW_nil ?_
  try simp only [Ex.thnH, Ex.inBlockH, ↓reduceIte, Nat.reduceEqDiff]
  refine hK3 _ _ ?_; try clear hK3 K3
  refine CW_ret ?_
  try simp only [Ex.thnH, Ex.inBlockH, ↓reduceIte, Nat.reduceEqDiff]
  exact ⟨[_], ⟨rfl, trivial⟩, _, Le.refl _, rfl, rfl⟩

set_option maxRecDepth 100000 in
set_option maxHeartbeats 1000000 in
theorem rByte_nil (H : Hp) : CallH Try.prog 37 #[.pointer none] H (fun v H' => v = .int .u8 0 ∧ H' = H) := by
  refine CallH_enter (l := [_]) (rl := [.tmp 2]) (n := 15) Try.func37 rfl rfl rfl rfl rfl ?_
  simp only [envOf, Nat.reduceAdd]
  refine CW_seq (fun K1 hK1 => ?_)
  refine CW_region ?_
  refine OW_op rfl (lt_some (by decide)) (fun K hK r => ?_)
  simp only [x_assign, ev, Env.get, Option.getD_some, ↓reduceIte, Nat.reduceEqDiff, NextH, Env.putO, Env.put, ↓reduceIte, Nat.reduceEqDiff, upd_upd, Int.reduceToNat]
  refine hK _ _ ?_; clear hK K
  refine OW_nil ?_
  try simp only [Ex.thnH, Ex.inBlockH, ↓reduceIte, Nat.reduceEqDiff]
  refine hK1 _ _ ?_; try clear hK1 K1
  refine CW_seq (fun K2 hK2 => ?_)
  refine CW_region ?_
  refine OW_op rfl (lt_some (by decide)) (fun K hK r => ?_)
  simp only [x_move, ev, Env.get, Option.getD_some, ↓reduceIte, Nat.reduceEqDiff, NextH, Env.putO, Env.put, ↓reduceIte, Nat.reduceEqDiff, upd_upd, Int.reduceToNat]
  refine hK _ _ ?_; clear hK K
  refine OW_op rfl (lt_some (by decide)) (fun K hK r => ?_)
  simp only [x_callF _ bd49, List.map_toArray, List.map_cons, List.map_nil, ev, Env.get, Option.getD_some, ↓reduceIte, Nat.reduceEqDiff, NextH, Env.putO, Env.put, ↓reduceIte, Nat.reduceEqDiff, upd_upd, Int.reduceToNat]
  refine (take_nil _ 1).mono ?_
  rintro v H' ⟨rfl, rfl⟩
  try simp only [ev, Env.get, Option.getD_some, ↓reduceIte, Nat.reduceEqDiff, NextH, Env.putO, Env.put, ↓reduceIte, Nat.reduceEqDiff, upd_upd, Int.reduceToNat]
  refine hK _ _ ?_; clear hK K
  refine OW_op rfl (lt_some (by decide)) (fun K hK r => ?_)
  simp only [x_move, ev, Env.get, Option.getD_some, ↓reduceIte, Nat.reduceEqDiff, NextH, Env.putO, Env.put, ↓reduceIte, Nat.reduceEqDiff, upd_upd, Int.reduceToNat]
  refine hK _ _ ?_; clear hK K
  refine OW_op rfl (lt_some (by decide)) (fun K hK r => ?_)
  simp only [x_extract, i_extract, List.getElem?_toArray, List.getElem?_cons_zero, List.getElem?_cons_succ, orF_some, ev, Env.get, Option.getD_some, ↓reduceIte, Nat.reduceEqDiff, NextH, Env.putO, Env.put, ↓reduceIte, Nat.reduceEqDiff, upd_upd, Int.reduceToNat]
  refine hK _ _ ?_; clear hK K
  refine OW_op rfl (lt_some (by decide)) (fun K hK r => ?_)
  simp only [x_extract, i_extract, List.getElem?_toArray, List.getElem?_cons_zero, List.getElem?_cons_succ, orF_some, ev, Env.get, Option.getD_some, ↓reduceIte, Nat.reduceEqDiff, NextH, Env.putO, Env.put, ↓reduceIte, Nat.reduceEqDiff, upd_upd, Int.reduceToNat]
  refine hK _ _ ?_; clear hK K
  refine OW_op rfl (lt_some (by decide)) (fun K hK r => ?_)
  simp only [x_assign, ev, Env.get, Option.getD_some, ↓reduceIte, Nat.reduceEqDiff, NextH, Env.putO, Env.put, ↓reduceIte, Nat.reduceEqDiff, upd_upd, Int.reduceToNat]
  refine hK _ _ ?_; clear hK K
  refine OW_op rfl (lt_some (by decide)) (fun K hK r => ?_)
  simp only [x_assign, ev, Env.get, Option.getD_some, ↓reduceIte, Nat.reduceEqDiff, NextH, Env.putO, Env.put, ↓reduceIte, Nat.reduceEqDiff, upd_upd, Int.reduceToNat]
  refine hK _ _ ?_; clear hK K
  refine OW_nil ?_
  try simp only [Ex.thnH, Ex.inBlockH, ↓reduceIte, Nat.reduceEqDiff]
  refine hK2 _ _ ?_; try clear hK2 K2
  refine CW_seq (fun K3 hK3 => ?_)
  refine CW_seq (fun K4 hK4 => ?_)
  refine CW_region ?_
  refine OW_op rfl (lt_some (by decide)) (fun K hK r => ?_)
  simp only [x_move, ev, Env.get, Option.getD_some, ↓reduceIte, Nat.reduceEqDiff, NextH, Env.putO, Env.put, ↓reduceIte, Nat.reduceEqDiff, upd_upd, Int.reduceToNat]
  refine hK _ _ ?_; clear hK K
  refine OW_op rfl (lt_some (by decide)) (fun K hK r => ?_)
  simp only [x_un, u_not, ev, Env.get, Option.getD_some, ↓reduceIte, Nat.reduceEqDiff, NextH, Env.putO, Env.put, ↓reduceIte, Nat.reduceEqDiff, upd_upd, Int.reduceToNat]
  refine hK _ _ ?_; clear hK K
  refine OW_nil ?_
  try simp only [Ex.thnH, Ex.inBlockH, ↓reduceIte, Nat.reduceEqDiff]
  refine hK4 _ _ ?_; try clear hK4 K4
  refine CW_cond (fun r => rfl) (fun c11 => ?_) (fun c11 => ?_)
  · first
    | (exfalso; exact cnA c11; done)
    | skip
      (try simp only [decide_eq_true_eq, decide_eq_false_iff_not, Bool.not_eq_true, Bool.not_eq_false, Bool.and_eq_true, Bool.or_eq_true, Bool.or_eq_false_iff, Bool.not_eq_true, Bool.not_eq_eq_eq_not, Bool.not_true, Bool.not_false] at c11)
      refine CW_seq (fun K5 hK5 => ?_)
      refine CW_region ?_
      refine OW_op rfl (lt_some (by decide)) (fun K hK r => ?_)
      simp only [x_assign, ev, Env.get, Option.getD_some, ↓reduceIte, Nat.reduceEqDiff, NextH, Env.putO, Env.put, ↓reduceIte, Nat.reduceEqDiff, upd_upd, Int.reduceToNat]
      refine hK _ _ ?_; clear hK K
      refine OW_nil ?_
      try simp only [Ex.thnH, Ex.inBlockH, ↓reduceIte, Nat.reduceEqDiff]
      refine hK5 _ _ ?_; try clear hK5 K5
      refine CW_ret ?_
      try simp only [Ex.thnH, Ex.inBlockH, ↓reduceIte, Nat.reduceEqDiff]
      exact ⟨[_], ⟨rfl, trivial⟩, _, Le.refl _, rfl, rfl⟩
  · first
    | (exfalso; exact cnA c11; done)
    | skip
      exfalso; simp_all
      refine CW_skip ?_
      try simp only [Ex.thnH, Ex.inBlockH, ↓reduceIte, Nat.reduceEqDiff]
      refine hK3 _ _ ?_; try clear hK3 K3
      refine CW_seq (fun K6 hK6 => ?_)
      refine CW_region ?_
      refine OW_op rfl (lt_some (by decide)) (fun K hK r => ?_)
      simp only [x_move, ev, Env.get, Option.getD_some, ↓reduceIte, Nat.reduceEqDiff, NextH, Env.putO, Env.put, ↓reduceIte, Nat.reduceEqDiff, upd_upd, Int.reduceToNat]
      refine hK _ _ ?_; clear hK K
      refine OW_op rfl (lt_some (by decide)) (fun K hK r => ?_)
      simp only [x_indexAddr, ev, Env.get, Option.getD_some, ↓reduceIte, Nat.reduceEqDiff, NextH, Env.putO, Env.put, ↓reduceIte, Nat.reduceEqDiff, upd_upd, Int.reduceToNat]
      skip
      refine hK _ _ ?_; clear hK K
      refine OW_op rfl (lt_some (by decide)) (fun K hK r => ?_)
      simp only [x_load, ev, Env.get, Option.getD_some, ↓reduceIte, Nat.reduceEqDiff, NextH, Env.putO, Env.put, ↓reduceIte, Nat.reduceEqDiff, upd_upd, Int.reduceToNat]
      skip
      refine hK _ _ ?_; clear hK K
      refine OW_op rfl (lt_some (by decide)) (fun K hK r => ?_)
      simp only [x_assign, ev, Env.get, Option.getD_some, ↓reduceIte, Nat.reduceEqDiff, NextH, Env.putO, Env.put, ↓reduceIte, Nat.reduceEqDiff, upd_upd, Int.reduceToNat]
      refine hK _ _ ?_; clear hK K
      refine OW_nil ?_
      try simp only [Ex.thnH, Ex.inBlockH, ↓reduceIte, Nat.reduceEqDiff]
      refine hK6 _ _ ?_; try clear hK6 K6
      refine CW_ret ?_
      try simp only [Ex.thnH, Ex.inBlockH, ↓reduceIte, Nat.reduceEqDiff]
      skip

set_option maxRecDepth 100000 in
set_option maxHeartbeats 1000000 in
theorem rFlag_nil (H : Hp) : CallH Try.prog 32 #[.pointer none] H (fun v H' => v = .bool false ∧ H' = H) := by
  refine CallH_enter (l := [_]) (rl := [.tmp 2]) (n := 12) Try.func32 rfl rfl rfl rfl rfl ?_
  simp only [envOf, Nat.reduceAdd]
  refine CW_seq (fun K1 hK1 => ?_)
  refine CW_region ?_
  refine OW_op rfl (lt_some (by decide)) (fun K hK r => ?_)
  simp only [x_assign, ev, Env.get, Option.getD_some, ↓reduceIte, Nat.reduceEqDiff, NextH, Env.putO, Env.put, ↓reduceIte, Nat.reduceEqDiff, upd_upd, Int.reduceToNat]
  refine hK _ _ ?_; clear hK K
  refine OW_nil ?_
  try simp only [Ex.thnH, Ex.inBlockH, ↓reduceIte, Nat.reduceEqDiff]
  refine hK1 _ _ ?_; try clear hK1 K1
  refine CW_seq (fun K2 hK2 => ?_)
  refine CW_region ?_
  refine OW_op rfl (lt_some (by decide)) (fun K hK r => ?_)
  simp only [x_move, ev, Env.get, Option.getD_some, ↓reduceIte, Nat.reduceEqDiff, NextH, Env.putO, Env.put, ↓reduceIte, Nat.reduceEqDiff, upd_upd, Int.reduceToNat]
  refine hK _ _ ?_; clear hK K
  refine OW_op rfl (lt_some (by decide)) (fun K hK r => ?_)
  simp only [x_callF _ bd37, List.map_toArray, List.map_cons, List.map_nil, ev, Env.get, Option.getD_some, ↓reduceIte, Nat.reduceEqDiff, NextH, Env.putO, Env.put, ↓reduceIte, Nat.reduceEqDiff, upd_upd, Int.reduceToNat]
  refine (rByte_nil _).mono ?_
  rintro v H' ⟨rfl, rfl⟩
  try simp only [ev, Env.get, Option.getD_some, ↓reduceIte, Nat.reduceEqDiff, NextH, Env.putO, Env.put, ↓reduceIte, Nat.reduceEqDiff, upd_upd, Int.reduceToNat]
  refine hK _ _ ?_; clear hK K
  refine OW_op rfl (lt_some (by decide)) (fun K hK r => ?_)
  simp only [x_assign, ev, Env.get, Option.getD_some, ↓reduceIte, Nat.reduceEqDiff, NextH, Env.putO, Env.put, ↓reduceIte, Nat.reduceEqDiff, upd_upd, Int.reduceToNat]
  refine hK _ _ ?_; clear hK K
  refine OW_nil ?_
  try simp only [Ex.thnH, Ex.inBlockH, ↓reduceIte, Nat.reduceEqDiff]
  refine hK2 _ _ ?_; try clear hK2 K2
  refine CW_seq (fun K3 hK3 => ?_)
  refine CW_seq (fun K4 hK4 => ?_)
  refine CW_region ?_
  refine OW_op rfl (lt_some (by decide)) (fun K hK r => ?_)
  simp only [x_move, ev, Env.get, Option.getD_some, ↓reduceIte, Nat.reduceEqDiff, NextH, Env.putO, Env.put, ↓reduceIte, Nat.reduceEqDiff, upd_upd, Int.reduceToNat]
  refine hK _ _ ?_; clear hK K
  refine OW_op rfl (lt_some (by decide)) (fun K hK r => ?_)
  simp (disch := (first | omega | decide)) only [x_bin, g_int, b_gtr, dec_lt_t, dec_lt_f, dec_le_t, dec_le_f, dec_eq_t, dec_eq_f, Bool.not_true, Bool.not_false, ev, Env.get, Option.getD_some, ↓reduceIte, Nat.reduceEqDiff, NextH, Env.putO, Env.put, ↓reduceIte, Nat.reduceEqDiff, upd_upd, Int.reduceToNat]
  refine hK _ _ ?_; clear hK K
  refine OW_nil ?_
  try simp only [Ex.thnH, Ex.inBlockH, ↓reduceIte, Nat.reduceEqDiff]
  refine hK4 _ _ ?_; try clear hK4 K4
  refine CW_cond (fun r => rfl) (fun c7 => ?_) (fun c7 => ?_)
  · first
    | (exfalso; exact cnA c7; done)
    | skip
      exfalso; simp_all
      refine CW_region ?_
      refine OW_op rfl (lt_some (by decide)) (fun K hK r => ?_)
      simp only [x_move, ev, Env.get, Option.getD_some, ↓reduceIte, Nat.reduceEqDiff, NextH, Env.putO, Env.put, ↓reduceIte, Nat.reduceEqDiff, upd_upd, Int.reduceToNat]
      refine hK _ _ ?_; clear hK K
      refine OW_op rfl (lt_some (by decide)) (fun K hK r => ?_)
      simp only [x_callF _ bd50, List.map_toArray, List.map_cons, List.map_nil, ev, Env.get, Option.getD_some, ↓reduceIte, Nat.reduceEqDiff, NextH, Env.putO, Env.put, ↓reduceIte, Nat.reduceEqDiff, upd_upd, Int.reduceToNat]
      skip
      try simp only [ev, Env.get, Option.getD_some, ↓reduceIte, Nat.reduceEqDiff, NextH, Env.putO, Env.put, ↓reduceIte, Nat.reduceEqDiff, upd_upd, Int.reduceToNat]
      refine hK _ _ ?_; clear hK K
      refine OW_nil ?_
      try simp only [Ex.thnH, Ex.inBlockH, ↓reduceIte, Nat.reduceEqDiff]
      refine hK3 _ _ ?_; try clear hK3 K3
      refine CW_seq (fun K5 hK5 => ?_)
      refine CW_region ?_
      refine OW_op rfl (lt_some (by decide)) (fun K hK r => ?_)
      simp only [x_move, ev, Env.get, Option.getD_some, ↓reduceIte, Nat.reduceEqDiff, NextH, Env.putO, Env.put, ↓reduceIte, Nat.reduceEqDiff, upd_upd, Int.reduceToNat]
      refine hK _ _ ?_; clear hK K
      refine OW_op rfl (lt_some (by decide)) (fun K hK r => ?_)
      simp (disch := (first | omega | decide)) only [x_bin, g_int, b_eql, dec_lt_t, dec_lt_f, dec_le_t, dec_le_f, dec_eq_t, dec_eq_f, Bool.not_true, Bool.not_false, ev, Env.get, Option.getD_some, ↓reduceIte, Nat.reduceEqDiff, NextH, Env.putO, Env.put, ↓reduceIte, Nat.reduceEqDiff, upd_upd, Int.reduceToNat]
      refine hK _ _ ?_; clear hK K
      refine OW_op rfl (lt_some (by decide)) (fun K hK r => ?_)
      simp only [x_assign, ev, Env.get, Option.getD_some, ↓reduceIte, Nat.reduceEqDiff, NextH, Env.putO, Env.put, ↓reduceIte, Nat.reduceEqDiff, upd_upd, Int.reduceToNat]
      refine hK _ _ ?_; clear hK K
      refine OW_nil ?_
      try simp only [Ex.thnH, Ex.inBlockH, ↓reduceIte, Nat.reduceEqDiff]
      refine hK5 _ _ ?_; try clear hK5 K5
      refine CW_ret ?_
      try simp only [Ex.thnH, Ex.inBlockH, ↓reduceIte, Nat.reduceEqDiff]
      skip
  · first
    | (exfalso; exact cnA c7; done)
    | skip
      (try simp only [decide_eq_true_eq, decide_eq_false_iff_not, Bool.not_eq_true, Bool.not_eq_false, Bool.and_eq_true, Bool.or_eq_true, Bool.or_eq_false_iff, Bool.not_eq_true, Bool.not_eq_eq_eq_not, Bool.not_true, Bool.not_false] at c7)
      refine CW_skip ?_
      try simp only [Ex.thnH, Ex.inBlockH, ↓reduceIte, Nat.reduceEqDiff]
      refine hK3 _ _ ?_; try clear hK3 K3
      refine CW_seq (fun K6 hK6 => ?_)
      refine CW_region ?_
      refine OW_op rfl (lt_some (by decide)) (fun K hK r => ?_)
      simp only [x_move, ev, Env.get, Option.getD_some, ↓reduceIte, Nat.reduceEqDiff, NextH, Env.putO, Env.put, ↓reduceIte, Nat.reduceEqDiff, upd_upd, Int.reduceToNat]
      refine hK _ _ ?_; clear hK K
      refine OW_op rfl (lt_some (by decide)) (fun K hK r => ?_)
      simp (disch := (first | omega | decide)) only [x_bin, g_int, b_eql, dec_lt_t, dec_lt_f, dec_le_t, dec_le_f, dec_eq_t, dec_eq_f, Bool.not_true, Bool.not_false, ev, Env.get, Option.getD_some, ↓reduceIte, Nat.reduceEqDiff, NextH, Env.putO, Env.put, ↓reduceIte, Nat.reduceEqDiff, upd_upd, Int.reduceToNat]
      refine hK _ _ ?_; clear hK K
      refine OW_op rfl (lt_some (by decide)) (fun K hK r => ?_)
      simp only [x_assign, ev, Env.get, Option.getD_some, ↓reduceIte, Nat.reduceEqDiff, NextH, Env.putO, Env.put, ↓reduceIte, Nat.reduceEqDiff, upd_upd, Int.reduceToNat]
      refine hK _ _ ?_; clear hK K
      refine OW_nil ?_
      try simp only [Ex.thnH, Ex.inBlockH, ↓reduceIte, Nat.reduceEqDiff]
      refine hK6 _ _ ?_; try clear hK6 K6
      refine CW_ret ?_
      try simp only [Ex.thnH, Ex.inBlockH, ↓reduceIte, Nat.reduceEqDiff]
      exact ⟨[_], ⟨rfl, trivial⟩, _, Le.refl _, rfl, rfl⟩

set_option maxRecDepth 100000 in
set_option maxHeartbeats 1000000 in
theorem rBytes_nil (H : Hp) : CallH Try.prog 34 #[.pointer none] H (fun v H' => v = .slice none 0 0 ∧ H' = H) := by
  refine CallH_enter (l := [_]) (rl := [.tmp 2]) (n := 13) Try.func34 rfl rfl rfl rfl rfl ?_
  simp only [envOf, Nat.reduceAdd]
  refine CW_seq (fun K1 hK1 => ?_)
  refine CW_region ?_
  refine OW_op rfl (lt_some (by decide)) (fun K hK r => ?_)
  simp only [x_assign, ev, Env.get, Option.getD_some, ↓reduceIte, Nat.reduceEqDiff, NextH, Env.putO, Env.put, ↓reduceIte, Nat.reduceEqDiff, upd_upd, Int.reduceToNat]
  refine hK _ _ ?_; clear hK K
  refine OW_nil ?_
  try simp only [Ex.thnH, Ex.inBlockH, ↓reduceIte, Nat.reduceEqDiff]
  refine hK1 _ _ ?_; try clear hK1 K1
  refine CW_seq (fun K2 hK2 => ?_)
  refine CW_region ?_
  refine OW_op rfl (lt_some (by decide)) (fun K hK r => ?_)
  simp only [x_move, ev, Env.get, Option.getD_some, ↓reduceIte, Nat.reduceEqDiff, NextH, Env.putO, Env.put, ↓reduceIte, Nat.reduceEqDiff, upd_upd, Int.reduceToNat]
  refine hK _ _ ?_; clear hK K
  refine OW_op rfl (lt_some (by decide)) (fun K hK r => ?_)
  simp only [x_move, ev, Env.get, Option.getD_some, ↓reduceIte, Nat.reduceEqDiff, NextH, Env.putO, Env.put, ↓reduceIte, Nat.reduceEqDiff, upd_upd, Int.reduceToNat]
  refine hK _ _ ?_; clear hK K
  refine OW_op rfl (lt_some (by decide)) (fun K hK r => ?_)
  simp only [x_callF _ bd26, List.map_toArray, List.map_cons, List.map_nil, ev, Env.get, Option.getD_some, ↓reduceIte, Nat.reduceEqDiff, NextH, Env.putO, Env.put, ↓reduceIte, Nat.reduceEqDiff, upd_upd, Int.reduceToNat]
  refine (rCount_nil _).mono ?_
  rintro v H' ⟨rfl, rfl⟩
  try simp only [ev, Env.get, Option.getD_some, ↓reduceIte, Nat.reduceEqDiff, NextH, Env.putO, Env.put, ↓reduceIte, Nat.reduceEqDiff, upd_upd, Int.reduceToNat]
  refine hK _ _ ?_; clear hK K
  refine OW_op rfl (lt_some (by decide)) (fun K hK r => ?_)
  simp only [x_callF _ bd49, List.map_toArray, List.map_cons, List.map_nil, ev, Env.get, Option.getD_some, ↓reduceIte, Nat.reduceEqDiff, NextH, Env.putO, Env.put, ↓reduceIte, Nat.reduceEqDiff, upd_upd, Int.reduceToNat]
  refine (take_nil _ 0).mono ?_
  rintro v H' ⟨rfl, rfl⟩
  try simp only [ev, Env.get, Option.getD_some, ↓reduceIte, Nat.reduceEqDiff, NextH, Env.putO, Env.put, ↓reduceIte, Nat.reduceEqDiff, upd_upd, Int.reduceToNat]
  refine hK _ _ ?_; clear hK K
  refine OW_op rfl (lt_some (by decide)) (fun K hK r => ?_)
  simp only [x_move, ev, Env.get, Option.getD_some, ↓reduceIte, Nat.reduceEqDiff, NextH, Env.putO, Env.put, ↓reduceIte, Nat.reduceEqDiff, upd_upd, Int.reduceToNat]
  refine hK _ _ ?_; clear hK K
  refine OW_op rfl (lt_some (by decide)) (fun K hK r => ?_)
  simp only [x_extract, i_extract, List.getElem?_toArray, List.getElem?_cons_zero, List.getElem?_cons_succ, orF_some, ev, Env.get, Option.getD_some, ↓reduceIte, Nat.reduceEqDiff, NextH, Env.putO, Env.put, ↓reduceIte, Nat.reduceEqDiff, upd_upd, Int.reduceToNat]
  refine hK _ _ ?_; clear hK K
  refine OW_op rfl (lt_some (by decide)) (fun K hK r => ?_)
  simp only [x_extract, i_extract, List.getElem?_toArray, List.getElem?_cons_zero, List.getElem?_cons_succ, orF_some, ev, Env.get, Option.getD_some, ↓reduceIte, Nat.reduceEqDiff, NextH, Env.putO, Env.put, ↓reduceIte, Nat.reduceEqDiff, upd_upd, Int.reduceToNat]
  refine hK _ _ ?_; clear hK K
  refine OW_op rfl (lt_some (by decide)) (fun K hK r => ?_)
  simp only [x_assign, ev, Env.get, Option.getD_some, ↓reduceIte, Nat.reduceEqDiff, NextH, Env.putO, Env.put, ↓reduceIte, Nat.reduceEqDiff, upd_upd, Int.reduceToNat]
  refine hK _ _ ?_; clear hK K
  refine OW_op rfl (lt_some (by decide)) (fun K hK r => ?_)
  simp only [x_assign, ev, Env.get, Option.getD_some, ↓reduceIte, Nat.reduceEqDiff, NextH, Env.putO, Env.put, ↓reduceIte, Nat.reduceEqDiff, upd_upd, Int.reduceToNat]
  refine hK _ _ ?_; clear hK K
  refine OW_nil ?_
  try simp only [Ex.thnH, Ex.inBlockH, ↓reduceIte, Nat.reduceEqDiff]
  refine hK2 _ _ ?_; try clear hK2 K2
  refine CW_seq (fun K3 hK3 => ?_)
  refine CW_region ?_
  refine OW_op rfl (lt_some (by decide)) (fun K hK r => ?_)
  simp only [x_move, ev, Env.get, Option.getD_some, ↓reduceIte, Nat.reduceEqDiff, NextH, Env.putO, Env.put, ↓reduceIte, Nat.reduceEqDiff, upd_upd, Int.reduceToNat]
  refine hK _ _ ?_; clear hK K
  refine OW_op rfl (lt_some (by decide)) (fun K hK r => ?_)
  simp only [x_assign, ev, Env.get, Option.getD_some, ↓reduceIte, Nat.reduceEqDiff, NextH, Env.putO, Env.put, ↓reduceIte, Nat.reduceEqDiff, upd_upd, Int.reduceToNat]
  refine hK _ _ ?_; clear hK K
  refine OW_nil ?_
  try simp only [Ex.thnH, Ex.inBlockH, ↓reduceIte, Nat.reduceEqDiff]
  refine hK3 _ _ ?_; try clear hK3 K3
  refine CW_ret ?_
  try simp only [Ex.thnH, Ex.inBlockH, ↓reduceIte, Nat.reduceEqDiff]
  exact ⟨[_], ⟨rfl, trivial⟩, _, Le.refl _, rfl, rfl⟩

set_option maxRecDepth 100000 in
set_option maxHeartbeats 1000000 in
theorem rText_nil (H : Hp) : CallH Try.prog 36 #[.pointer none] H (fun v H' => v = .string (strOf []) ∧ H' = H) := by
  refine CallH_enter (l := [_]) (rl := [.tmp 2]) (n := 6) Try.func36 rfl rfl rfl rfl rfl ?_
  simp only [envOf, Nat.reduceAdd]
  refine CW_seq (fun K1 hK1 => ?_)
  refine CW_region ?_
  refine OW_op rfl (lt_some (by decide)) (fun K hK r => ?_)
  simp only [x_assign, ev, Env.get, Option.getD_some, ↓reduceIte, Nat.reduceEqDiff, NextH, Env.putO, Env.put, ↓reduceIte, Nat.reduceEqDiff, upd_upd, Int.reduceToNat]
  refine hK _ _ ?_; clear hK K
  refine OW_nil ?_
  try simp only [Ex.thnH, Ex.inBlockH, ↓reduceIte, Nat.reduceEqDiff]
  refine hK1 _ _ ?_; try clear hK1 K1
  refine CW_seq (fun K2 hK2 => ?_)
  refine CW_region ?_
  refine OW_op rfl (lt_some (by decide)) (fun K hK r => ?_)
  simp only [x_move, ev, Env.get, Option.getD_some, ↓reduceIte, Nat.reduceEqDiff, NextH, Env.putO, Env.put, ↓reduceIte, Nat.reduceEqDiff, upd_upd, Int.reduceToNat]
  refine hK _ _ ?_; clear hK K
  refine OW_op rfl (lt_some (by decide)) (fun K hK r => ?_)
  simp only [x_callF _ bd34, List.map_toArray, List.map_cons, List.map_nil, ev, Env.get, Option.getD_some, ↓reduceIte, Nat.reduceEqDiff, NextH, Env.putO, Env.put, ↓reduceIte, Nat.reduceEqDiff, upd_upd, Int.reduceToNat]
  refine (rBytes_nil _).mono ?_
  rintro v H' ⟨rfl, rfl⟩
  try simp only [ev, Env.get, Option.getD_some, ↓reduceIte, Nat.reduceEqDiff, NextH, Env.putO, Env.put, ↓reduceIte, Nat.reduceEqDiff, upd_upd, Int.reduceToNat]
  refine hK _ _ ?_; clear hK K
  refine OW_op rfl (lt_some (by decide)) (fun K hK r => ?_)
  simp only [x_convert, ev, Env.get, Option.getD_some, ↓reduceIte, Nat.reduceEqDiff, NextH, Env.putO, Env.put, ↓reduceIte, Nat.reduceEqDiff, upd_upd, Int.reduceToNat]
  refine Lt_convBS Try.underlying27 Try.underlying5 Try.underlying9 (l := []) (n := 0) ⟨rfl, .inl ⟨_, _, rfl, rfl⟩⟩ ?_
  refine hK _ _ ?_; clear hK K
  refine OW_op rfl (lt_some (by decide)) (fun K hK r => ?_)
  simp only [x_assign, ev, Env.get, Option.getD_some, ↓reduceIte, Nat.reduceEqDiff, NextH, Env.putO, Env.put, ↓reduceIte, Nat.reduceEqDiff, upd_upd, Int.reduceToNat]
  refine hK _ _ ?_; clear hK K
  refine OW_nil ?_
  try simp only [Ex.thnH, Ex.inBlockH, ↓reduceIte, Nat.reduceEqDiff]
  refine hK2 _ _ ?_; try clear hK2 K2
  refine CW_ret ?_
  try simp only [Ex.thnH, Ex.inBlockH, ↓reduceIte, Nat.reduceEqDiff]
  exact ⟨[_], ⟨rfl, trivial⟩, _, Le.refl _, rfl, rfl⟩

set_option maxRecDepth 100000 in
set_option maxHeartbeats 1000000 in
theorem rLeft_nil (H : Hp) : CallH Try.prog 14 #[.pointer none] H (fun v H' => v = .int .i64 0 ∧ H' = H) := by
  refine CallH_enter (l := [_]) (rl := [.tmp 2]) (n := 10) Try.func14 rfl rfl rfl rfl rfl ?_
  simp only [envOf, Nat.reduceAdd]
  refine CW_seq (fun K1 hK1 => ?_)
  refine CW_region ?_
  refine OW_op rfl (lt_some (by decide)) (fun K hK r => ?_)
  simp only [x_assign, ev, Env.get, Option.getD_some, ↓reduceIte, Nat.reduceEqDiff, NextH, Env.putO, Env.put, ↓reduceIte, Nat.reduceEqDiff, upd_upd, Int.reduceToNat]
  refine hK _ _ ?_; clear hK K
  refine OW_nil ?_
  try simp only [Ex.thnH, Ex.inBlockH, ↓reduceIte, Nat.reduceEqDiff]
  refine hK1 _ _ ?_; try clear hK1 K1
  refine CW_seq (fun K2 hK2 => ?_)
  refine CW_seq (fun K3 hK3 => ?_)
  refine CW_region ?_
  refine OW_op rfl (lt_some (by decide)) (fun K hK r => ?_)
  simp only [x_move, ev, Env.get, Option.getD_some, ↓reduceIte, Nat.reduceEqDiff, NextH, Env.putO, Env.put, ↓reduceIte, Nat.reduceEqDiff, upd_upd, Int.reduceToNat]
  refine hK _ _ ?_; clear hK K
  refine OW_op rfl (lt_some (by decide)) (fun K hK r => ?_)
  simp only [x_bin, g_int, g_bool, g_string, g_pointer, g_slice, g_map, g_func, g_nilFunc, g_iface, g_nil_iface, g_nil_r, g_nil_l, ev, Env.get, Option.getD_some, ↓reduceIte, Nat.reduceEqDiff, NextH, Env.putO, Env.put, ↓reduceIte, Nat.reduceEqDiff, upd_upd, Int.reduceToNat]
  rw [e_eql _ _ _ _ (by simp)]
  rw [q_equal]
  first | rw [q_ptr_nil _ _ _ Try.underlying31] | rw [q_nil_ptr _ _ _ Try.underlying31]
  try simp only [ev, Env.get, Option.getD_some, ↓reduceIte, Nat.reduceEqDiff, NextH, Env.putO, Env.put, ↓reduceIte, Nat.reduceEqDiff, upd_upd, Int.reduceToNat]
  refine hK _ _ ?_; clear hK K
  refine OW_nil ?_
  try simp only [Ex.thnH, Ex.inBlockH, ↓reduceIte, Nat.reduceEqDiff]
  refine hK3 _ _ ?_; try clear hK3 K3
  refine CW_cond (fun r => rfl) (fun c4 => ?_) (fun c4 => ?_)
  · first
    | (exfalso; exact cnA c4; done)
    | skip
      (try simp only [decide_eq_true_eq, decide_eq_false_iff_not, Bool.not_eq_true, Bool.not_eq_false, Bool.and_eq_true, Bool.or_eq_true, Bool.or_eq_false_iff, Bool.not_eq_true, Bool.not_eq_eq_eq_not, Bool.not_true, Bool.not_false] at c4)
      refine CW_seq (fun K4 hK4 => ?_)
      refine CW_region ?_
      refine OW_op rfl (lt_some (by decide)) (fun K hK r => ?_)
      simp only [x_assign, ev, Env.get, Option.getD_some, ↓reduceIte, Nat.reduceEqDiff, NextH, Env.putO, Env.put, ↓reduceIte, Nat.reduceEqDiff, upd_upd, Int.reduceToNat]
      refine hK _ _ ?_; clear hK K
      refine OW_nil ?_
      try simp only [Ex.thnH, Ex.inBlockH, ↓reduceIte, Nat.reduceEqDiff]
      refine hK4 _ _ ?_; try clear hK4 K4
      refine CW_ret ?_
      try simp only [Ex.thnH, Ex.inBlockH, ↓reduceIte, Nat.reduceEqDiff]
      exact ⟨[_], ⟨rfl, trivial⟩, _, Le.refl _, rfl, rfl⟩
  · first
    | (exfalso; exact cnA c4; done)
    | skip
      exfalso; simp_all
      refine CW_skip ?_
      try simp only [Ex.thnH, Ex.inBlockH, ↓reduceIte, Nat.reduceEqDiff]
      refine hK2 _ _ ?_; try clear hK2 K2
      refine CW_seq (fun K5 hK5 => ?_)
      refine CW_region ?_
      refine OW_op rfl (lt_some (by decide)) (fun K hK r => ?_)
      simp only [x_move, ev, Env.get, Option.getD_some, ↓reduceIte, Nat.reduceEqDiff, NextH, Env.putO, Env.put, ↓reduceIte, Nat.reduceEqDiff, upd_upd, Int.reduceToNat]
      refine hK _ _ ?_; clear hK K
      refine OW_op rfl (lt_some (by decide)) (fun K hK r => ?_)
      rw [x_nilCheck _ _ rfl]
      simp only [NextH, Env.putO, Env.put, ↓reduceIte, Nat.reduceEqDiff, upd_upd, Int.reduceToNat]
      refine hK _ _ ?_; clear hK K
      refine OW_op rfl (lt_some (by decide)) (fun K hK r => ?_)
      simp only [x_fieldAddr, fa65_0, add_mk, Nat.reduceAdd, Nat.zero_add, ev, Env.get, Option.getD_some, ↓reduceIte, Nat.reduceEqDiff, NextH, Env.putO, Env.put, ↓reduceIte, Nat.reduceEqDiff, upd_upd, Int.reduceToNat]
      skip
      refine hK _ _ ?_; clear hK K
      refine OW_op rfl (lt_some (by decide)) (fun K hK r => ?_)
      simp only [x_load, ev, Env.get, Option.getD_some, ↓reduceIte, Nat.reduceEqDiff, NextH, Env.putO, Env.put, ↓reduceIte, Nat.reduceEqDiff, upd_upd, Int.reduceToNat]
      skip
      refine hK _ _ ?_; clear hK K
      refine OW_op rfl (lt_some (by decide)) (fun K hK r => ?_)
      simp only [x_builtin, l_len, List.map_toArray, List.map_cons, List.map_nil, i_len_slice _ _ Try.underlying27, ev, Env.get, Option.getD_some, ↓reduceIte, Nat.reduceEqDiff, NextH, Env.putO, Env.put, ↓reduceIte, Nat.reduceEqDiff, upd_upd, Int.reduceToNat]
      skip
      refine hK _ _ ?_; clear hK K
      refine OW_op rfl (lt_some (by decide)) (fun K hK r => ?_)
      simp only [x_assign, ev, Env.get, Option.getD_some, ↓reduceIte, Nat.reduceEqDiff, NextH, Env.putO, Env.put, ↓reduceIte, Nat.reduceEqDiff, upd_upd, Int.reduceToNat]
      refine hK _ _ ?_; clear hK K
      refine OW_nil ?_
      try simp only [Ex.thnH, Ex.inBlockH, ↓reduceIte, Nat.reduceEqDiff]
      refine hK5 _ _ ?_; try clear hK5 K5
      refine CW_ret ?_
      try simp only [Ex.thnH, Ex.inBlockH, ↓reduceIte, Nat.reduceEqDiff]
      skip

set_option maxRecDepth 100000 in
set_option maxHeartbeats 1000000 in
theorem rEnd_nil (H : Hp) : CallH Try.prog 15 #[.pointer none] H (fun v H' => v = errV (some 2) ∧ H' = H) := by
  refine CallH_enter (l := [_]) (rl := [.tmp 2]) (n := 20) Try.func15 rfl rfl rfl rfl rfl ?_
  simp only [envOf, Nat.reduceAdd]
  refine CW_seq (fun K1 hK1 => ?_)
  refine CW_region ?_
  refine OW_op rfl (lt_some (by decide)) (fun K hK r => ?_)
  simp only [x_assign, ev, Env.get, Option.getD_some, ↓reduceIte, Nat.reduceEqDiff, NextH, Env.putO, Env.put, ↓reduceIte, Nat.reduceEqDiff, upd_upd, Int.reduceToNat]
  refine hK _ _ ?_; clear hK K
  refine OW_nil ?_
  try simp only [Ex.thnH, Ex.inBlockH, ↓reduceIte, Nat.reduceEqDiff]
  refine hK1 _ _ ?_; try clear hK1 K1
  refine CW_seq (fun K2 hK2 => ?_)
  refine CW_seq (fun K3 hK3 => ?_)
  refine CW_region ?_
  refine OW_op rfl (lt_some (by decide)) (fun K hK r => ?_)
  simp only [x_move, ev, Env.get, Option.getD_some, ↓reduceIte, Nat.reduceEqDiff, NextH, Env.putO, Env.put, ↓reduceIte, Nat.reduceEqDiff, upd_upd, Int.reduceToNat]
  refine hK _ _ ?_; clear hK K
  refine OW_op rfl (lt_some (by decide)) (fun K hK r => ?_)
  simp only [x_bin, g_int, g_bool, g_string, g_pointer, g_slice, g_map, g_func, g_nilFunc, g_iface, g_nil_iface, g_nil_r, g_nil_l, ev, Env.get, Option.getD_some, ↓reduceIte, Nat.reduceEqDiff, NextH, Env.putO, Env.put, ↓reduceIte, Nat.reduceEqDiff, upd_upd, Int.reduceToNat]
  rw [e_eql _ _ _ _ (by simp)]
  rw [q_equal]
  first | rw [q_ptr_nil _ _ _ Try.underlying31] | rw [q_nil_ptr _ _ _ Try.underlying31]
  try simp only [ev, Env.get, Option.getD_some, ↓reduceIte, Nat.reduceEqDiff, NextH, Env.putO, Env.put, ↓reduceIte, Nat.reduceEqDiff, upd_upd, Int.reduceToNat]
  refine hK _ _ ?_; clear hK K
  refine OW_op rfl (lt_some (by decide)) (fun K hK r => ?_)
  simp only [x_move, ev, Env.get, Option.getD_some, ↓reduceIte, Nat.reduceEqDiff, NextH, Env.putO, Env.put, ↓reduceIte, Nat.reduceEqDiff, upd_upd, Int.reduceToNat]
  refine hK _ _ ?_; clear hK K
  (first | refine OW_split (d := 5) rfl (fun g5 => ?_) (fun g5 => ?_) | skip)
  all_goals try (exfalso; exact cnA g5)
  all_goals (try simp only [decide_eq_true_eq, decide_eq_false_iff_not, Bool.not_eq_true, Bool.not_eq_false, Bool.and_eq_true, Bool.or_eq_true, Bool.or_eq_false_iff, Bool.not_eq_true, Bool.not_eq_eq_eq_not, Bool.not_true, Bool.not_false] at g5)
  all_goals
    try simp only [NextH, Env.putO, Env.put, ↓reduceIte, Nat.reduceEqDiff, upd_upd, Int.reduceToNat]
    first
    | refine OW_guardT rfl (lt_some (by decide)) rfl (fun K hK r => ?_)
      simp only [x_move, ev, Env.get, Option.getD_some, ↓reduceIte, Nat.reduceEqDiff, NextH, Env.putO, Env.put, ↓reduceIte, Nat.reduceEqDiff, upd_upd, Int.reduceToNat]
      refine hK _ _ ?_; clear hK K
    | refine OW_guardF rfl (lt_some (by decide)) rfl ?_
      simp only [NextH, Env.putO, Env.put, ↓reduceIte, Nat.reduceEqDiff, upd_upd, Int.reduceToNat]
    first
    | refine OW_guardT rfl (lt_some (by decide)) rfl (fun K hK r => ?_)
      rw [x_nilCheck _ _ rfl]
      simp only [NextH, Env.putO, Env.put, ↓reduceIte, Nat.reduceEqDiff, upd_upd, Int.reduceToNat]
      refine hK _ _ ?_; clear hK K
    | refine OW_guardF rfl (lt_some (by decide)) rfl ?_
      simp only [NextH, Env.putO, Env.put, ↓reduceIte, Nat.reduceEqDiff, upd_upd, Int.reduceToNat]
    first
    | refine OW_guardT rfl (lt_some (by decide)) rfl (fun K hK r => ?_)
      simp only [x_fieldAddr, fa65_1, add_mk, Nat.reduceAdd, Nat.zero_add, ev, Env.get, Option.getD_some, ↓reduceIte, Nat.reduceEqDiff, NextH, Env.putO, Env.put, ↓reduceIte, Nat.reduceEqDiff, upd_upd, Int.reduceToNat]
      refine hK _ _ ?_; clear hK K
    | refine OW_guardF rfl (lt_some (by decide)) rfl ?_
      simp only [NextH, Env.putO, Env.put, ↓reduceIte, Nat.reduceEqDiff, upd_upd, Int.reduceToNat]
    first
    | refine OW_guardT rfl (lt_some (by decide)) rfl (fun K hK r => ?_)
      simp only [x_load, ev, Env.get, Option.getD_some, ↓reduceIte, Nat.reduceEqDiff, NextH, Env.putO, Env.put, ↓reduceIte, Nat.reduceEqDiff, upd_upd, Int.reduceToNat]
      refine Lt_loadAt1 Try.underlying4 rfl hbA ldA ?_
      try simp only [ev, Env.get, Option.getD_some, ↓reduceIte, Nat.reduceEqDiff, NextH, Env.putO, Env.put, ↓reduceIte, Nat.reduceEqDiff, upd_upd, Int.reduceToNat]
      refine hK _ _ ?_; clear hK K
    | refine OW_guardF rfl (lt_some (by decide)) rfl ?_
      simp only [NextH, Env.putO, Env.put, ↓reduceIte, Nat.reduceEqDiff, upd_upd, Int.reduceToNat]
    refine OW_op rfl (lt_some (by decide)) (fun K hK r => ?_)
    simp only [x_pick, l_asBool, HL.ite_bool, if_true, if_false, Bool.false_eq_true, ev, Env.get, Option.getD_some, ↓reduceIte, Nat.reduceEqDiff, NextH, Env.putO, Env.put, ↓reduceIte, Nat.reduceEqDiff, upd_upd, Int.reduceToNat]
    refine hK _ _ ?_; clear hK K
    refine OW_op rfl (lt_some (by decide)) (fun K hK r => ?_)
    simp only [x_move, ev, Env.get, Option.getD_some, ↓reduceIte, Nat.reduceEqDiff, NextH, Env.putO, Env.put, ↓reduceIte, Nat.reduceEqDiff, upd_upd, Int.reduceToNat]
    refine hK _ _ ?_; clear hK K
    (first | refine OW_split (d := 11) rfl (fun g11 => ?_) (fun g11 => ?_) | skip)
    all_goals try (exfalso; exact cnA g11)
    all_goals (try simp only [decide_eq_true_eq, decide_eq_false_iff_not, Bool.not_eq_true, Bool.not_eq_false, Bool.and_eq_true, Bool.or_eq_true, Bool.or_eq_false_iff, Bool.not_eq_true, Bool.not_eq_eq_eq_not, Bool.not_true, Bool.not_false] at g11)
    all_goals
      try simp only [NextH, Env.putO, Env.put, ↓reduceIte, Nat.reduceEqDiff, upd_upd, Int.reduceToNat]
      first
      | refine OW_guardT rfl (lt_some (by decide)) rfl (fun K hK r => ?_)
        simp only [x_move, ev, Env.get, Option.getD_some, ↓reduceIte, Nat.reduceEqDiff, NextH, Env.putO, Env.put, ↓reduceIte, Nat.reduceEqDiff, upd_upd, Int.reduceToNat]
        refine hK _ _ ?_; clear hK K
      | refine OW_guardF rfl (lt_some (by decide)) rfl ?_
        simp only [NextH, Env.putO, Env.put, ↓reduceIte, Nat.reduceEqDiff, upd_upd, Int.reduceToNat]
      first
      | refine OW_guardT rfl (lt_some (by decide)) rfl (fun K hK r => ?_)
        rw [x_nilCheck _ _ rfl]
        simp only [NextH, Env.putO, Env.put, ↓reduceIte, Nat.reduceEqDiff, upd_upd, Int.reduceToNat]
        refine hK _ _ ?_; clear hK K
      | refine OW_guardF rfl (lt_some (by decide)) rfl ?_
        simp only [NextH, Env.putO, Env.put, ↓reduceIte, Nat.reduceEqDiff, upd_upd, Int.reduceToNat]
      first
      | refine OW_guardT rfl (lt_some (by decide)) rfl (fun K hK r => ?_)
        simp only [x_fieldAddr, fa65_0, add_mk, Nat.reduceAdd, Nat.zero_add, ev, Env.get, Option.getD_some, ↓reduceIte, Nat.reduceEqDiff, NextH, Env.putO, Env.put, ↓reduceIte, Nat.reduceEqDiff, upd_upd, Int.reduceToNat]
        refine hK _ _ ?_; clear hK K
      | refine OW_guardF rfl (lt_some (by decide)) rfl ?_
        simp only [NextH, Env.putO, Env.put, ↓reduceIte, Nat.reduceEqDiff, upd_upd, Int.reduceToNat]
      first
      | refine OW_guardT rfl (lt_some (by decide)) rfl (fun K hK r => ?_)
        simp only [x_load, ev, Env.get, Option.getD_some, ↓reduceIte, Nat.reduceEqDiff, NextH, Env.putO, Env.put, ↓reduceIte, Nat.reduceEqDiff, upd_upd, Int.reduceToNat]
        refine Lt_loadAt1 Try.underlying27 rfl hbA ldA ?_
        try simp only [ev, Env.get, Option.getD_some, ↓reduceIte, Nat.reduceEqDiff, NextH, Env.putO, Env.put, ↓reduceIte, Nat.reduceEqDiff, upd_upd, Int.reduceToNat]
        refine hK _ _ ?_; clear hK K
      | refine OW_guardF rfl (lt_some (by decide)) rfl ?_
        simp only [NextH, Env.putO, Env.put, ↓reduceIte, Nat.reduceEqDiff, upd_upd, Int.reduceToNat]
      first
      | refine OW_guardT rfl (lt_some (by decide)) rfl (fun K hK r => ?_)
        simp only [x_builtin, l_len, List.map_toArray, List.map_cons, List.map_nil, i_len_slice _ _ Try.underlying27, ev, Env.get, Option.getD_some, ↓reduceIte, Nat.reduceEqDiff, NextH, Env.putO, Env.put, ↓reduceIte, Nat.reduceEqDiff, upd_upd, Int.reduceToNat]
        refine hK _ _ ?_; clear hK K
      | refine OW_guardF rfl (lt_some (by decide)) rfl ?_
        simp only [NextH, Env.putO, Env.put, ↓reduceIte, Nat.reduceEqDiff, upd_upd, Int.reduceToNat]
      first
      | refine OW_guardT rfl (lt_some (by decide)) rfl (fun K hK r => ?_)
        simp (disch := (first | omega | decide)) only [x_bin, g_int, b_gtr, dec_lt_t, dec_lt_f, dec_le_t, dec_le_f, dec_eq_t, dec_eq_f, Bool.not_true, Bool.not_false, ev, Env.get, Option.getD_some, ↓reduceIte, Nat.reduceEqDiff, NextH, Env.putO, Env.put, ↓reduceIte, Nat.reduceEqDiff, upd_upd, Int.reduceToNat]
        refine hK _ _ ?_; clear hK K
      | refine OW_guardF rfl (lt_some (by decide)) rfl ?_
        simp only [NextH, Env.putO, Env.put, ↓reduceIte, Nat.reduceEqDiff, upd_upd, Int.reduceToNat]
      refine OW_op rfl (lt_some (by decide)) (fun K hK r => ?_)
      simp only [x_pick, l_asBool, HL.ite_bool, if_true, if_false, Bool.false_eq_true, ev, Env.get, Option.getD_some, ↓reduceIte, Nat.reduceEqDiff, NextH, Env.putO, Env.put, ↓reduceIte, Nat.reduceEqDiff, upd_upd, Int.reduceToNat]
      refine hK _ _ ?_; clear hK K
      refine OW_nil ?_
      try simp only [Ex.thnH, Ex.inBlockH, ↓reduceIte, Nat.reduceEqDiff]
      refine hK3 _ _ ?_; try clear hK3 K3
      refine CW_cond (fun r => rfl) (fun c18 => ?_) (fun c18 => ?_)
      · first
        | (exfalso; exact cnA c18; done)
        | skip
          (try simp only [decide_eq_true_eq, decide_eq_false_iff_not, Bool.not_eq_true, Bool.not_eq_false, Bool.and_eq_true, Bool.or_eq_true, Bool.or_eq_false_iff, Bool.not_eq_true, Bool.not_eq_eq_eq_not, Bool.not_true, Bool.not_false] at c18)
          refine CW_seq (fun K4 hK4 => ?_)
          refine CW_region ?_
          refine OW_op rfl (lt_some (by decide)) (fun K hK r => ?_)
          simp only [x_makeInterface, i_makeInterface, Try.underlying43, orF_some, ev, Env.get, Option.getD_some, ↓reduceIte, Nat.reduceEqDiff, NextH, Env.putO, Env.put, ↓reduceIte, Nat.reduceEqDiff, upd_upd, Int.reduceToNat]
          refine hK _ _ ?_; clear hK K
          refine OW_op rfl (lt_some (by decide)) (fun K hK r => ?_)
          simp only [x_assign, ev, Env.get, Option.getD_some, ↓reduceIte, Nat.reduceEqDiff, NextH, Env.putO, Env.put, ↓reduceIte, Nat.reduceEqDiff, upd_upd, Int.reduceToNat]
          refine hK _ _ ?_; clear hK K
          refine OW_nil ?_
          try simp only [Ex.thnH, Ex.inBlockH, ↓reduceIte, Nat.reduceEqDiff]
          refine hK4 _ _ ?_; try clear hK4 K4
          refine CW_ret ?_
          try simp only [Ex.thnH, Ex.inBlockH, ↓reduceIte, Nat.reduceEqDiff]
          exact ⟨[_], ⟨rfl, trivial⟩, _, Le.refl _, rfl, rfl⟩
      · first
        | (exfalso; exact cnA c18; done)
        | skip
          exfalso; simp_all
          refine CW_skip ?_
          try simp only [Ex.thnH, Ex.inBlockH, ↓reduceIte, Nat.reduceEqDiff]
          refine hK2 _ _ ?_; try clear hK2 K2
          refine CW_seq (fun K5 hK5 => ?_)
          refine CW_region ?_
          refine OW_op rfl (lt_some (by decide)) (fun K hK r => ?_)
          simp only [x_assign, ev, Env.get, Option.getD_some, ↓reduceIte, Nat.reduceEqDiff, NextH, Env.putO, Env.put, ↓reduceIte, Nat.reduceEqDiff, upd_upd, Int.reduceToNat]
          refine hK _ _ ?_; clear hK K
          refine OW_nil ?_
          try simp only [Ex.thnH, Ex.inBlockH, ↓reduceIte, Nat.reduceEqDiff]
          refine hK5 _ _ ?_; try clear hK5 K5
          refine CW_ret ?_
          try simp only [Ex.thnH, Ex.inBlockH, ↓reduceIte, Nat.reduceEqDiff]
          skip

set_option maxRecDepth 100000 in
set_option maxHeartbeats 1000000 in
theorem read_none (H0 H : Hp) (pm : Nat) (hrm : RM H0 H pm [] true) (hle : Le H0 H) (hm0 : H0 pm = none) (k : Int) : CallH Try.prog 13 #[.pointer none, .pointer (some ⟨pm, 0, none⟩), .int .i64 k] H (fun v H' => v = .bool true ∧ RM H0 H' pm [] true ∧ KeepBut H pm H') := by
  refine CallH_enter (l := [_, _, _]) (rl := [.tmp 6]) (n := 55) Try.func13 rfl rfl rfl rfl rfl ?_
  simp only [envOf, Nat.reduceAdd]
  have hB0 : ByteL [] := fun x hx => by cases hx
  refine CW_seq (fun K1 hK1 => ?_)
  refine CW_region ?_
  refine OW_op rfl (lt_some (by decide)) (fun K hK r => ?_)
  simp only [x_assign, ev, Env.get, Option.getD_some, ↓reduceIte, Nat.reduceEqDiff, NextH, Env.putO, Env.put, ↓reduceIte, Nat.reduceEqDiff, upd_upd, Int.reduceToNat]
  refine hK _ _ ?_; clear hK K
  refine OW_nil ?_
  try simp only [Ex.thnH, Ex.inBlockH, ↓reduceIte, Nat.reduceEqDiff]
  refine hK1 _ _ ?_; try clear hK1 K1
  refine CW_seq (fun K2 hK2 => ?_)
  refine CW_seq (fun K3 hK3 => ?_)
  refine CW_region ?_
  refine OW_op rfl (lt_some (by decide)) (fun K hK r => ?_)
  simp only [x_move, ev, Env.get, Option.getD_some, ↓reduceIte, Nat.reduceEqDiff, NextH, Env.putO, Env.put, ↓reduceIte, Nat.reduceEqDiff, upd_upd, Int.reduceToNat]
  refine hK _ _ ?_; clear hK K
  refine OW_nil ?_
  try simp only [Ex.thnH, Ex.inBlockH, ↓reduceIte, Nat.reduceEqDiff]
  refine hK3 _ _ ?_; try clear hK3 K3
  refine CW_block ?_
  refine CW_seq (fun K4 hK4 => ?_)
  refine CW_region ?_
  refine OW_op rfl (lt_some (by decide)) (fun K hK r => ?_)
  simp (disch := (first | omega | decide)) only [x_bin, g_int, b_eql, dec_lt_t, dec_lt_f, dec_le_t, dec_le_f, dec_eq_t, dec_eq_f, Bool.not_true, Bool.not_false, ev, Env.get, Option.getD_some, ↓reduceIte, Nat.reduceEqDiff, NextH, Env.putO, Env.put, ↓reduceIte, Nat.reduceEqDiff, upd_upd, Int.reduceToNat]
  refine hK _ _ ?_; clear hK K
  refine OW_op rfl (lt_some (by decide)) (fun K hK r => ?_)
  simp only [x_assign, ev, Env.get, Option.getD_some, ↓reduceIte, Nat.reduceEqDiff, NextH, Env.putO, Env.put, ↓reduceIte, Nat.reduceEqDiff, upd_upd, Int.reduceToNat]
  refine hK _ _ ?_; clear hK K
  refine OW_nil ?_
  try simp only [Ex.thnH, Ex.inBlockH, ↓reduceIte, Nat.reduceEqDiff]
  refine hK4 _ _ ?_; try clear hK4 K4
  refine CW_cond (fun r => rfl) (fun c10 => ?_) (fun c10 => ?_)
  · first
    | (exfalso; exact cnA c10; done)
    | skip
      (try simp only [decide_eq_true_eq, decide_eq_false_iff_not, Bool.not_eq_true, Bool.not_eq_false, Bool.and_eq_true, Bool.or_eq_true, Bool.or_eq_false_iff, Bool.not_eq_true, Bool.not_eq_eq_eq_not, Bool.not_true, Bool.not_false] at c10)
      refine CW_seq (fun K5 hK5 => ?_)
      refine CW_region ?_
      refine OW_op rfl (lt_some (by decide)) (fun K hK r => ?_)
      simp only [x_move, ev, Env.get, Option.getD_some, ↓reduceIte, Nat.reduceEqDiff, NextH, Env.putO, Env.put, ↓reduceIte, Nat.reduceEqDiff, upd_upd, Int.reduceToNat]
      refine hK _ _ ?_; clear hK K
      refine OW_op rfl (lt_some (by decide)) (fun K hK r => ?_)
      simp only [x_callF _ bd29, List.map_toArray, List.map_cons, List.map_nil, ev, Env.get, Option.getD_some, ↓reduceIte, Nat.reduceEqDiff, NextH, Env.putO, Env.put, ↓reduceIte, Nat.reduceEqDiff, upd_upd, Int.reduceToNat]
      refine (rNum_nil _).mono ?_
      rintro v H' ⟨rfl, rfl⟩
      try simp only [ev, Env.get, Option.getD_some, ↓reduceIte, Nat.reduceEqDiff, NextH, Env.putO, Env.put, ↓reduceIte, Nat.reduceEqDiff, upd_upd, Int.reduceToNat]
      refine hK _ _ ?_; clear hK K
      refine OW_op rfl (lt_some (by decide)) (fun K hK r => ?_)
      simp only [x_move, ev, Env.get, Option.getD_some, ↓reduceIte, Nat.reduceEqDiff, NextH, Env.putO, Env.put, ↓reduceIte, Nat.reduceEqDiff, upd_upd, Int.reduceToNat]
      refine hK _ _ ?_; clear hK K
      refine OW_op rfl (lt_some (by decide)) (fun K hK r => ?_)
      simp only [x_callF _ bd31, List.map_toArray, List.map_cons, List.map_nil, ev, Env.get, Option.getD_some, ↓reduceIte, Nat.reduceEqDiff, NextH, Env.putO, Env.put, ↓reduceIte, Nat.reduceEqDiff, upd_upd, Int.reduceToNat]
      refine (mNum_ok H0 _ pm [] true hrm hle hm0 hB0 (by simp)).mono ?_
      rintro v15 H15 ⟨res, hres, rfl, hm2, hk2⟩
      obtain rfl : res = none := hres.1 rfl
      rw [show unzig (rcN none) = 0 by decide]
      try simp only [ev, Env.get, Option.getD_some, ↓reduceIte, Nat.reduceEqDiff, NextH, Env.putO, Env.put, ↓reduceIte, Nat.reduceEqDiff, upd_upd, Int.reduceToNat]
      refine hK _ _ ?_; clear hK K
      refine OW_op rfl (lt_some (by decide)) (fun K hK r => ?_)
      simp (disch := (first | omega | decide)) only [x_bin, g_int, b_eql, dec_lt_t, dec_lt_f, dec_le_t, dec_le_f, dec_eq_t, dec_eq_f, Bool.not_true, Bool.not_false, ev, Env.get, Option.getD_some, ↓reduceIte, Nat.reduceEqDiff, NextH, Env.putO, Env.put, ↓reduceIte, Nat.reduceEqDiff, upd_upd, Int.reduceToNat]
      refine hK _ _ ?_; clear hK K
      refine OW_op rfl (lt_some (by decide)) (fun K hK r => ?_)
      simp only [x_assign, ev, Env.get, Option.getD_some, ↓reduceIte, Nat.reduceEqDiff, NextH, Env.putO, Env.put, ↓reduceIte, Nat.reduceEqDiff, upd_upd, Int.reduceToNat]
      refine hK _ _ ?_; clear hK K
      refine OW_nil ?_
      try simp only [Ex.thnH, Ex.inBlockH, ↓reduceIte, Nat.reduceEqDiff]
      refine hK5 _ _ ?_; try clear hK5 K5
      refine CW_ret ?_
      try simp only [Ex.thnH, Ex.inBlockH, ↓reduceIte, Nat.reduceEqDiff]
      refine ⟨[_], ⟨rfl, trivial⟩, _, Le.refl _, by simp [retOf], hm2, hk2⟩
  · first
    | (exfalso; exact cnA c10; done)
    | skip
      (try simp only [decide_eq_true_eq, decide_eq_false_iff_not, Bool.not_eq_true, Bool.not_eq_false, Bool.and_eq_true, Bool.or_eq_true, Bool.or_eq_false_iff, Bool.not_eq_true, Bool.not_eq_eq_eq_not, Bool.not_true, Bool.not_false] at c10)
      refine CW_seq (fun K6 hK6 => ?_)
      refine CW_region ?_
      refine OW_op rfl (lt_some (by decide)) (fun K hK r => ?_)
      simp (disch := (first | omega | decide)) only [x_bin, g_int, b_eql, dec_lt_t, dec_lt_f, dec_le_t, dec_le_f, dec_eq_t, dec_eq_f, Bool.not_true, Bool.not_false, ev, Env.get, Option.getD_some, ↓reduceIte, Nat.reduceEqDiff, NextH, Env.putO, Env.put, ↓reduceIte, Nat.reduceEqDiff, upd_upd, Int.reduceToNat]
      refine hK _ _ ?_; clear hK K
      refine OW_op rfl (lt_some (by decide)) (fun K hK r => ?_)
      simp only [x_assign, ev, Env.get, Option.getD_some, ↓reduceIte, Nat.reduceEqDiff, NextH, Env.putO, Env.put, ↓reduceIte, Nat.reduceEqDiff, upd_upd, Int.reduceToNat]
      refine hK _ _ ?_; clear hK K
      refine OW_nil ?_
      try simp only [Ex.thnH, Ex.inBlockH, ↓reduceIte, Nat.reduceEqDiff]
      refine hK6 _ _ ?_; try clear hK6 K6
      refine CW_cond (fun r => rfl) (fun c17 => ?_) (fun c17 => ?_)
      · first
        | (exfalso; exact cnA c17; done)
        | skip
          (try simp only [decide_eq_true_eq, decide_eq_false_iff_not, Bool.not_eq_true, Bool.not_eq_false, Bool.and_eq_true, Bool.or_eq_true, Bool.or_eq_false_iff, Bool.not_eq_true, Bool.not_eq_eq_eq_not, Bool.not_true, Bool.not_false] at c17)
          refine CW_seq (fun K7 hK7 => ?_)
          refine CW_region ?_
          refine OW_op rfl (lt_some (by decide)) (fun K hK r => ?_)
          simp only [x_move, ev, Env.get, Option.getD_some, ↓reduceIte, Nat.reduceEqDiff, NextH, Env.putO, Env.put, ↓reduceIte, Nat.reduceEqDiff, upd_upd, Int.reduceToNat]
          refine hK _ _ ?_; clear hK K
          refine OW_op rfl (lt_some (by decide)) (fun K hK r => ?_)
          simp only [x_callF _ bd32, List.map_toArray, List.map_cons, List.map_nil, ev, Env.get, Option.getD_some, ↓reduceIte, Nat.reduceEqDiff, NextH, Env.putO, Env.put, ↓reduceIte, Nat.reduceEqDiff, upd_upd, Int.reduceToNat]
          refine (rFlag_nil _).mono ?_
          rintro v H' ⟨rfl, rfl⟩
          try simp only [ev, Env.get, Option.getD_some, ↓reduceIte, Nat.reduceEqDiff, NextH, Env.putO, Env.put, ↓reduceIte, Nat.reduceEqDiff, upd_upd, Int.reduceToNat]
          refine hK _ _ ?_; clear hK K
          refine OW_op rfl (lt_some (by decide)) (fun K hK r => ?_)
          simp only [x_move, ev, Env.get, Option.getD_some, ↓reduceIte, Nat.reduceEqDiff, NextH, Env.putO, Env.put, ↓reduceIte, Nat.reduceEqDiff, upd_upd, Int.reduceToNat]
          refine hK _ _ ?_; clear hK K
          refine OW_op rfl (lt_some (by decide)) (fun K hK r => ?_)
          simp only [x_callF _ bd33, List.map_toArray, List.map_cons, List.map_nil, ev, Env.get, Option.getD_some, ↓reduceIte, Nat.reduceEqDiff, NextH, Env.putO, Env.put, ↓reduceIte, Nat.reduceEqDiff, upd_upd, Int.reduceToNat]
          refine (mFlag_ok H0 _ pm [] true hrm hle hm0 hB0 (by simp)).mono ?_
          rintro v22 H22 ⟨rfl, hm2, hk2⟩
          rw [show flV [] = false by decide]
          rw [show flL [] = [] by decide, show flB [] = true by decide] at hm2
          try simp only [ev, Env.get, Option.getD_some, ↓reduceIte, Nat.reduceEqDiff, NextH, Env.putO, Env.put, ↓reduceIte, Nat.reduceEqDiff, upd_upd, Int.reduceToNat]
          refine hK _ _ ?_; clear hK K
          refine OW_op rfl (lt_some (by decide)) (fun K hK r => ?_)
          simp only [x_bin, g_int, g_bool, g_string, g_pointer, g_slice, g_map, g_func, g_nilFunc, g_iface, g_nil_iface, g_nil_r, g_nil_l, ev, Env.get, Option.getD_some, ↓reduceIte, Nat.reduceEqDiff, NextH, Env.putO, Env.put, ↓reduceIte, Nat.reduceEqDiff, upd_upd, Int.reduceToNat]
          rw [e_eql _ _ _ _ (by simp)]
          rw [q_equal, q_bool _ _ Try.underlying4]
          try simp only [ev, Env.get, Option.getD_some, ↓reduceIte, Nat.reduceEqDiff, NextH, Env.putO, Env.put, ↓reduceIte, Nat.reduceEqDiff, upd_upd, Int.reduceToNat]
          refine hK _ _ ?_; clear hK K
          refine OW_op rfl (lt_some (by decide)) (fun K hK r => ?_)
          simp only [x_assign, ev, Env.get, Option.getD_some, ↓reduceIte, Nat.reduceEqDiff, NextH, Env.putO, Env.put, ↓reduceIte, Nat.reduceEqDiff, upd_upd, Int.reduceToNat]
          refine hK _ _ ?_; clear hK K
          refine OW_nil ?_
          try simp only [Ex.thnH, Ex.inBlockH, ↓reduceIte, Nat.reduceEqDiff]
          refine hK7 _ _ ?_; try clear hK7 K7
          refine CW_ret ?_
          try simp only [Ex.thnH, Ex.inBlockH, ↓reduceIte, Nat.reduceEqDiff]
          refine ⟨[_], ⟨rfl, trivial⟩, _, Le.refl _, by simp [retOf], hm2, hk2⟩
      · first
        | (exfalso; exact cnA c17; done)
        | skip
          (try simp only [decide_eq_true_eq, decide_eq_false_iff_not, Bool.not_eq_true, Bool.not_eq_false, Bool.and_eq_true, Bool.or_eq_true, Bool.or_eq_false_iff, Bool.not_eq_true, Bool.not_eq_eq_eq_not, Bool.not_true, Bool.not_false] at c17)
          refine CW_seq (fun K8 hK8 => ?_)
          refine CW_region ?_
          refine OW_op rfl (lt_some (by decide)) (fun K hK r => ?_)
          simp (disch := (first | omega | decide)) only [x_bin, g_int, b_eql, dec_lt_t, dec_lt_f, dec_le_t, dec_le_f, dec_eq_t, dec_eq_f, Bool.not_true, Bool.not_false, ev, Env.get, Option.getD_some, ↓reduceIte, Nat.reduceEqDiff, NextH, Env.putO, Env.put, ↓reduceIte, Nat.reduceEqDiff, upd_upd, Int.reduceToNat]
          refine hK _ _ ?_; clear hK K
          refine OW_op rfl (lt_some (by decide)) (fun K hK r => ?_)
          simp only [x_assign, ev, Env.get, Option.getD_some, ↓reduceIte, Nat.reduceEqDiff, NextH, Env.putO, Env.put, ↓reduceIte, Nat.reduceEqDiff, upd_upd, Int.reduceToNat]
          refine hK _ _ ?_; clear hK K
          refine OW_nil ?_
          try simp only [Ex.thnH, Ex.inBlockH, ↓reduceIte, Nat.reduceEqDiff]
          refine hK8 _ _ ?_; try clear hK8 K8
          refine CW_cond (fun r => rfl) (fun c24 => ?_) (fun c24 => ?_)
          · first
            | (exfalso; exact cnA c24; done)
            | skip
              (try simp only [decide_eq_true_eq, decide_eq_false_iff_not, Bool.not_eq_true, Bool.not_eq_false, Bool.and_eq_true, Bool.or_eq_true, Bool.or_eq_false_iff, Bool.not_eq_true, Bool.not_eq_eq_eq_not, Bool.not_true, Bool.not_false] at c24)
              refine CW_seq (fun K9 hK9 => ?_)
              refine CW_region ?_
              refine OW_op rfl (lt_some (by decide)) (fun K hK r => ?_)
              simp only [x_move, ev, Env.get, Option.getD_some, ↓reduceIte, Nat.reduceEqDiff, NextH, Env.putO, Env.put, ↓reduceIte, Nat.reduceEqDiff, upd_upd, Int.reduceToNat]
              refine hK _ _ ?_; clear hK K
              refine OW_op rfl (lt_some (by decide)) (fun K hK r => ?_)
              simp only [x_callF _ bd34, List.map_toArray, List.map_cons, List.map_nil, ev, Env.get, Option.getD_some, ↓reduceIte, Nat.reduceEqDiff, NextH, Env.putO, Env.put, ↓reduceIte, Nat.reduceEqDiff, upd_upd, Int.reduceToNat]
              refine (rBytes_nil _).mono ?_
              rintro v H' ⟨rfl, rfl⟩
              try simp only [ev, Env.get, Option.getD_some, ↓reduceIte, Nat.reduceEqDiff, NextH, Env.putO, Env.put, ↓reduceIte, Nat.reduceEqDiff, upd_upd, Int.reduceToNat]
              refine hK _ _ ?_; clear hK K
              refine OW_op rfl (lt_some (by decide)) (fun K hK r => ?_)
              simp only [x_assign, ev, Env.get, Option.getD_some, ↓reduceIte, Nat.reduceEqDiff, NextH, Env.putO, Env.put, ↓reduceIte, Nat.reduceEqDiff, upd_upd, Int.reduceToNat]
              refine hK _ _ ?_; clear hK K
              refine OW_nil ?_
              try simp only [Ex.thnH, Ex.inBlockH, ↓reduceIte, Nat.reduceEqDiff]
              refine hK9 _ _ ?_; try clear hK9 K9
              refine CW_seq (fun K10 hK10 => ?_)
              refine CW_region ?_
              refine OW_op rfl (lt_some (by decide)) (fun K hK r => ?_)
              simp only [x_move, ev, Env.get, Option.getD_some, ↓reduceIte, Nat.reduceEqDiff, NextH, Env.putO, Env.put, ↓reduceIte, Nat.reduceEqDiff, upd_upd, Int.reduceToNat]
              refine hK _ _ ?_; clear hK K
              refine OW_op rfl (lt_some (by decide)) (fun K hK r => ?_)
              simp only [x_move, ev, Env.get, Option.getD_some, ↓reduceIte, Nat.reduceEqDiff, NextH, Env.putO, Env.put, ↓reduceIte, Nat.reduceEqDiff, upd_upd, Int.reduceToNat]
              refine hK _ _ ?_; clear hK K
              refine OW_op rfl (lt_some (by decide)) (fun K hK r => ?_)
              simp only [x_callF _ bd35, List.map_toArray, List.map_cons, List.map_nil, ev, Env.get, Option.getD_some, ↓reduceIte, Nat.reduceEqDiff, NextH, Env.putO, Env.put, ↓reduceIte, Nat.reduceEqDiff, upd_upd, Int.reduceToNat]
              refine (mBytes_ok H0 _ pm [] true hrm hle hm0 hB0 (by simp)).mono ?_
              rintro v30 H30 ⟨res, hres, hv2, hm2, hk2⟩
              obtain rfl : res = none := hres.1 rfl
              try simp only [ev, Env.get, Option.getD_some, ↓reduceIte, Nat.reduceEqDiff, NextH, Env.putO, Env.put, ↓reduceIte, Nat.reduceEqDiff, upd_upd, Int.reduceToNat]
              refine hK _ _ ?_; clear hK K
              refine OW_op rfl (lt_some (by decide)) (fun K hK r => ?_)
              simp only [x_callF _ bd24, List.map_toArray, List.map_cons, List.map_nil, ev, Env.get, Option.getD_some, ↓reduceIte, Nat.reduceEqDiff, NextH, Env.putO, Env.put, ↓reduceIte, Nat.reduceEqDiff, upd_upd, Int.reduceToNat]
              refine (num_Same _ _ _ 0 _ [] _ ⟨rfl, .inl ⟨_, _, rfl, rfl⟩⟩ hv2 hB0 hB0).mono ?_
              rintro v31 H31 ⟨rfl, hH31⟩
              have hH31 := hH31.symm; subst hH31
              try simp only [ev, Env.get, Option.getD_some, ↓reduceIte, Nat.reduceEqDiff, NextH, Env.putO, Env.put, ↓reduceIte, Nat.reduceEqDiff, upd_upd, Int.reduceToNat]
              refine hK _ _ ?_; clear hK K
              refine OW_op rfl (lt_some (by decide)) (fun K hK r => ?_)
              simp only [x_assign, ev, Env.get, Option.getD_some, ↓reduceIte, Nat.reduceEqDiff, NextH, Env.putO, Env.put, ↓reduceIte, Nat.reduceEqDiff, upd_upd, Int.reduceToNat]
              refine hK _ _ ?_; clear hK K
              refine OW_nil ?_
              try simp only [Ex.thnH, Ex.inBlockH, ↓reduceIte, Nat.reduceEqDiff]
              refine hK10 _ _ ?_; try clear hK10 K10
              refine CW_seq (fun K11 hK11 => ?_)
              refine CW_region ?_
              refine OW_op rfl (lt_some (by decide)) (fun K hK r => ?_)
              simp only [x_move, ev, Env.get, Option.getD_some, ↓reduceIte, Nat.reduceEqDiff, NextH, Env.putO, Env.put, ↓reduceIte, Nat.reduceEqDiff, upd_upd, Int.reduceToNat]
              refine hK _ _ ?_; clear hK K
              refine OW_op rfl (lt_some (by decide)) (fun K hK r => ?_)
              simp only [x_callF _ bd12, List.map_toArray, List.map_cons, List.map_nil, ev, Env.get, Option.getD_some, ↓reduceIte, Nat.reduceEqDiff, NextH, Env.putO, Env.put, ↓reduceIte, Nat.reduceEqDiff, upd_upd, Int.reduceToNat]
              refine (over_zero _ none 0).mono ?_
              rintro v33 H33 hH33
              have hH33 := hH33.symm; subst hH33
              try simp only [ev, Env.get, Option.getD_some, ↓reduceIte, Nat.reduceEqDiff, NextH, Env.putO, Env.put, ↓reduceIte, Nat.reduceEqDiff, upd_upd, Int.reduceToNat]
              refine hK _ _ ?_; clear hK K
              refine OW_nil ?_
              try simp only [Ex.thnH, Ex.inBlockH, ↓reduceIte, Nat.reduceEqDiff]
              refine hK11 _ _ ?_; try clear hK11 K11
              refine CW_seq (fun K12 hK12 => ?_)
              refine CW_region ?_
              refine OW_op rfl (lt_some (by decide)) (fun K hK r => ?_)
              simp only [x_move, ev, Env.get, Option.getD_some, ↓reduceIte, Nat.reduceEqDiff, NextH, Env.putO, Env.put, ↓reduceIte, Nat.reduceEqDiff, upd_upd, Int.reduceToNat]
              refine hK _ _ ?_; clear hK K
              refine OW_op rfl (lt_some (by decide)) (fun K hK r => ?_)
              simp only [x_assign, ev, Env.get, Option.getD_some, ↓reduceIte, Nat.reduceEqDiff, NextH, Env.putO, Env.put, ↓reduceIte, Nat.reduceEqDiff, upd_upd, Int.reduceToNat]
              refine hK _ _ ?_; clear hK K
              refine OW_nil ?_
              try simp only [Ex.thnH, Ex.inBlockH, ↓reduceIte, Nat.reduceEqDiff]
              refine hK12 _ _ ?_; try clear hK12 K12
              refine CW_ret ?_
              try simp only [Ex.thnH, Ex.inBlockH, ↓reduceIte, Nat.reduceEqDiff]
              refine ⟨[_], ⟨rfl, trivial⟩, _, Le.refl _, by simp [retOf, bsV], hm2, hk2⟩
          · first
            | (exfalso; exact cnA c24; done)
            | skip
              (try simp only [decide_eq_true_eq, decide_eq_false_iff_not, Bool.not_eq_true, Bool.not_eq_false, Bool.and_eq_true, Bool.or_eq_true, Bool.or_eq_false_iff, Bool.not_eq_true, Bool.not_eq_eq_eq_not, Bool.not_true, Bool.not_false] at c24)
              refine CW_seq (fun K13 hK13 => ?_)
              refine CW_region ?_
              refine OW_op rfl (lt_some (by decide)) (fun K hK r => ?_)
              simp (disch := (first | omega | decide)) only [x_bin, g_int, b_eql, dec_lt_t, dec_lt_f, dec_le_t, dec_le_f, dec_eq_t, dec_eq_f, Bool.not_true, Bool.not_false, ev, Env.get, Option.getD_some, ↓reduceIte, Nat.reduceEqDiff, NextH, Env.putO, Env.put, ↓reduceIte, Nat.reduceEqDiff, upd_upd, Int.reduceToNat]
              refine hK _ _ ?_; clear hK K
              refine OW_op rfl (lt_some (by decide)) (fun K hK r => ?_)
              simp only [x_assign, ev, Env.get, Option.getD_some, ↓reduceIte, Nat.reduceEqDiff, NextH, Env.putO, Env.put, ↓reduceIte, Nat.reduceEqDiff, upd_upd, Int.reduceToNat]
              refine hK _ _ ?_; clear hK K
              refine OW_nil ?_
              try simp only [Ex.thnH, Ex.inBlockH, ↓reduceIte, Nat.reduceEqDiff]
              refine hK13 _ _ ?_; try clear hK13 K13
              refine CW_cond (fun r => rfl) (fun c35 => ?_) (fun c35 => ?_)
              · first
                | (exfalso; exact cnA c35; done)
                | skip
                  (try simp only [decide_eq_true_eq, decide_eq_false_iff_not, Bool.not_eq_true, Bool.not_eq_false, Bool.and_eq_true, Bool.or_eq_true, Bool.or_eq_false_iff, Bool.not_eq_true, Bool.not_eq_eq_eq_not, Bool.not_true, Bool.not_false] at c35)
                  refine CW_seq (fun K14 hK14 => ?_)
                  refine CW_region ?_
                  refine OW_op rfl (lt_some (by decide)) (fun K hK r => ?_)
                  simp only [x_move, ev, Env.get, Option.getD_some, ↓reduceIte, Nat.reduceEqDiff, NextH, Env.putO, Env.put, ↓reduceIte, Nat.reduceEqDiff, upd_upd, Int.reduceToNat]
                  refine hK _ _ ?_; clear hK K
                  refine OW_op rfl (lt_some (by decide)) (fun K hK r => ?_)
                  simp only [x_callF _ bd36, List.map_toArray, List.map_cons, List.map_nil, ev, Env.get, Option.getD_some, ↓reduceIte, Nat.reduceEqDiff, NextH, Env.putO, Env.put, ↓reduceIte, Nat.reduceEqDiff, upd_upd, Int.reduceToNat]
                  refine (rText_nil _).mono ?_
                  rintro v H' ⟨rfl, rfl⟩
                  try simp only [ev, Env.get, Option.getD_some, ↓reduceIte, Nat.reduceEqDiff, NextH, Env.putO, Env.put, ↓reduceIte, Nat.reduceEqDiff, upd_upd, Int.reduceToNat]
                  refine hK _ _ ?_; clear hK K
                  refine OW_op rfl (lt_some (by decide)) (fun K hK r => ?_)
                  simp only [x_move, ev, Env.get, Option.getD_some, ↓reduceIte, Nat.reduceEqDiff, NextH, Env.putO, Env.put, ↓reduceIte, Nat.reduceEqDiff, upd_upd, Int.reduceToNat]
                  refine hK _ _ ?_; clear hK K
                  refine OW_op rfl (lt_some (by decide)) (fun K hK r => ?_)
                  simp only [x_callF _ bd35, List.map_toArray, List.map_cons, List.map_nil, ev, Env.get, Option.getD_some, ↓reduceIte, Nat.reduceEqDiff, NextH, Env.putO, Env.put, ↓reduceIte, Nat.reduceEqDiff, upd_upd, Int.reduceToNat]
                  refine (mBytes_ok H0 _ pm [] true hrm hle hm0 hB0 (by simp)).mono ?_
                  rintro v40 H40 ⟨res, hres, hv2, hm2, hk2⟩
                  obtain rfl : res = none := hres.1 rfl
                  try simp only [ev, Env.get, Option.getD_some, ↓reduceIte, Nat.reduceEqDiff, NextH, Env.putO, Env.put, ↓reduceIte, Nat.reduceEqDiff, upd_upd, Int.reduceToNat]
                  refine hK _ _ ?_; clear hK K
                  refine OW_op rfl (lt_some (by decide)) (fun K hK r => ?_)
                  simp only [x_convert, ev, Env.get, Option.getD_some, ↓reduceIte, Nat.reduceEqDiff, NextH, Env.putO, Env.put, ↓reduceIte, Nat.reduceEqDiff, upd_upd, Int.reduceToNat]
                  refine Lt_convBS Try.underlying27 Try.underlying5 Try.underlying9 hv2 ?_
                  refine hK _ _ ?_; clear hK K
                  refine OW_op rfl (lt_some (by decide)) (fun K hK r => ?_)
                  simp only [x_bin, g_string, b_seql, ev, Env.get, Option.getD_some, ↓reduceIte, Nat.reduceEqDiff, NextH, Env.putO, Env.put, ↓reduceIte, Nat.reduceEqDiff, upd_upd, Int.reduceToNat]
                  refine hK _ _ ?_; clear hK K
                  refine OW_op rfl (lt_some (by decide)) (fun K hK r => ?_)
                  simp only [x_assign, ev, Env.get, Option.getD_some, ↓reduceIte, Nat.reduceEqDiff, NextH, Env.putO, Env.put, ↓reduceIte, Nat.reduceEqDiff, upd_upd, Int.reduceToNat]
                  refine hK _ _ ?_; clear hK K
                  refine OW_nil ?_
                  try simp only [Ex.thnH, Ex.inBlockH, ↓reduceIte, Nat.reduceEqDiff]
                  refine hK14 _ _ ?_; try clear hK14 K14
                  refine CW_ret ?_
                  try simp only [Ex.thnH, Ex.inBlockH, ↓reduceIte, Nat.reduceEqDiff]
                  refine ⟨[_], ⟨rfl, trivial⟩, _, Le.refl _, by simp [retOf, bsV], hm2, hk2⟩
              · first
                | (exfalso; exact cnA c35; done)
                | skip
                  (try simp only [decide_eq_true_eq, decide_eq_false_iff_not, Bool.not_eq_true, Bool.not_eq_false, Bool.and_eq_true, Bool.or_eq_true, Bool.or_eq_false_iff, Bool.not_eq_true, Bool.not_eq_eq_eq_not, Bool.not_true, Bool.not_false] at c35)
                  refine CW_seq (fun K15 hK15 => ?_)
                  refine CW_region ?_
                  refine OW_op rfl (lt_some (by decide)) (fun K hK r => ?_)
                  simp (disch := (first | omega | decide)) only [x_bin, g_int, b_eql, dec_lt_t, dec_lt_f, dec_le_t, dec_le_f, dec_eq_t, dec_eq_f, Bool.not_true, Bool.not_false, ev, Env.get, Option.getD_some, ↓reduceIte, Nat.reduceEqDiff, NextH, Env.putO, Env.put, ↓reduceIte, Nat.reduceEqDiff, upd_upd, Int.reduceToNat]
                  refine hK _ _ ?_; clear hK K
                  refine OW_op rfl (lt_some (by decide)) (fun K hK r => ?_)
                  simp only [x_assign, ev, Env.get, Option.getD_some, ↓reduceIte, Nat.reduceEqDiff, NextH, Env.putO, Env.put, ↓reduceIte, Nat.reduceEqDiff, upd_upd, Int.reduceToNat]
                  refine hK _ _ ?_; clear hK K
                  refine OW_nil ?_
                  try simp only [Ex.thnH, Ex.inBlockH, ↓reduceIte, Nat.reduceEqDiff]
                  refine hK15 _ _ ?_; try clear hK15 K15
                  refine CW_cond (fun r => rfl) (fun c43 => ?_) (fun c43 => ?_)
                  · first
                    | (exfalso; exact cnA c43; done)
                    | skip
                      (try simp only [decide_eq_true_eq, decide_eq_false_iff_not, Bool.not_eq_true, Bool.not_eq_false, Bool.and_eq_true, Bool.or_eq_true, Bool.or_eq_false_iff, Bool.not_eq_true, Bool.not_eq_eq_eq_not, Bool.not_true, Bool.not_false] at c43)
                      refine CW_seq (fun K16 hK16 => ?_)
                      refine CW_region ?_
                      refine OW_op rfl (lt_some (by decide)) (fun K hK r => ?_)
                      simp only [x_move, ev, Env.get, Option.getD_some, ↓reduceIte, Nat.reduceEqDiff, NextH, Env.putO, Env.put, ↓reduceIte, Nat.reduceEqDiff, upd_upd, Int.reduceToNat]
                      refine hK _ _ ?_; clear hK K
                      refine OW_op rfl (lt_some (by decide)) (fun K hK r => ?_)
                      simp only [x_callF _ bd37, List.map_toArray, List.map_cons, List.map_nil, ev, Env.get, Option.getD_some, ↓reduceIte, Nat.reduceEqDiff, NextH, Env.putO, Env.put, ↓reduceIte, Nat.reduceEqDiff, upd_upd, Int.reduceToNat]
                      refine (rByte_nil _).mono ?_
                      rintro v H' ⟨rfl, rfl⟩
                      try simp only [ev, Env.get, Option.getD_some, ↓reduceIte, Nat.reduceEqDiff, NextH, Env.putO, Env.put, ↓reduceIte, Nat.reduceEqDiff, upd_upd, Int.reduceToNat]
                      refine hK _ _ ?_; clear hK K
                      refine OW_op rfl (lt_some (by decide)) (fun K hK r => ?_)
                      simp only [x_move, ev, Env.get, Option.getD_some, ↓reduceIte, Nat.reduceEqDiff, NextH, Env.putO, Env.put, ↓reduceIte, Nat.reduceEqDiff, upd_upd, Int.reduceToNat]
                      refine hK _ _ ?_; clear hK K
                      refine OW_op rfl (lt_some (by decide)) (fun K hK r => ?_)
                      simp only [x_callF _ bd38, List.map_toArray, List.map_cons, List.map_nil, ev, Env.get, Option.getD_some, ↓reduceIte, Nat.reduceEqDiff, NextH, Env.putO, Env.put, ↓reduceIte, Nat.reduceEqDiff, upd_upd, Int.reduceToNat]
                      refine (mByte_ok H0 _ pm [] true hrm hle hm0 hB0 (by simp)).mono ?_
                      rintro v48 H48 ⟨rfl, hm2, hk2⟩
                      rw [show byV [] = 0 by decide]
                      have hm2 : RM H0 H48 pm [] true := hm2
                      try simp only [ev, Env.get, Option.getD_some, ↓reduceIte, Nat.reduceEqDiff, NextH, Env.putO, Env.put, ↓reduceIte, Nat.reduceEqDiff, upd_upd, Int.reduceToNat]
                      refine hK _ _ ?_; clear hK K
                      refine OW_op rfl (lt_some (by decide)) (fun K hK r => ?_)
                      simp (disch := (first | omega | decide)) only [x_bin, g_int, b_eql, dec_lt_t, dec_lt_f, dec_le_t, dec_le_f, dec_eq_t, dec_eq_f, Bool.not_true, Bool.not_false, ev, Env.get, Option.getD_some, ↓reduceIte, Nat.reduceEqDiff, NextH, Env.putO, Env.put, ↓reduceIte, Nat.reduceEqDiff, upd_upd, Int.reduceToNat]
                      refine hK _ _ ?_; clear hK K
                      refine OW_op rfl (lt_some (by decide)) (fun K hK r => ?_)
                      simp only [x_assign, ev, Env.get, Option.getD_some, ↓reduceIte, Nat.reduceEqDiff, NextH, Env.putO, Env.put, ↓reduceIte, Nat.reduceEqDiff, upd_upd, Int.reduceToNat]
                      refine hK _ _ ?_; clear hK K
                      refine OW_nil ?_
                      try simp only [Ex.thnH, Ex.inBlockH, ↓reduceIte, Nat.reduceEqDiff]
                      refine hK16 _ _ ?_; try clear hK16 K16
                      refine CW_ret ?_
                      try simp only [Ex.thnH, Ex.inBlockH, ↓reduceIte, Nat.reduceEqDiff]
                      refine ⟨[_], ⟨rfl, trivial⟩, _, Le.refl _, by simp [retOf], hm2, hk2⟩
                  · first
                    | (exfalso; exact cnA c43; done)
                    | skip
                      (try simp only [decide_eq_true_eq, decide_eq_false_iff_not, Bool.not_eq_true, Bool.not_eq_false, Bool.and_eq_true, Bool.or_eq_true, Bool.or_eq_false_iff, Bool.not_eq_true, Bool.not_eq_eq_eq_not, Bool.not_true, Bool.not_false] at c43)
                      refine CW_skip ?_
                      try simp only [Ex.thnH, Ex.inBlockH, ↓reduceIte, Nat.reduceEqDiff]
                      refine hK2 _ _ ?_; try clear hK2 K2
                      refine CW_seq (fun K17 hK17 => ?_)
                      refine CW_region ?_
                      refine OW_op rfl (lt_some (by decide)) (fun K hK r => ?_)
                      simp only [x_move, ev, Env.get, Option.getD_some, ↓reduceIte, Nat.reduceEqDiff, NextH, Env.putO, Env.put, ↓reduceIte, Nat.reduceEqDiff, upd_upd, Int.reduceToNat]
                      refine hK _ _ ?_; clear hK K
                      refine OW_op rfl (lt_some (by decide)) (fun K hK r => ?_)
                      simp only [x_callF _ bd26, List.map_toArray, List.map_cons, List.map_nil, ev, Env.get, Option.getD_some, ↓reduceIte, Nat.reduceEqDiff, NextH, Env.putO, Env.put, ↓reduceIte, Nat.reduceEqDiff, upd_upd, Int.reduceToNat]
                      refine (rCount_nil _).mono ?_
                      rintro v H' ⟨rfl, rfl⟩
                      try simp only [ev, Env.get, Option.getD_some, ↓reduceIte, Nat.reduceEqDiff, NextH, Env.putO, Env.put, ↓reduceIte, Nat.reduceEqDiff, upd_upd, Int.reduceToNat]
                      refine hK _ _ ?_; clear hK K
                      refine OW_op rfl (lt_some (by decide)) (fun K hK r => ?_)
                      simp only [x_move, ev, Env.get, Option.getD_some, ↓reduceIte, Nat.reduceEqDiff, NextH, Env.putO, Env.put, ↓reduceIte, Nat.reduceEqDiff, upd_upd, Int.reduceToNat]
                      refine hK _ _ ?_; clear hK K
                      refine OW_op rfl (lt_some (by decide)) (fun K hK r => ?_)
                      simp only [x_callF _ bd39, List.map_toArray, List.map_cons, List.map_nil, ev, Env.get, Option.getD_some, ↓reduceIte, Nat.reduceEqDiff, NextH, Env.putO, Env.put, ↓reduceIte, Nat.reduceEqDiff, upd_upd, Int.reduceToNat]
                      refine (mCount_ok H0 _ pm [] true hrm hle hm0 hB0 (by simp)).mono ?_
                      rintro v53 H53 ⟨res, hres, rfl, hm2, hk2⟩
                      obtain rfl : res = none := hres.1 rfl
                      rw [show ((rcN none : Nat) : Int) = 0 by decide]
                      try simp only [ev, Env.get, Option.getD_some, ↓reduceIte, Nat.reduceEqDiff, NextH, Env.putO, Env.put, ↓reduceIte, Nat.reduceEqDiff, upd_upd, Int.reduceToNat]
                      refine hK _ _ ?_; clear hK K
                      refine OW_op rfl (lt_some (by decide)) (fun K hK r => ?_)
                      simp (disch := (first | omega | decide)) only [x_bin, g_int, b_eql, dec_lt_t, dec_lt_f, dec_le_t, dec_le_f, dec_eq_t, dec_eq_f, Bool.not_true, Bool.not_false, ev, Env.get, Option.getD_some, ↓reduceIte, Nat.reduceEqDiff, NextH, Env.putO, Env.put, ↓reduceIte, Nat.reduceEqDiff, upd_upd, Int.reduceToNat]
                      refine hK _ _ ?_; clear hK K
                      refine OW_op rfl (lt_some (by decide)) (fun K hK r => ?_)
                      simp only [x_assign, ev, Env.get, Option.getD_some, ↓reduceIte, Nat.reduceEqDiff, NextH, Env.putO, Env.put, ↓reduceIte, Nat.reduceEqDiff, upd_upd, Int.reduceToNat]
                      refine hK _ _ ?_; clear hK K
                      refine OW_nil ?_
                      try simp only [Ex.thnH, Ex.inBlockH, ↓reduceIte, Nat.reduceEqDiff]
                      refine hK17 _ _ ?_; try clear hK17 K17
                      refine CW_ret ?_
                      try simp only [Ex.thnH, Ex.inBlockH, ↓reduceIte, Nat.reduceEqDiff]
                      refine ⟨[_], ⟨rfl, trivial⟩, _, Le.refl _, by simp [retOf], hm2, hk2⟩

end Go.Proofs.Ytlbdmoikmomedaa.HL
