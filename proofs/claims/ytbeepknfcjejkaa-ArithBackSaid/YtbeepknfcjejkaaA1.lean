/- A part of the proof. -/
import Derived.Test.YtbeepknfcjejkaaA0
namespace Go.Proofs.Ytbeepknfcjejkaa.HL
open Go Go.Proofs
set_option linter.unusedSimpArgs false
set_option linter.unusedVariables false
attribute [local irreducible] Lt Lq CW OW TW CallH

set_option maxRecDepth 100000 in
set_option maxHeartbeats 8000000 in
theorem lawBack (H : Hp) (a b : Int) (a1 : -9223372036854775808 ≤ a) (a2 : a ≤ 9223372036854775807) (b1 : -9223372036854775808 ≤ b) (b2 : b ≤ 9223372036854775807) : CallH Try.prog 7 #[.int .i64 a, .int .i64 b] H (fun v H' => v = .bool true ∧ Le H H') := by
  refine CallH_enter (l := [_, _]) (rl := [.tmp 4]) (n := 131) Try.func7 rfl rfl rfl rfl rfl ?_
  simp only [envOf, Nat.reduceAdd]
  refine CW_seq (fun K1 hK1 => ?_)
  refine CW_region ?_
  refine OW_op rfl (lt_some (by decide)) (fun K hK r => ?_)
  simp only [x_assign, ev, Env.get, Option.getD_some, ↓reduceIte, Nat.reduceEqDiff, NextH, Env.putO, Env.put, ↓reduceIte, Nat.reduceEqDiff, upd_upd, Int.reduceToNat]
  refine hK _ _ ?_; clear hK K
  refine OW_nil ?_
  try simp only [Ex.thnH, Ex.inBlockH, ↓reduceIte, Nat.reduceEqDiff]
  refine hK1 _ _ ?_; try clear hK1 K1
  refine CW_seq (fun K2 hK2 => ?_)
  refine CW_seq (fun K3 hK3 => ?_)
  refine CW_region ?_
  refine OW_op rfl (lt_some (by decide)) (fun K hK r => ?_)
  simp only [x_callF _ bd9, List.map_toArray, List.map_cons, List.map_nil, ev, Env.get, Option.getD_some, ↓reduceIte, Nat.reduceEqDiff, NextH, Env.putO, Env.put, ↓reduceIte, Nat.reduceEqDiff, upd_upd, Int.reduceToNat]
  refine (alive5_ok _).mono ?_
  rintro v21 H21 ⟨rfl, hl21⟩
  try simp only [ev, Env.get, Option.getD_some, ↓reduceIte, Nat.reduceEqDiff, NextH, Env.putO, Env.put, ↓reduceIte, Nat.reduceEqDiff, upd_upd, Int.reduceToNat]
  refine hK _ _ ?_; clear hK K
  refine OW_op rfl (lt_some (by decide)) (fun K hK r => ?_)
  simp only [x_un, u_not, ev, Env.get, Option.getD_some, ↓reduceIte, Nat.reduceEqDiff, NextH, Env.putO, Env.put, ↓reduceIte, Nat.reduceEqDiff, upd_upd, Int.reduceToNat]
  refine hK _ _ ?_; clear hK K
  refine OW_nil ?_
  try simp only [Ex.thnH, Ex.inBlockH, ↓reduceIte, Nat.reduceEqDiff]
  refine hK3 _ _ ?_; try clear hK3 K3
  refine CW_cond (fun r => rfl) (fun c22 => ?_) (fun c22 => ?_)
  · first
    | (exfalso; exact cnA c22; done)
    | skip
      (try simp only [decide_eq_true_eq, decide_eq_false_iff_not, Bool.not_eq_true, Bool.not_eq_false, Bool.and_eq_true, Bool.or_eq_true, Bool.or_eq_false_iff, Bool.not_eq_true, Bool.not_eq_eq_eq_not, Bool.not_true, Bool.not_false] at c22)
      refine CW_seq (fun K4 hK4 => ?_)
      refine CW_region ?_
      refine OW_op rfl (lt_some (by decide)) (fun K hK r => ?_)
      simp only [x_assign, ev, Env.get, Option.getD_some, ↓reduceIte, Nat.reduceEqDiff, NextH, Env.putO, Env.put, ↓reduceIte, Nat.reduceEqDiff, upd_upd, Int.reduceToNat]
      refine hK _ _ ?_; clear hK K
      refine OW_nil ?_
      try simp only [Ex.thnH, Ex.inBlockH, ↓reduceIte, Nat.reduceEqDiff]
      refine hK4 _ _ ?_; try clear hK4 K4
      refine CW_ret ?_
      try simp only [Ex.thnH, Ex.inBlockH, ↓reduceIte, Nat.reduceEqDiff]
      exfalso; simp_all
  · first
    | (exfalso; exact cnA c22; done)
    | skip
      (try simp only [decide_eq_true_eq, decide_eq_false_iff_not, Bool.not_eq_true, Bool.not_eq_false, Bool.and_eq_true, Bool.or_eq_true, Bool.or_eq_false_iff, Bool.not_eq_true, Bool.not_eq_eq_eq_not, Bool.not_true, Bool.not_false] at c22)
      refine CW_skip ?_
      try simp only [Ex.thnH, Ex.inBlockH, ↓reduceIte, Nat.reduceEqDiff]
      refine hK2 _ _ ?_; try clear hK2 K2
      refine CW_seq (fun K5 hK5 => ?_)
      refine CW_seq (fun K6 hK6 => ?_)
      refine CW_region ?_
      refine OW_op rfl (lt_some (by decide)) (fun K hK r => ?_)
      simp only [x_move, ev, Env.get, Option.getD_some, ↓reduceIte, Nat.reduceEqDiff, NextH, Env.putO, Env.put, ↓reduceIte, Nat.reduceEqDiff, upd_upd, Int.reduceToNat]
      refine hK _ _ ?_; clear hK K
      refine OW_op rfl (lt_some (by decide)) (fun K hK r => ?_)
      simp only [x_move, ev, Env.get, Option.getD_some, ↓reduceIte, Nat.reduceEqDiff, NextH, Env.putO, Env.put, ↓reduceIte, Nat.reduceEqDiff, upd_upd, Int.reduceToNat]
      refine hK _ _ ?_; clear hK K
      refine OW_op rfl (lt_some (by decide)) (fun K hK r => ?_)
      simp only [x_callF _ bd20, List.map_toArray, List.map_cons, List.map_nil, ev, Env.get, Option.getD_some, ↓reduceIte, Nat.reduceEqDiff, NextH, Env.putO, Env.put, ↓reduceIte, Nat.reduceEqDiff, upd_upd, Int.reduceToNat]
      refine (Add_ok _ a b a1 a2 b1 b2).mono ?_
      rintro v H' ⟨rfl, rfl⟩
      try simp only [ev, Env.get, Option.getD_some, ↓reduceIte, Nat.reduceEqDiff, NextH, Env.putO, Env.put, ↓reduceIte, Nat.reduceEqDiff, upd_upd, Int.reduceToNat]
      refine hK _ _ ?_; clear hK K
      refine OW_op rfl (lt_some (by decide)) (fun K hK r => ?_)
      simp only [x_move, ev, Env.get, Option.getD_some, ↓reduceIte, Nat.reduceEqDiff, NextH, Env.putO, Env.put, ↓reduceIte, Nat.reduceEqDiff, upd_upd, Int.reduceToNat]
      refine hK _ _ ?_; clear hK K
      refine OW_op rfl (lt_some (by decide)) (fun K hK r => ?_)
      simp only [x_extract, i_extract, List.getElem?_toArray, List.getElem?_cons_zero, List.getElem?_cons_succ, orF_some, ev, Env.get, Option.getD_some, ↓reduceIte, Nat.reduceEqDiff, NextH, Env.putO, Env.put, ↓reduceIte, Nat.reduceEqDiff, upd_upd, Int.reduceToNat]
      refine hK _ _ ?_; clear hK K
      refine OW_op rfl (lt_some (by decide)) (fun K hK r => ?_)
      simp only [x_extract, i_extract, List.getElem?_toArray, List.getElem?_cons_zero, List.getElem?_cons_succ, orF_some, ev, Env.get, Option.getD_some, ↓reduceIte, Nat.reduceEqDiff, NextH, Env.putO, Env.put, ↓reduceIte, Nat.reduceEqDiff, upd_upd, Int.reduceToNat]
      refine hK _ _ ?_; clear hK K
      refine OW_op rfl (lt_some (by decide)) (fun K hK r => ?_)
      simp only [x_assign, ev, Env.get, Option.getD_some, ↓reduceIte, Nat.reduceEqDiff, NextH, Env.putO, Env.put, ↓reduceIte, Nat.reduceEqDiff, upd_upd, Int.reduceToNat]
      refine hK _ _ ?_; clear hK K
      refine OW_op rfl (lt_some (by decide)) (fun K hK r => ?_)
      simp only [x_assign, ev, Env.get, Option.getD_some, ↓reduceIte, Nat.reduceEqDiff, NextH, Env.putO, Env.put, ↓reduceIte, Nat.reduceEqDiff, upd_upd, Int.reduceToNat]
      refine hK _ _ ?_; clear hK K
      refine OW_nil ?_
      try simp only [Ex.thnH, Ex.inBlockH, ↓reduceIte, Nat.reduceEqDiff]
      refine hK6 _ _ ?_; try clear hK6 K6
      refine CW_seq (fun K7 hK7 => ?_)
      refine CW_region ?_
      refine OW_op rfl (lt_some (by decide)) (fun K hK r => ?_)
      simp only [x_move, ev, Env.get, Option.getD_some, ↓reduceIte, Nat.reduceEqDiff, NextH, Env.putO, Env.put, ↓reduceIte, Nat.reduceEqDiff, upd_upd, Int.reduceToNat]
      refine hK _ _ ?_; clear hK K
      refine OW_op rfl (lt_some (by decide)) (fun K hK r => ?_)
      simp only [x_bin, g_int, g_bool, g_string, g_pointer, g_slice, g_map, g_func, g_nilFunc, g_err, g_iface, g_nil_iface, g_nil_r, g_nil_l, ev, Env.get, Option.getD_some, ↓reduceIte, Nat.reduceEqDiff, NextH, Env.putO, Env.put, ↓reduceIte, Nat.reduceEqDiff, upd_upd, Int.reduceToNat]
      first | rw [b_err_eql _ _ Try.underlying29] | (rw [e_eql _ _ _ _ (by simp), q_equal]; first | rw [q_iface_nil _ _ _ Try.underlying29] | rw [q_nil_iface _ _ _ Try.underlying29] | rw [q_nil_nil _ _ _ Try.underlying29])
      rw [okE_isNone]
      try simp only [ev, Env.get, Option.getD_some, ↓reduceIte, Nat.reduceEqDiff, NextH, Env.putO, Env.put, ↓reduceIte, Nat.reduceEqDiff, upd_upd, Int.reduceToNat]
      refine hK _ _ ?_; clear hK K
      refine OW_nil ?_
      try simp only [Ex.thnH, Ex.inBlockH, ↓reduceIte, Nat.reduceEqDiff]
      refine hK7 _ _ ?_; try clear hK7 K7
      refine CW_cond (fun r => rfl) (fun c30 => ?_) (fun c30 => ?_)
      · first
        | (exfalso; exact cnA c30; done)
        | skip
          (try simp only [decide_eq_true_eq, decide_eq_false_iff_not, Bool.not_eq_true, Bool.not_eq_false, Bool.and_eq_true, Bool.or_eq_true, Bool.or_eq_false_iff, Bool.not_eq_true, Bool.not_eq_eq_eq_not, Bool.not_true, Bool.not_false] at c30)
          have hfs : fitsI (a + b) := by assumption
          refine CW_seq (fun K8 hK8 => ?_)
          refine CW_region ?_
          refine OW_op rfl (lt_some (by decide)) (fun K hK r => ?_)
          simp only [x_move, ev, Env.get, Option.getD_some, ↓reduceIte, Nat.reduceEqDiff, NextH, Env.putO, Env.put, ↓reduceIte, Nat.reduceEqDiff, upd_upd, Int.reduceToNat]
          refine hK _ _ ?_; clear hK K
          refine OW_op rfl (lt_some (by decide)) (fun K hK r => ?_)
          simp only [x_move, ev, Env.get, Option.getD_some, ↓reduceIte, Nat.reduceEqDiff, NextH, Env.putO, Env.put, ↓reduceIte, Nat.reduceEqDiff, upd_upd, Int.reduceToNat]
          refine hK _ _ ?_; clear hK K
          refine OW_op rfl (lt_some (by decide)) (fun K hK r => ?_)
          simp only [x_callF _ bd21, List.map_toArray, List.map_cons, List.map_nil, ev, Env.get, Option.getD_some, ↓reduceIte, Nat.reduceEqDiff, NextH, Env.putO, Env.put, ↓reduceIte, Nat.reduceEqDiff, upd_upd, Int.reduceToNat]
          rw [okI_fits hfs]
          refine (Sub_ok _ (a + b) b hfs.1 hfs.2 b1 b2).mono ?_
          rintro v H' ⟨rfl, rfl⟩
          rw [Int.add_sub_cancel, okI_fits ⟨a1, a2⟩, okE_fits ⟨a1, a2⟩]
          try simp only [ev, Env.get, Option.getD_some, ↓reduceIte, Nat.reduceEqDiff, NextH, Env.putO, Env.put, ↓reduceIte, Nat.reduceEqDiff, upd_upd, Int.reduceToNat]
          refine hK _ _ ?_; clear hK K
          refine OW_op rfl (lt_some (by decide)) (fun K hK r => ?_)
          simp only [x_move, ev, Env.get, Option.getD_some, ↓reduceIte, Nat.reduceEqDiff, NextH, Env.putO, Env.put, ↓reduceIte, Nat.reduceEqDiff, upd_upd, Int.reduceToNat]
          refine hK _ _ ?_; clear hK K
          refine OW_op rfl (lt_some (by decide)) (fun K hK r => ?_)
          simp only [x_extract, i_extract, List.getElem?_toArray, List.getElem?_cons_zero, List.getElem?_cons_succ, orF_some, ev, Env.get, Option.getD_some, ↓reduceIte, Nat.reduceEqDiff, NextH, Env.putO, Env.put, ↓reduceIte, Nat.reduceEqDiff, upd_upd, Int.reduceToNat]
          refine hK _ _ ?_; clear hK K
          refine OW_op rfl (lt_some (by decide)) (fun K hK r => ?_)
          simp only [x_extract, i_extract, List.getElem?_toArray, List.getElem?_cons_zero, List.getElem?_cons_succ, orF_some, ev, Env.get, Option.getD_some, ↓reduceIte, Nat.reduceEqDiff, NextH, Env.putO, Env.put, ↓reduceIte, Nat.reduceEqDiff, upd_upd, Int.reduceToNat]
          refine hK _ _ ?_; clear hK K
          refine OW_op rfl (lt_some (by decide)) (fun K hK r => ?_)
          simp only [x_assign, ev, Env.get, Option.getD_some, ↓reduceIte, Nat.reduceEqDiff, NextH, Env.putO, Env.put, ↓reduceIte, Nat.reduceEqDiff, upd_upd, Int.reduceToNat]
          refine hK _ _ ?_; clear hK K
          refine OW_op rfl (lt_some (by decide)) (fun K hK r => ?_)
          simp only [x_assign, ev, Env.get, Option.getD_some, ↓reduceIte, Nat.reduceEqDiff, NextH, Env.putO, Env.put, ↓reduceIte, Nat.reduceEqDiff, upd_upd, Int.reduceToNat]
          refine hK _ _ ?_; clear hK K
          refine OW_nil ?_
          try simp only [Ex.thnH, Ex.inBlockH, ↓reduceIte, Nat.reduceEqDiff]
          refine hK8 _ _ ?_; try clear hK8 K8
          refine CW_seq (fun K9 hK9 => ?_)
          refine CW_region ?_
          refine OW_op rfl (lt_some (by decide)) (fun K hK r => ?_)
          simp only [x_move, ev, Env.get, Option.getD_some, ↓reduceIte, Nat.reduceEqDiff, NextH, Env.putO, Env.put, ↓reduceIte, Nat.reduceEqDiff, upd_upd, Int.reduceToNat]
          refine hK _ _ ?_; clear hK K
          refine OW_op rfl (lt_some (by decide)) (fun K hK r => ?_)
          simp only [x_bin, g_int, g_bool, g_string, g_pointer, g_slice, g_map, g_func, g_nilFunc, g_err, g_iface, g_nil_iface, g_nil_r, g_nil_l, ev, Env.get, Option.getD_some, ↓reduceIte, Nat.reduceEqDiff, NextH, Env.putO, Env.put, ↓reduceIte, Nat.reduceEqDiff, upd_upd, Int.reduceToNat]
          first | rw [b_err_neq _ _ Try.underlying29] | (rw [e_neq _ _ _ _ (by simp), q_equal]; first | rw [q_iface_nil _ _ _ Try.underlying29] | rw [q_nil_iface _ _ _ Try.underlying29] | rw [q_nil_nil _ _ _ Try.underlying29])
          try simp only [ev, Env.get, Option.getD_some, ↓reduceIte, Nat.reduceEqDiff, NextH, Env.putO, Env.put, ↓reduceIte, Nat.reduceEqDiff, upd_upd, Int.reduceToNat]
          refine hK _ _ ?_; clear hK K
          refine OW_op rfl (lt_some (by decide)) (fun K hK r => ?_)
          simp only [x_move, ev, Env.get, Option.getD_some, ↓reduceIte, Nat.reduceEqDiff, NextH, Env.putO, Env.put, ↓reduceIte, Nat.reduceEqDiff, upd_upd, Int.reduceToNat]
          refine hK _ _ ?_; clear hK K
          (first | refine OW_split (d := 39) rfl (fun g39 => ?_) (fun g39 => ?_) | skip)
          all_goals try (exfalso; exact cnA g39)
          all_goals (try simp only [decide_eq_true_eq, decide_eq_false_iff_not, Bool.not_eq_true, Bool.not_eq_false, Bool.and_eq_true, Bool.or_eq_true, Bool.or_eq_false_iff, Bool.not_eq_true, Bool.not_eq_eq_eq_not, Bool.not_true, Bool.not_false] at g39)
          all_goals
            try simp only [NextH, Env.putO, Env.put, ↓reduceIte, Nat.reduceEqDiff, upd_upd, Int.reduceToNat]
            first
            | refine OW_guardT rfl (lt_some (by decide)) rfl (fun K hK r => ?_)
              simp only [x_move, ev, Env.get, Option.getD_some, ↓reduceIte, Nat.reduceEqDiff, NextH, Env.putO, Env.put, ↓reduceIte, Nat.reduceEqDiff, upd_upd, Int.reduceToNat]
              refine hK _ _ ?_; clear hK K
            | refine OW_guardF rfl (lt_some (by decide)) rfl ?_
              simp only [NextH, Env.putO, Env.put, ↓reduceIte, Nat.reduceEqDiff, upd_upd, Int.reduceToNat]
            first
            | refine OW_guardT rfl (lt_some (by decide)) rfl (fun K hK r => ?_)
              simp only [x_move, ev, Env.get, Option.getD_some, ↓reduceIte, Nat.reduceEqDiff, NextH, Env.putO, Env.put, ↓reduceIte, Nat.reduceEqDiff, upd_upd, Int.reduceToNat]
              refine hK _ _ ?_; clear hK K
            | refine OW_guardF rfl (lt_some (by decide)) rfl ?_
              simp only [NextH, Env.putO, Env.put, ↓reduceIte, Nat.reduceEqDiff, upd_upd, Int.reduceToNat]
            first
            | refine OW_guardT rfl (lt_some (by decide)) rfl (fun K hK r => ?_)
              simp (disch := (first | omega | decide)) only [x_bin, g_int, b_neq, dec_lt_t, dec_lt_f, dec_le_t, dec_le_f, dec_eq_t, dec_eq_f, Bool.not_true, Bool.not_false, ev, Env.get, Option.getD_some, ↓reduceIte, Nat.reduceEqDiff, NextH, Env.putO, Env.put, ↓reduceIte, Nat.reduceEqDiff, upd_upd, Int.reduceToNat]
              refine hK _ _ ?_; clear hK K
            | refine OW_guardF rfl (lt_some (by decide)) rfl ?_
              simp only [NextH, Env.putO, Env.put, ↓reduceIte, Nat.reduceEqDiff, upd_upd, Int.reduceToNat]
            refine OW_op rfl (lt_some (by decide)) (fun K hK r => ?_)
            simp only [x_pick, l_asBool, HL.ite_bool, if_true, if_false, Bool.false_eq_true, ev, Env.get, Option.getD_some, ↓reduceIte, Nat.reduceEqDiff, NextH, Env.putO, Env.put, ↓reduceIte, Nat.reduceEqDiff, upd_upd, Int.reduceToNat]
            refine hK _ _ ?_; clear hK K
            refine OW_nil ?_
            try simp only [Ex.thnH, Ex.inBlockH, ↓reduceIte, Nat.reduceEqDiff]
            refine hK9 _ _ ?_; try clear hK9 K9
            refine CW_cond (fun r => rfl) (fun c43 => ?_) (fun c43 => ?_)
            · first
              | (exfalso; exact cnA c43; done)
              | skip
                (try simp only [decide_eq_true_eq, decide_eq_false_iff_not, Bool.not_eq_true, Bool.not_eq_false, Bool.and_eq_true, Bool.or_eq_true, Bool.or_eq_false_iff, Bool.not_eq_true, Bool.not_eq_eq_eq_not, Bool.not_true, Bool.not_false] at c43)
                refine CW_seq (fun K10 hK10 => ?_)
                refine CW_region ?_
                refine OW_op rfl (lt_some (by decide)) (fun K hK r => ?_)
                simp only [x_assign, ev, Env.get, Option.getD_some, ↓reduceIte, Nat.reduceEqDiff, NextH, Env.putO, Env.put, ↓reduceIte, Nat.reduceEqDiff, upd_upd, Int.reduceToNat]
                refine hK _ _ ?_; clear hK K
                refine OW_nil ?_
                try simp only [Ex.thnH, Ex.inBlockH, ↓reduceIte, Nat.reduceEqDiff]
                refine hK10 _ _ ?_; try clear hK10 K10
                refine CW_ret ?_
                try simp only [Ex.thnH, Ex.inBlockH, ↓reduceIte, Nat.reduceEqDiff]
                exfalso; simp_all
            · first
              | (exfalso; exact cnA c43; done)
              | skip
                (try simp only [decide_eq_true_eq, decide_eq_false_iff_not, Bool.not_eq_true, Bool.not_eq_false, Bool.and_eq_true, Bool.or_eq_true, Bool.or_eq_false_iff, Bool.not_eq_true, Bool.not_eq_eq_eq_not, Bool.not_true, Bool.not_false] at c43)
                refine CW_skip ?_
                try simp only [Ex.thnH, Ex.inBlockH, ↓reduceIte, Nat.reduceEqDiff]
                refine hK5 _ _ ?_; try clear hK5 K5
                refine CW_seq (fun K11 hK11 => ?_)
                refine CW_seq (fun K12 hK12 => ?_)
                refine CW_region ?_
                refine OW_op rfl (lt_some (by decide)) (fun K hK r => ?_)
                simp only [x_move, ev, Env.get, Option.getD_some, ↓reduceIte, Nat.reduceEqDiff, NextH, Env.putO, Env.put, ↓reduceIte, Nat.reduceEqDiff, upd_upd, Int.reduceToNat]
                refine hK _ _ ?_; clear hK K
                refine OW_op rfl (lt_some (by decide)) (fun K hK r => ?_)
                simp only [x_move, ev, Env.get, Option.getD_some, ↓reduceIte, Nat.reduceEqDiff, NextH, Env.putO, Env.put, ↓reduceIte, Nat.reduceEqDiff, upd_upd, Int.reduceToNat]
                refine hK _ _ ?_; clear hK K
                refine OW_op rfl (lt_some (by decide)) (fun K hK r => ?_)
                simp only [x_callF _ bd22, List.map_toArray, List.map_cons, List.map_nil, ev, Env.get, Option.getD_some, ↓reduceIte, Nat.reduceEqDiff, NextH, Env.putO, Env.put, ↓reduceIte, Nat.reduceEqDiff, upd_upd, Int.reduceToNat]
                refine (Mul_ok _ a b a1 a2 b1 b2).mono ?_
                rintro v H' ⟨rfl, rfl⟩
                try simp only [ev, Env.get, Option.getD_some, ↓reduceIte, Nat.reduceEqDiff, NextH, Env.putO, Env.put, ↓reduceIte, Nat.reduceEqDiff, upd_upd, Int.reduceToNat]
                refine hK _ _ ?_; clear hK K
                refine OW_op rfl (lt_some (by decide)) (fun K hK r => ?_)
                simp only [x_move, ev, Env.get, Option.getD_some, ↓reduceIte, Nat.reduceEqDiff, NextH, Env.putO, Env.put, ↓reduceIte, Nat.reduceEqDiff, upd_upd, Int.reduceToNat]
                refine hK _ _ ?_; clear hK K
                refine OW_op rfl (lt_some (by decide)) (fun K hK r => ?_)
                simp only [x_extract, i_extract, List.getElem?_toArray, List.getElem?_cons_zero, List.getElem?_cons_succ, orF_some, ev, Env.get, Option.getD_some, ↓reduceIte, Nat.reduceEqDiff, NextH, Env.putO, Env.put, ↓reduceIte, Nat.reduceEqDiff, upd_upd, Int.reduceToNat]
                refine hK _ _ ?_; clear hK K
                refine OW_op rfl (lt_some (by decide)) (fun K hK r => ?_)
                simp only [x_extract, i_extract, List.getElem?_toArray, List.getElem?_cons_zero, List.getElem?_cons_succ, orF_some, ev, Env.get, Option.getD_some, ↓reduceIte, Nat.reduceEqDiff, NextH, Env.putO, Env.put, ↓reduceIte, Nat.reduceEqDiff, upd_upd, Int.reduceToNat]
                refine hK _ _ ?_; clear hK K
                refine OW_op rfl (lt_some (by decide)) (fun K hK r => ?_)
                simp only [x_assign, ev, Env.get, Option.getD_some, ↓reduceIte, Nat.reduceEqDiff, NextH, Env.putO, Env.put, ↓reduceIte, Nat.reduceEqDiff, upd_upd, Int.reduceToNat]
                refine hK _ _ ?_; clear hK K
                refine OW_op rfl (lt_some (by decide)) (fun K hK r => ?_)
                simp only [x_assign, ev, Env.get, Option.getD_some, ↓reduceIte, Nat.reduceEqDiff, NextH, Env.putO, Env.put, ↓reduceIte, Nat.reduceEqDiff, upd_upd, Int.reduceToNat]
                refine hK _ _ ?_; clear hK K
                refine OW_nil ?_
                try simp only [Ex.thnH, Ex.inBlockH, ↓reduceIte, Nat.reduceEqDiff]
                refine hK12 _ _ ?_; try clear hK12 K12
                refine CW_seq (fun K13 hK13 => ?_)
                refine CW_region ?_
                refine OW_op rfl (lt_some (by decide)) (fun K hK r => ?_)
                simp only [x_move, ev, Env.get, Option.getD_some, ↓reduceIte, Nat.reduceEqDiff, NextH, Env.putO, Env.put, ↓reduceIte, Nat.reduceEqDiff, upd_upd, Int.reduceToNat]
                refine hK _ _ ?_; clear hK K
                refine OW_op rfl (lt_some (by decide)) (fun K hK r => ?_)
                simp only [x_bin, g_int, g_bool, g_string, g_pointer, g_slice, g_map, g_func, g_nilFunc, g_err, g_iface, g_nil_iface, g_nil_r, g_nil_l, ev, Env.get, Option.getD_some, ↓reduceIte, Nat.reduceEqDiff, NextH, Env.putO, Env.put, ↓reduceIte, Nat.reduceEqDiff, upd_upd, Int.reduceToNat]
                first | rw [b_err_eql _ _ Try.underlying29] | (rw [e_eql _ _ _ _ (by simp), q_equal]; first | rw [q_iface_nil _ _ _ Try.underlying29] | rw [q_nil_iface _ _ _ Try.underlying29] | rw [q_nil_nil _ _ _ Try.underlying29])
                rw [okE_isNone]
                try simp only [ev, Env.get, Option.getD_some, ↓reduceIte, Nat.reduceEqDiff, NextH, Env.putO, Env.put, ↓reduceIte, Nat.reduceEqDiff, upd_upd, Int.reduceToNat]
                refine hK _ _ ?_; clear hK K
                refine OW_op rfl (lt_some (by decide)) (fun K hK r => ?_)
                simp only [x_move, ev, Env.get, Option.getD_some, ↓reduceIte, Nat.reduceEqDiff, NextH, Env.putO, Env.put, ↓reduceIte, Nat.reduceEqDiff, upd_upd, Int.reduceToNat]
                refine hK _ _ ?_; clear hK K
                (first | refine OW_split (d := 52) rfl (fun g52 => ?_) (fun g52 => ?_) | skip)
                all_goals try (exfalso; exact cnA g52)
                all_goals (try simp only [decide_eq_true_eq, decide_eq_false_iff_not, Bool.not_eq_true, Bool.not_eq_false, Bool.and_eq_true, Bool.or_eq_true, Bool.or_eq_false_iff, Bool.not_eq_true, Bool.not_eq_eq_eq_not, Bool.not_true, Bool.not_false] at g52)
                all_goals
                  try simp only [NextH, Env.putO, Env.put, ↓reduceIte, Nat.reduceEqDiff, upd_upd, Int.reduceToNat]
                  first
                  | refine OW_guardT rfl (lt_some (by decide)) rfl (fun K hK r => ?_)
                    simp only [x_move, ev, Env.get, Option.getD_some, ↓reduceIte, Nat.reduceEqDiff, NextH, Env.putO, Env.put, ↓reduceIte, Nat.reduceEqDiff, upd_upd, Int.reduceToNat]
                    refine hK _ _ ?_; clear hK K
                  | refine OW_guardF rfl (lt_some (by decide)) rfl ?_
                    simp only [NextH, Env.putO, Env.put, ↓reduceIte, Nat.reduceEqDiff, upd_upd, Int.reduceToNat]
                  first
                  | refine OW_guardT rfl (lt_some (by decide)) rfl (fun K hK r => ?_)
                    simp (disch := (first | omega | decide)) only [x_bin, g_int, b_neq, dec_lt_t, dec_lt_f, dec_le_t, dec_le_f, dec_eq_t, dec_eq_f, Bool.not_true, Bool.not_false, ev, Env.get, Option.getD_some, ↓reduceIte, Nat.reduceEqDiff, NextH, Env.putO, Env.put, ↓reduceIte, Nat.reduceEqDiff, upd_upd, Int.reduceToNat]
                    refine hK _ _ ?_; clear hK K
                  | refine OW_guardF rfl (lt_some (by decide)) rfl ?_
                    simp only [NextH, Env.putO, Env.put, ↓reduceIte, Nat.reduceEqDiff, upd_upd, Int.reduceToNat]
                  refine OW_op rfl (lt_some (by decide)) (fun K hK r => ?_)
                  simp only [x_pick, l_asBool, HL.ite_bool, if_true, if_false, Bool.false_eq_true, ev, Env.get, Option.getD_some, ↓reduceIte, Nat.reduceEqDiff, NextH, Env.putO, Env.put, ↓reduceIte, Nat.reduceEqDiff, upd_upd, Int.reduceToNat]
                  refine hK _ _ ?_; clear hK K
                  refine OW_nil ?_
                  try simp only [Ex.thnH, Ex.inBlockH, ↓reduceIte, Nat.reduceEqDiff]
                  refine hK13 _ _ ?_; try clear hK13 K13
                  refine CW_cond (fun r => rfl) (fun c55 => ?_) (fun c55 => ?_)
                  · first
                    | (exfalso; exact cnA c55; done)
                    | skip
                      (try simp only [decide_eq_true_eq, decide_eq_false_iff_not, Bool.not_eq_true, Bool.not_eq_false, Bool.and_eq_true, Bool.or_eq_true, Bool.or_eq_false_iff, Bool.not_eq_true, Bool.not_eq_eq_eq_not, Bool.not_true, Bool.not_false] at c55)
                      have hfm : fitsI (a * b) := by assumption
                      have hb0 : b ≠ 0 := by assumption
                      refine CW_seq (fun K14 hK14 => ?_)
                      refine CW_region ?_
                      refine OW_op rfl (lt_some (by decide)) (fun K hK r => ?_)
                      simp only [x_move, ev, Env.get, Option.getD_some, ↓reduceIte, Nat.reduceEqDiff, NextH, Env.putO, Env.put, ↓reduceIte, Nat.reduceEqDiff, upd_upd, Int.reduceToNat]
                      refine hK _ _ ?_; clear hK K
                      refine OW_op rfl (lt_some (by decide)) (fun K hK r => ?_)
                      simp only [x_move, ev, Env.get, Option.getD_some, ↓reduceIte, Nat.reduceEqDiff, NextH, Env.putO, Env.put, ↓reduceIte, Nat.reduceEqDiff, upd_upd, Int.reduceToNat]
                      refine hK _ _ ?_; clear hK K
                      refine OW_op rfl (lt_some (by decide)) (fun K hK r => ?_)
                      simp only [x_callF _ bd24, List.map_toArray, List.map_cons, List.map_nil, ev, Env.get, Option.getD_some, ↓reduceIte, Nat.reduceEqDiff, NextH, Env.putO, Env.put, ↓reduceIte, Nat.reduceEqDiff, upd_upd, Int.reduceToNat]
                      rw [okI_fits hfm]
                      refine (Div_ok _ (a * b) b hfm.1 hfm.2 b1 b2 hb0).mono ?_
                      rintro v H' ⟨rfl, rfl⟩
                      rw [mul_back hb0, okI_fits ⟨a1, a2⟩, okE_fits ⟨a1, a2⟩]
                      try simp only [ev, Env.get, Option.getD_some, ↓reduceIte, Nat.reduceEqDiff, NextH, Env.putO, Env.put, ↓reduceIte, Nat.reduceEqDiff, upd_upd, Int.reduceToNat]
                      refine hK _ _ ?_; clear hK K
                      refine OW_op rfl (lt_some (by decide)) (fun K hK r => ?_)
                      simp only [x_move, ev, Env.get, Option.getD_some, ↓reduceIte, Nat.reduceEqDiff, NextH, Env.putO, Env.put, ↓reduceIte, Nat.reduceEqDiff, upd_upd, Int.reduceToNat]
                      refine hK _ _ ?_; clear hK K
                      refine OW_op rfl (lt_some (by decide)) (fun K hK r => ?_)
                      simp only [x_extract, i_extract, List.getElem?_toArray, List.getElem?_cons_zero, List.getElem?_cons_succ, orF_some, ev, Env.get, Option.getD_some, ↓reduceIte, Nat.reduceEqDiff, NextH, Env.putO, Env.put, ↓reduceIte, Nat.reduceEqDiff, upd_upd, Int.reduceToNat]
                      refine hK _ _ ?_; clear hK K
                      refine OW_op rfl (lt_some (by decide)) (fun K hK r => ?_)
                      simp only [x_extract, i_extract, List.getElem?_toArray, List.getElem?_cons_zero, List.getElem?_cons_succ, orF_some, ev, Env.get, Option.getD_some, ↓reduceIte, Nat.reduceEqDiff, NextH, Env.putO, Env.put, ↓reduceIte, Nat.reduceEqDiff, upd_upd, Int.reduceToNat]
                      refine hK _ _ ?_; clear hK K
                      refine OW_op rfl (lt_some (by decide)) (fun K hK r => ?_)
                      simp only [x_assign, ev, Env.get, Option.getD_some, ↓reduceIte, Nat.reduceEqDiff, NextH, Env.putO, Env.put, ↓reduceIte, Nat.reduceEqDiff, upd_upd, Int.reduceToNat]
                      refine hK _ _ ?_; clear hK K
                      refine OW_op rfl (lt_some (by decide)) (fun K hK r => ?_)
                      simp only [x_assign, ev, Env.get, Option.getD_some, ↓reduceIte, Nat.reduceEqDiff, NextH, Env.putO, Env.put, ↓reduceIte, Nat.reduceEqDiff, upd_upd, Int.reduceToNat]
                      refine hK _ _ ?_; clear hK K
                      refine OW_nil ?_
                      try simp only [Ex.thnH, Ex.inBlockH, ↓reduceIte, Nat.reduceEqDiff]
                      refine hK14 _ _ ?_; try clear hK14 K14
                      refine CW_seq (fun K15 hK15 => ?_)
                      refine CW_region ?_
                      refine OW_op rfl (lt_some (by decide)) (fun K hK r => ?_)
                      simp only [x_move, ev, Env.get, Option.getD_some, ↓reduceIte, Nat.reduceEqDiff, NextH, Env.putO, Env.put, ↓reduceIte, Nat.reduceEqDiff, upd_upd, Int.reduceToNat]
                      refine hK _ _ ?_; clear hK K
                      refine OW_op rfl (lt_some (by decide)) (fun K hK r => ?_)
                      simp only [x_bin, g_int, g_bool, g_string, g_pointer, g_slice, g_map, g_func, g_nilFunc, g_err, g_iface, g_nil_iface, g_nil_r, g_nil_l, ev, Env.get, Option.getD_some, ↓reduceIte, Nat.reduceEqDiff, NextH, Env.putO, Env.put, ↓reduceIte, Nat.reduceEqDiff, upd_upd, Int.reduceToNat]
                      first | rw [b_err_neq _ _ Try.underlying29] | (rw [e_neq _ _ _ _ (by simp), q_equal]; first | rw [q_iface_nil _ _ _ Try.underlying29] | rw [q_nil_iface _ _ _ Try.underlying29] | rw [q_nil_nil _ _ _ Try.underlying29])
                      try simp only [ev, Env.get, Option.getD_some, ↓reduceIte, Nat.reduceEqDiff, NextH, Env.putO, Env.put, ↓reduceIte, Nat.reduceEqDiff, upd_upd, Int.reduceToNat]
                      refine hK _ _ ?_; clear hK K
                      refine OW_op rfl (lt_some (by decide)) (fun K hK r => ?_)
                      simp only [x_move, ev, Env.get, Option.getD_some, ↓reduceIte, Nat.reduceEqDiff, NextH, Env.putO, Env.put, ↓reduceIte, Nat.reduceEqDiff, upd_upd, Int.reduceToNat]
                      refine hK _ _ ?_; clear hK K
                      (first | refine OW_split (d := 64) rfl (fun g64 => ?_) (fun g64 => ?_) | skip)
                      all_goals try (exfalso; exact cnA g64)
                      all_goals (try simp only [decide_eq_true_eq, decide_eq_false_iff_not, Bool.not_eq_true, Bool.not_eq_false, Bool.and_eq_true, Bool.or_eq_true, Bool.or_eq_false_iff, Bool.not_eq_true, Bool.not_eq_eq_eq_not, Bool.not_true, Bool.not_false] at g64)
                      all_goals
                        try simp only [NextH, Env.putO, Env.put, ↓reduceIte, Nat.reduceEqDiff, upd_upd, Int.reduceToNat]
                        first
                        | refine OW_guardT rfl (lt_some (by decide)) rfl (fun K hK r => ?_)
                          simp only [x_move, ev, Env.get, Option.getD_some, ↓reduceIte, Nat.reduceEqDiff, NextH, Env.putO, Env.put, ↓reduceIte, Nat.reduceEqDiff, upd_upd, Int.reduceToNat]
                          refine hK _ _ ?_; clear hK K
                        | refine OW_guardF rfl (lt_some (by decide)) rfl ?_
                          simp only [NextH, Env.putO, Env.put, ↓reduceIte, Nat.reduceEqDiff, upd_upd, Int.reduceToNat]
                        first
                        | refine OW_guardT rfl (lt_some (by decide)) rfl (fun K hK r => ?_)
                          simp only [x_move, ev, Env.get, Option.getD_some, ↓reduceIte, Nat.reduceEqDiff, NextH, Env.putO, Env.put, ↓reduceIte, Nat.reduceEqDiff, upd_upd, Int.reduceToNat]
                          refine hK _ _ ?_; clear hK K
                        | refine OW_guardF rfl (lt_some (by decide)) rfl ?_
                          simp only [NextH, Env.putO, Env.put, ↓reduceIte, Nat.reduceEqDiff, upd_upd, Int.reduceToNat]
                        first
                        | refine OW_guardT rfl (lt_some (by decide)) rfl (fun K hK r => ?_)
                          simp (disch := (first | omega | decide)) only [x_bin, g_int, b_neq, dec_lt_t, dec_lt_f, dec_le_t, dec_le_f, dec_eq_t, dec_eq_f, Bool.not_true, Bool.not_false, ev, Env.get, Option.getD_some, ↓reduceIte, Nat.reduceEqDiff, NextH, Env.putO, Env.put, ↓reduceIte, Nat.reduceEqDiff, upd_upd, Int.reduceToNat]
                          refine hK _ _ ?_; clear hK K
                        | refine OW_guardF rfl (lt_some (by decide)) rfl ?_
                          simp only [NextH, Env.putO, Env.put, ↓reduceIte, Nat.reduceEqDiff, upd_upd, Int.reduceToNat]
                        refine OW_op rfl (lt_some (by decide)) (fun K hK r => ?_)
                        simp only [x_pick, l_asBool, HL.ite_bool, if_true, if_false, Bool.false_eq_true, ev, Env.get, Option.getD_some, ↓reduceIte, Nat.reduceEqDiff, NextH, Env.putO, Env.put, ↓reduceIte, Nat.reduceEqDiff, upd_upd, Int.reduceToNat]
                        refine hK _ _ ?_; clear hK K
                        refine OW_nil ?_
                        try simp only [Ex.thnH, Ex.inBlockH, ↓reduceIte, Nat.reduceEqDiff]
                        refine hK15 _ _ ?_; try clear hK15 K15
                        refine CW_cond (fun r => rfl) (fun c68 => ?_) (fun c68 => ?_)
                        · first
                          | (exfalso; exact cnA c68; done)
                          | skip
                            (try simp only [decide_eq_true_eq, decide_eq_false_iff_not, Bool.not_eq_true, Bool.not_eq_false, Bool.and_eq_true, Bool.or_eq_true, Bool.or_eq_false_iff, Bool.not_eq_true, Bool.not_eq_eq_eq_not, Bool.not_true, Bool.not_false] at c68)
                            refine CW_seq (fun K16 hK16 => ?_)
                            refine CW_region ?_
                            refine OW_op rfl (lt_some (by decide)) (fun K hK r => ?_)
                            simp only [x_assign, ev, Env.get, Option.getD_some, ↓reduceIte, Nat.reduceEqDiff, NextH, Env.putO, Env.put, ↓reduceIte, Nat.reduceEqDiff, upd_upd, Int.reduceToNat]
                            refine hK _ _ ?_; clear hK K
                            refine OW_nil ?_
                            try simp only [Ex.thnH, Ex.inBlockH, ↓reduceIte, Nat.reduceEqDiff]
                            refine hK16 _ _ ?_; try clear hK16 K16
                            refine CW_ret ?_
                            try simp only [Ex.thnH, Ex.inBlockH, ↓reduceIte, Nat.reduceEqDiff]
                            exfalso; simp_all
                        · first
                          | (exfalso; exact cnA c68; done)
                          | skip
                            (try simp only [decide_eq_true_eq, decide_eq_false_iff_not, Bool.not_eq_true, Bool.not_eq_false, Bool.and_eq_true, Bool.or_eq_true, Bool.or_eq_false_iff, Bool.not_eq_true, Bool.not_eq_eq_eq_not, Bool.not_true, Bool.not_false] at c68)
                            refine CW_skip ?_
                            try simp only [Ex.thnH, Ex.inBlockH, ↓reduceIte, Nat.reduceEqDiff]
                            refine hK11 _ _ ?_; try clear hK11 K11
                            refine CW_seq (fun K17 hK17 => ?_)
                            refine CW_region ?_
                            refine OW_op rfl (lt_some (by decide)) (fun K hK r => ?_)
                            simp only [x_move, ev, Env.get, Option.getD_some, ↓reduceIte, Nat.reduceEqDiff, NextH, Env.putO, Env.put, ↓reduceIte, Nat.reduceEqDiff, upd_upd, Int.reduceToNat]
                            refine hK _ _ ?_; clear hK K
                            refine OW_op rfl (lt_some (by decide)) (fun K hK r => ?_)
                            simp only [x_move, ev, Env.get, Option.getD_some, ↓reduceIte, Nat.reduceEqDiff, NextH, Env.putO, Env.put, ↓reduceIte, Nat.reduceEqDiff, upd_upd, Int.reduceToNat]
                            refine hK _ _ ?_; clear hK K
                            refine OW_op rfl (lt_some (by decide)) (fun K hK r => ?_)
                            simp only [x_callF _ bd24, List.map_toArray, List.map_cons, List.map_nil, ev, Env.get, Option.getD_some, ↓reduceIte, Nat.reduceEqDiff, NextH, Env.putO, Env.put, ↓reduceIte, Nat.reduceEqDiff, upd_upd, Int.reduceToNat]
                            refine (Div_all _ a b a1 a2 b1 b2).mono ?_
                            rintro v H' ⟨rfl, rfl⟩
                            try simp only [ev, Env.get, Option.getD_some, ↓reduceIte, Nat.reduceEqDiff, NextH, Env.putO, Env.put, ↓reduceIte, Nat.reduceEqDiff, upd_upd, Int.reduceToNat]
                            refine hK _ _ ?_; clear hK K
                            refine OW_op rfl (lt_some (by decide)) (fun K hK r => ?_)
                            simp only [x_move, ev, Env.get, Option.getD_some, ↓reduceIte, Nat.reduceEqDiff, NextH, Env.putO, Env.put, ↓reduceIte, Nat.reduceEqDiff, upd_upd, Int.reduceToNat]
                            refine hK _ _ ?_; clear hK K
                            refine OW_op rfl (lt_some (by decide)) (fun K hK r => ?_)
                            simp only [x_extract, i_extract, List.getElem?_toArray, List.getElem?_cons_zero, List.getElem?_cons_succ, orF_some, ev, Env.get, Option.getD_some, ↓reduceIte, Nat.reduceEqDiff, NextH, Env.putO, Env.put, ↓reduceIte, Nat.reduceEqDiff, upd_upd, Int.reduceToNat]
                            refine hK _ _ ?_; clear hK K
                            refine OW_op rfl (lt_some (by decide)) (fun K hK r => ?_)
                            simp only [x_extract, i_extract, List.getElem?_toArray, List.getElem?_cons_zero, List.getElem?_cons_succ, orF_some, ev, Env.get, Option.getD_some, ↓reduceIte, Nat.reduceEqDiff, NextH, Env.putO, Env.put, ↓reduceIte, Nat.reduceEqDiff, upd_upd, Int.reduceToNat]
                            refine hK _ _ ?_; clear hK K
                            refine OW_op rfl (lt_some (by decide)) (fun K hK r => ?_)
                            simp only [x_assign, ev, Env.get, Option.getD_some, ↓reduceIte, Nat.reduceEqDiff, NextH, Env.putO, Env.put, ↓reduceIte, Nat.reduceEqDiff, upd_upd, Int.reduceToNat]
                            refine hK _ _ ?_; clear hK K
                            refine OW_op rfl (lt_some (by decide)) (fun K hK r => ?_)
                            simp only [x_assign, ev, Env.get, Option.getD_some, ↓reduceIte, Nat.reduceEqDiff, NextH, Env.putO, Env.put, ↓reduceIte, Nat.reduceEqDiff, upd_upd, Int.reduceToNat]
                            refine hK _ _ ?_; clear hK K
                            refine OW_nil ?_
                            try simp only [Ex.thnH, Ex.inBlockH, ↓reduceIte, Nat.reduceEqDiff]
                            refine hK17 _ _ ?_; try clear hK17 K17
                            refine CW_seq (fun K18 hK18 => ?_)
                            refine CW_seq (fun K19 hK19 => ?_)
                            refine CW_region ?_
                            refine OW_op rfl (lt_some (by decide)) (fun K hK r => ?_)
                            simp only [x_move, ev, Env.get, Option.getD_some, ↓reduceIte, Nat.reduceEqDiff, NextH, Env.putO, Env.put, ↓reduceIte, Nat.reduceEqDiff, upd_upd, Int.reduceToNat]
                            refine hK _ _ ?_; clear hK K
                            refine OW_op rfl (lt_some (by decide)) (fun K hK r => ?_)
                            simp only [x_bin, g_int, g_bool, g_string, g_pointer, g_slice, g_map, g_func, g_nilFunc, g_err, g_iface, g_nil_iface, g_nil_r, g_nil_l, ev, Env.get, Option.getD_some, ↓reduceIte, Nat.reduceEqDiff, NextH, Env.putO, Env.put, ↓reduceIte, Nat.reduceEqDiff, upd_upd, Int.reduceToNat]
                            first | rw [b_err_neq _ _ Try.underlying29] | (rw [e_neq _ _ _ _ (by simp), q_equal]; first | rw [q_iface_nil _ _ _ Try.underlying29] | rw [q_nil_iface _ _ _ Try.underlying29] | rw [q_nil_nil _ _ _ Try.underlying29])
                            rw [dvE_isSome]
                            try simp only [ev, Env.get, Option.getD_some, ↓reduceIte, Nat.reduceEqDiff, NextH, Env.putO, Env.put, ↓reduceIte, Nat.reduceEqDiff, upd_upd, Int.reduceToNat]
                            refine hK _ _ ?_; clear hK K
                            refine OW_nil ?_
                            try simp only [Ex.thnH, Ex.inBlockH, ↓reduceIte, Nat.reduceEqDiff]
                            refine hK19 _ _ ?_; try clear hK19 K19
                            refine CW_cond (fun r => rfl) (fun c76 => ?_) (fun c76 => ?_)
                            · first
                              | (exfalso; exact cnA c76; done)
                              | skip
                                have hbad := dv_bad a1 a2 (of_decide_eq_true c76)
                                refine CW_seq (fun K20 hK20 => ?_)
                                refine CW_region ?_
                                refine OW_op rfl (lt_some (by decide)) (fun K hK r => ?_)
                                simp only [x_move, ev, Env.get, Option.getD_some, ↓reduceIte, Nat.reduceEqDiff, NextH, Env.putO, Env.put, ↓reduceIte, Nat.reduceEqDiff, upd_upd, Int.reduceToNat]
                                refine hK _ _ ?_; clear hK K
                                refine OW_op rfl (lt_some (by decide)) (fun K hK r => ?_)
                                simp (disch := (first | omega | decide)) only [x_bin, g_int, b_eql, dec_lt_t, dec_lt_f, dec_le_t, dec_le_f, dec_eq_t, dec_eq_f, Bool.not_true, Bool.not_false, ev, Env.get, Option.getD_some, ↓reduceIte, Nat.reduceEqDiff, NextH, Env.putO, Env.put, ↓reduceIte, Nat.reduceEqDiff, upd_upd, Int.reduceToNat]
                                refine hK _ _ ?_; clear hK K
                                refine OW_op rfl (lt_some (by decide)) (fun K hK r => ?_)
                                simp only [x_move, ev, Env.get, Option.getD_some, ↓reduceIte, Nat.reduceEqDiff, NextH, Env.putO, Env.put, ↓reduceIte, Nat.reduceEqDiff, upd_upd, Int.reduceToNat]
                                refine hK _ _ ?_; clear hK K
                                (first | refine OW_split (d := 79) rfl (fun g79 => ?_) (fun g79 => ?_) | skip)
                                all_goals try (exfalso; exact cnA g79)
                                all_goals (try simp only [decide_eq_true_eq, decide_eq_false_iff_not, Bool.not_eq_true, Bool.not_eq_false, Bool.and_eq_true, Bool.or_eq_true, Bool.or_eq_false_iff, Bool.not_eq_true, Bool.not_eq_eq_eq_not, Bool.not_true, Bool.not_false] at g79)
                                all_goals
                                  try simp only [NextH, Env.putO, Env.put, ↓reduceIte, Nat.reduceEqDiff, upd_upd, Int.reduceToNat]
                                  first
                                  | refine OW_guardT rfl (lt_some (by decide)) rfl (fun K hK r => ?_)
                                    simp only [x_move, ev, Env.get, Option.getD_some, ↓reduceIte, Nat.reduceEqDiff, NextH, Env.putO, Env.put, ↓reduceIte, Nat.reduceEqDiff, upd_upd, Int.reduceToNat]
                                    refine hK _ _ ?_; clear hK K
                                  | refine OW_guardF rfl (lt_some (by decide)) rfl ?_
                                    simp only [NextH, Env.putO, Env.put, ↓reduceIte, Nat.reduceEqDiff, upd_upd, Int.reduceToNat]
                                  first
                                  | refine OW_guardT rfl (lt_some (by decide)) rfl (fun K hK r => ?_)
                                    simp (disch := (first | omega | decide)) only [x_bin, g_int, b_eql, dec_lt_t, dec_lt_f, dec_le_t, dec_le_f, dec_eq_t, dec_eq_f, Bool.not_true, Bool.not_false, ev, Env.get, Option.getD_some, ↓reduceIte, Nat.reduceEqDiff, NextH, Env.putO, Env.put, ↓reduceIte, Nat.reduceEqDiff, upd_upd, Int.reduceToNat]
                                    refine hK _ _ ?_; clear hK K
                                  | refine OW_guardF rfl (lt_some (by decide)) rfl ?_
                                    simp only [NextH, Env.putO, Env.put, ↓reduceIte, Nat.reduceEqDiff, upd_upd, Int.reduceToNat]
                                  first
                                  | refine OW_guardT rfl (lt_some (by decide)) rfl (fun K hK r => ?_)
                                    simp only [x_move, ev, Env.get, Option.getD_some, ↓reduceIte, Nat.reduceEqDiff, NextH, Env.putO, Env.put, ↓reduceIte, Nat.reduceEqDiff, upd_upd, Int.reduceToNat]
                                    refine hK _ _ ?_; clear hK K
                                  | refine OW_guardF rfl (lt_some (by decide)) rfl ?_
                                    simp only [NextH, Env.putO, Env.put, ↓reduceIte, Nat.reduceEqDiff, upd_upd, Int.reduceToNat]
                                  (first | refine OW_split (d := 82) rfl (fun g82 => ?_) (fun g82 => ?_) | skip)
                                  all_goals try (exfalso; exact cnA g82)
                                  all_goals (try simp only [decide_eq_true_eq, decide_eq_false_iff_not, Bool.not_eq_true, Bool.not_eq_false, Bool.and_eq_true, Bool.or_eq_true, Bool.or_eq_false_iff, Bool.not_eq_true, Bool.not_eq_eq_eq_not, Bool.not_true, Bool.not_false] at g82)
                                  all_goals
                                    try simp only [NextH, Env.putO, Env.put, ↓reduceIte, Nat.reduceEqDiff, upd_upd, Int.reduceToNat]
                                    first
                                    | refine OW_guardT rfl (lt_some (by decide)) rfl (fun K hK r => ?_)
                                      simp only [x_move, ev, Env.get, Option.getD_some, ↓reduceIte, Nat.reduceEqDiff, NextH, Env.putO, Env.put, ↓reduceIte, Nat.reduceEqDiff, upd_upd, Int.reduceToNat]
                                      refine hK _ _ ?_; clear hK K
                                    | refine OW_guardF rfl (lt_some (by decide)) rfl ?_
                                      simp only [NextH, Env.putO, Env.put, ↓reduceIte, Nat.reduceEqDiff, upd_upd, Int.reduceToNat]
                                    first
                                    | refine OW_guardT rfl (lt_some (by decide)) rfl (fun K hK r => ?_)
                                      simp (disch := (first | omega | decide)) only [x_bin, g_int, b_eql, dec_lt_t, dec_lt_f, dec_le_t, dec_le_f, dec_eq_t, dec_eq_f, Bool.not_true, Bool.not_false, ev, Env.get, Option.getD_some, ↓reduceIte, Nat.reduceEqDiff, NextH, Env.putO, Env.put, ↓reduceIte, Nat.reduceEqDiff, upd_upd, Int.reduceToNat]
                                      refine hK _ _ ?_; clear hK K
                                    | refine OW_guardF rfl (lt_some (by decide)) rfl ?_
                                      simp only [NextH, Env.putO, Env.put, ↓reduceIte, Nat.reduceEqDiff, upd_upd, Int.reduceToNat]
                                    first
                                    | refine OW_guardT rfl (lt_some (by decide)) rfl (fun K hK r => ?_)
                                      simp only [x_pick, l_asBool, HL.ite_bool, if_true, if_false, Bool.false_eq_true, ev, Env.get, Option.getD_some, ↓reduceIte, Nat.reduceEqDiff, NextH, Env.putO, Env.put, ↓reduceIte, Nat.reduceEqDiff, upd_upd, Int.reduceToNat]
                                      refine hK _ _ ?_; clear hK K
                                    | refine OW_guardF rfl (lt_some (by decide)) rfl ?_
                                      simp only [NextH, Env.putO, Env.put, ↓reduceIte, Nat.reduceEqDiff, upd_upd, Int.reduceToNat]
                                    refine OW_op rfl (lt_some (by decide)) (fun K hK r => ?_)
                                    simp only [x_pick, l_asBool, HL.ite_bool, if_true, if_false, Bool.false_eq_true, ev, Env.get, Option.getD_some, ↓reduceIte, Nat.reduceEqDiff, NextH, Env.putO, Env.put, ↓reduceIte, Nat.reduceEqDiff, upd_upd, Int.reduceToNat]
                                    refine hK _ _ ?_; clear hK K
                                    refine OW_op rfl (lt_some (by decide)) (fun K hK r => ?_)
                                    simp only [x_assign, ev, Env.get, Option.getD_some, ↓reduceIte, Nat.reduceEqDiff, NextH, Env.putO, Env.put, ↓reduceIte, Nat.reduceEqDiff, upd_upd, Int.reduceToNat]
                                    refine hK _ _ ?_; clear hK K
                                    refine OW_nil ?_
                                    try simp only [Ex.thnH, Ex.inBlockH, ↓reduceIte, Nat.reduceEqDiff]
                                    refine hK20 _ _ ?_; try clear hK20 K20
                                    refine CW_ret ?_
                                    try simp only [Ex.thnH, Ex.inBlockH, ↓reduceIte, Nat.reduceEqDiff]
                                    refine ⟨[_], ⟨rfl, trivial⟩, _, Le.refl _, ?_, lhA⟩
                                    show Value.bool _ = _
                                    refine congrArg Value.bool ?_
                                    clear c76
                                    first | rfl | (simp_all; done) | (simp_all; omega)
                            · first
                              | (exfalso; exact cnA c76; done)
                              | skip
                                (try simp only [decide_eq_true_eq, decide_eq_false_iff_not, Bool.not_eq_true, Bool.not_eq_false, Bool.and_eq_true, Bool.or_eq_true, Bool.or_eq_false_iff, Bool.not_eq_true, Bool.not_eq_eq_eq_not, Bool.not_true, Bool.not_false] at c76)
                                have hfd : b ≠ 0 ∧ fitsI (a.tdiv b) := by first | assumption | (simp only [Classical.not_not] at c76; exact c76) | (apply Classical.byContradiction; intro hc; exact c76 hc)
                                refine CW_skip ?_
                                try simp only [Ex.thnH, Ex.inBlockH, ↓reduceIte, Nat.reduceEqDiff]
                                refine hK18 _ _ ?_; try clear hK18 K18
                                refine CW_seq (fun K21 hK21 => ?_)
                                refine CW_region ?_
                                refine OW_op rfl (lt_some (by decide)) (fun K hK r => ?_)
                                simp only [x_move, ev, Env.get, Option.getD_some, ↓reduceIte, Nat.reduceEqDiff, NextH, Env.putO, Env.put, ↓reduceIte, Nat.reduceEqDiff, upd_upd, Int.reduceToNat]
                                refine hK _ _ ?_; clear hK K
                                refine OW_op rfl (lt_some (by decide)) (fun K hK r => ?_)
                                simp only [x_move, ev, Env.get, Option.getD_some, ↓reduceIte, Nat.reduceEqDiff, NextH, Env.putO, Env.put, ↓reduceIte, Nat.reduceEqDiff, upd_upd, Int.reduceToNat]
                                refine hK _ _ ?_; clear hK K
                                refine OW_op rfl (lt_some (by decide)) (fun K hK r => ?_)
                                simp only [x_callF _ bd25, List.map_toArray, List.map_cons, List.map_nil, ev, Env.get, Option.getD_some, ↓reduceIte, Nat.reduceEqDiff, NextH, Env.putO, Env.put, ↓reduceIte, Nat.reduceEqDiff, upd_upd, Int.reduceToNat]
                                refine (Mod_ok _ a b a1 a2 b1 b2 hfd.1).mono ?_
                                rintro v H' ⟨rfl, rfl⟩
                                try simp only [ev, Env.get, Option.getD_some, ↓reduceIte, Nat.reduceEqDiff, NextH, Env.putO, Env.put, ↓reduceIte, Nat.reduceEqDiff, upd_upd, Int.reduceToNat]
                                refine hK _ _ ?_; clear hK K
                                refine OW_op rfl (lt_some (by decide)) (fun K hK r => ?_)
                                simp only [x_move, ev, Env.get, Option.getD_some, ↓reduceIte, Nat.reduceEqDiff, NextH, Env.putO, Env.put, ↓reduceIte, Nat.reduceEqDiff, upd_upd, Int.reduceToNat]
                                refine hK _ _ ?_; clear hK K
                                refine OW_op rfl (lt_some (by decide)) (fun K hK r => ?_)
                                simp only [x_extract, i_extract, List.getElem?_toArray, List.getElem?_cons_zero, List.getElem?_cons_succ, orF_some, ev, Env.get, Option.getD_some, ↓reduceIte, Nat.reduceEqDiff, NextH, Env.putO, Env.put, ↓reduceIte, Nat.reduceEqDiff, upd_upd, Int.reduceToNat]
                                refine hK _ _ ?_; clear hK K
                                refine OW_op rfl (lt_some (by decide)) (fun K hK r => ?_)
                                simp only [x_extract, i_extract, List.getElem?_toArray, List.getElem?_cons_zero, List.getElem?_cons_succ, orF_some, ev, Env.get, Option.getD_some, ↓reduceIte, Nat.reduceEqDiff, NextH, Env.putO, Env.put, ↓reduceIte, Nat.reduceEqDiff, upd_upd, Int.reduceToNat]
                                refine hK _ _ ?_; clear hK K
                                refine OW_op rfl (lt_some (by decide)) (fun K hK r => ?_)
                                simp only [x_assign, ev, Env.get, Option.getD_some, ↓reduceIte, Nat.reduceEqDiff, NextH, Env.putO, Env.put, ↓reduceIte, Nat.reduceEqDiff, upd_upd, Int.reduceToNat]
                                refine hK _ _ ?_; clear hK K
                                refine OW_op rfl (lt_some (by decide)) (fun K hK r => ?_)
                                simp only [x_assign, ev, Env.get, Option.getD_some, ↓reduceIte, Nat.reduceEqDiff, NextH, Env.putO, Env.put, ↓reduceIte, Nat.reduceEqDiff, upd_upd, Int.reduceToNat]
                                refine hK _ _ ?_; clear hK K
                                refine OW_nil ?_
                                try simp only [Ex.thnH, Ex.inBlockH, ↓reduceIte, Nat.reduceEqDiff]
                                refine hK21 _ _ ?_; try clear hK21 K21
                                refine CW_seq (fun K22 hK22 => ?_)
                                refine CW_region ?_
                                refine OW_op rfl (lt_some (by decide)) (fun K hK r => ?_)
                                simp only [x_move, ev, Env.get, Option.getD_some, ↓reduceIte, Nat.reduceEqDiff, NextH, Env.putO, Env.put, ↓reduceIte, Nat.reduceEqDiff, upd_upd, Int.reduceToNat]
                                refine hK _ _ ?_; clear hK K
                                refine OW_op rfl (lt_some (by decide)) (fun K hK r => ?_)
                                simp only [x_move, ev, Env.get, Option.getD_some, ↓reduceIte, Nat.reduceEqDiff, NextH, Env.putO, Env.put, ↓reduceIte, Nat.reduceEqDiff, upd_upd, Int.reduceToNat]
                                refine hK _ _ ?_; clear hK K
                                refine OW_op rfl (lt_some (by decide)) (fun K hK r => ?_)
                                simp only [x_callF _ bd22, List.map_toArray, List.map_cons, List.map_nil, ev, Env.get, Option.getD_some, ↓reduceIte, Nat.reduceEqDiff, NextH, Env.putO, Env.put, ↓reduceIte, Nat.reduceEqDiff, upd_upd, Int.reduceToNat]
                                have hdi : dvI a b = a.tdiv b := by unfold dvI; rw [if_neg hfd.1, okI_fits hfd.2]
                                rw [hdi]
                                have hdm := div_mul_fits (b := b) a1 a2
                                refine (Mul_ok _ (a.tdiv b) b hfd.2.1 hfd.2.2 b1 b2).mono ?_
                                rintro v H' ⟨rfl, rfl⟩
                                rw [okI_fits hdm, okE_fits hdm]
                                try simp only [ev, Env.get, Option.getD_some, ↓reduceIte, Nat.reduceEqDiff, NextH, Env.putO, Env.put, ↓reduceIte, Nat.reduceEqDiff, upd_upd, Int.reduceToNat]
                                refine hK _ _ ?_; clear hK K
                                refine OW_op rfl (lt_some (by decide)) (fun K hK r => ?_)
                                simp only [x_move, ev, Env.get, Option.getD_some, ↓reduceIte, Nat.reduceEqDiff, NextH, Env.putO, Env.put, ↓reduceIte, Nat.reduceEqDiff, upd_upd, Int.reduceToNat]
                                refine hK _ _ ?_; clear hK K
                                refine OW_op rfl (lt_some (by decide)) (fun K hK r => ?_)
                                simp only [x_extract, i_extract, List.getElem?_toArray, List.getElem?_cons_zero, List.getElem?_cons_succ, orF_some, ev, Env.get, Option.getD_some, ↓reduceIte, Nat.reduceEqDiff, NextH, Env.putO, Env.put, ↓reduceIte, Nat.reduceEqDiff, upd_upd, Int.reduceToNat]
                                refine hK _ _ ?_; clear hK K
                                refine OW_op rfl (lt_some (by decide)) (fun K hK r => ?_)
                                simp only [x_extract, i_extract, List.getElem?_toArray, List.getElem?_cons_zero, List.getElem?_cons_succ, orF_some, ev, Env.get, Option.getD_some, ↓reduceIte, Nat.reduceEqDiff, NextH, Env.putO, Env.put, ↓reduceIte, Nat.reduceEqDiff, upd_upd, Int.reduceToNat]
                                refine hK _ _ ?_; clear hK K
                                refine OW_op rfl (lt_some (by decide)) (fun K hK r => ?_)
                                simp only [x_assign, ev, Env.get, Option.getD_some, ↓reduceIte, Nat.reduceEqDiff, NextH, Env.putO, Env.put, ↓reduceIte, Nat.reduceEqDiff, upd_upd, Int.reduceToNat]
                                refine hK _ _ ?_; clear hK K
                                refine OW_op rfl (lt_some (by decide)) (fun K hK r => ?_)
                                simp only [x_assign, ev, Env.get, Option.getD_some, ↓reduceIte, Nat.reduceEqDiff, NextH, Env.putO, Env.put, ↓reduceIte, Nat.reduceEqDiff, upd_upd, Int.reduceToNat]
                                refine hK _ _ ?_; clear hK K
                                refine OW_nil ?_
                                try simp only [Ex.thnH, Ex.inBlockH, ↓reduceIte, Nat.reduceEqDiff]
                                refine hK22 _ _ ?_; try clear hK22 K22
                                refine CW_seq (fun K23 hK23 => ?_)
                                refine CW_region ?_
                                refine OW_op rfl (lt_some (by decide)) (fun K hK r => ?_)
                                simp only [x_move, ev, Env.get, Option.getD_some, ↓reduceIte, Nat.reduceEqDiff, NextH, Env.putO, Env.put, ↓reduceIte, Nat.reduceEqDiff, upd_upd, Int.reduceToNat]
                                refine hK _ _ ?_; clear hK K
                                refine OW_op rfl (lt_some (by decide)) (fun K hK r => ?_)
                                simp only [x_move, ev, Env.get, Option.getD_some, ↓reduceIte, Nat.reduceEqDiff, NextH, Env.putO, Env.put, ↓reduceIte, Nat.reduceEqDiff, upd_upd, Int.reduceToNat]
                                refine hK _ _ ?_; clear hK K
                                refine OW_op rfl (lt_some (by decide)) (fun K hK r => ?_)
                                simp only [x_callF _ bd20, List.map_toArray, List.map_cons, List.map_nil, ev, Env.get, Option.getD_some, ↓reduceIte, Nat.reduceEqDiff, NextH, Env.putO, Env.put, ↓reduceIte, Nat.reduceEqDiff, upd_upd, Int.reduceToNat]
                                have hmf := tmod_fits (b := b) a1 a2
                                refine (Add_ok _ (a.tdiv b * b) (a.tmod b) hdm.1 hdm.2 hmf.1 hmf.2).mono ?_
                                rintro v H' ⟨rfl, rfl⟩
                                rw [div_mul, okI_fits ⟨a1, a2⟩, okE_fits ⟨a1, a2⟩]
                                have hsg := tmod_sign a b
                                try simp only [ev, Env.get, Option.getD_some, ↓reduceIte, Nat.reduceEqDiff, NextH, Env.putO, Env.put, ↓reduceIte, Nat.reduceEqDiff, upd_upd, Int.reduceToNat]
                                refine hK _ _ ?_; clear hK K
                                refine OW_op rfl (lt_some (by decide)) (fun K hK r => ?_)
                                simp only [x_move, ev, Env.get, Option.getD_some, ↓reduceIte, Nat.reduceEqDiff, NextH, Env.putO, Env.put, ↓reduceIte, Nat.reduceEqDiff, upd_upd, Int.reduceToNat]
                                refine hK _ _ ?_; clear hK K
                                refine OW_op rfl (lt_some (by decide)) (fun K hK r => ?_)
                                simp only [x_extract, i_extract, List.getElem?_toArray, List.getElem?_cons_zero, List.getElem?_cons_succ, orF_some, ev, Env.get, Option.getD_some, ↓reduceIte, Nat.reduceEqDiff, NextH, Env.putO, Env.put, ↓reduceIte, Nat.reduceEqDiff, upd_upd, Int.reduceToNat]
                                refine hK _ _ ?_; clear hK K
                                refine OW_op rfl (lt_some (by decide)) (fun K hK r => ?_)
                                simp only [x_extract, i_extract, List.getElem?_toArray, List.getElem?_cons_zero, List.getElem?_cons_succ, orF_some, ev, Env.get, Option.getD_some, ↓reduceIte, Nat.reduceEqDiff, NextH, Env.putO, Env.put, ↓reduceIte, Nat.reduceEqDiff, upd_upd, Int.reduceToNat]
                                refine hK _ _ ?_; clear hK K
                                refine OW_op rfl (lt_some (by decide)) (fun K hK r => ?_)
                                simp only [x_assign, ev, Env.get, Option.getD_some, ↓reduceIte, Nat.reduceEqDiff, NextH, Env.putO, Env.put, ↓reduceIte, Nat.reduceEqDiff, upd_upd, Int.reduceToNat]
                                refine hK _ _ ?_; clear hK K
                                refine OW_op rfl (lt_some (by decide)) (fun K hK r => ?_)
                                simp only [x_assign, ev, Env.get, Option.getD_some, ↓reduceIte, Nat.reduceEqDiff, NextH, Env.putO, Env.put, ↓reduceIte, Nat.reduceEqDiff, upd_upd, Int.reduceToNat]
                                refine hK _ _ ?_; clear hK K
                                refine OW_nil ?_
                                try simp only [Ex.thnH, Ex.inBlockH, ↓reduceIte, Nat.reduceEqDiff]
                                refine hK23 _ _ ?_; try clear hK23 K23
                                refine CW_seq (fun K24 hK24 => ?_)
                                refine CW_region ?_
                                refine OW_op rfl (lt_some (by decide)) (fun K hK r => ?_)
                                simp only [x_move, ev, Env.get, Option.getD_some, ↓reduceIte, Nat.reduceEqDiff, NextH, Env.putO, Env.put, ↓reduceIte, Nat.reduceEqDiff, upd_upd, Int.reduceToNat]
                                refine hK _ _ ?_; clear hK K
                                refine OW_op rfl (lt_some (by decide)) (fun K hK r => ?_)
                                simp only [x_bin, g_int, g_bool, g_string, g_pointer, g_slice, g_map, g_func, g_nilFunc, g_err, g_iface, g_nil_iface, g_nil_r, g_nil_l, ev, Env.get, Option.getD_some, ↓reduceIte, Nat.reduceEqDiff, NextH, Env.putO, Env.put, ↓reduceIte, Nat.reduceEqDiff, upd_upd, Int.reduceToNat]
                                first | rw [b_err_eql _ _ Try.underlying29] | (rw [e_eql _ _ _ _ (by simp), q_equal]; first | rw [q_iface_nil _ _ _ Try.underlying29] | rw [q_nil_iface _ _ _ Try.underlying29] | rw [q_nil_nil _ _ _ Try.underlying29])
                                try simp only [ev, Env.get, Option.getD_some, ↓reduceIte, Nat.reduceEqDiff, NextH, Env.putO, Env.put, ↓reduceIte, Nat.reduceEqDiff, upd_upd, Int.reduceToNat]
                                refine hK _ _ ?_; clear hK K
                                refine OW_op rfl (lt_some (by decide)) (fun K hK r => ?_)
                                simp only [x_move, ev, Env.get, Option.getD_some, ↓reduceIte, Nat.reduceEqDiff, NextH, Env.putO, Env.put, ↓reduceIte, Nat.reduceEqDiff, upd_upd, Int.reduceToNat]
                                refine hK _ _ ?_; clear hK K
                                (first | refine OW_split (d := 107) rfl (fun g107 => ?_) (fun g107 => ?_) | skip)
                                all_goals try (exfalso; exact cnA g107)
                                all_goals (try simp only [decide_eq_true_eq, decide_eq_false_iff_not, Bool.not_eq_true, Bool.not_eq_false, Bool.and_eq_true, Bool.or_eq_true, Bool.or_eq_false_iff, Bool.not_eq_true, Bool.not_eq_eq_eq_not, Bool.not_true, Bool.not_false] at g107)
                                all_goals
                                  try simp only [NextH, Env.putO, Env.put, ↓reduceIte, Nat.reduceEqDiff, upd_upd, Int.reduceToNat]
                                  first
                                  | refine OW_guardT rfl (lt_some (by decide)) rfl (fun K hK r => ?_)
                                    simp only [x_move, ev, Env.get, Option.getD_some, ↓reduceIte, Nat.reduceEqDiff, NextH, Env.putO, Env.put, ↓reduceIte, Nat.reduceEqDiff, upd_upd, Int.reduceToNat]
                                    refine hK _ _ ?_; clear hK K
                                  | refine OW_guardF rfl (lt_some (by decide)) rfl ?_
                                    simp only [NextH, Env.putO, Env.put, ↓reduceIte, Nat.reduceEqDiff, upd_upd, Int.reduceToNat]
                                  first
                                  | refine OW_guardT rfl (lt_some (by decide)) rfl (fun K hK r => ?_)
                                    simp only [x_bin, g_int, g_bool, g_string, g_pointer, g_slice, g_map, g_func, g_nilFunc, g_err, g_iface, g_nil_iface, g_nil_r, g_nil_l, ev, Env.get, Option.getD_some, ↓reduceIte, Nat.reduceEqDiff, NextH, Env.putO, Env.put, ↓reduceIte, Nat.reduceEqDiff, upd_upd, Int.reduceToNat]
                                    first | rw [b_err_eql _ _ Try.underlying29] | (rw [e_eql _ _ _ _ (by simp), q_equal]; first | rw [q_iface_nil _ _ _ Try.underlying29] | rw [q_nil_iface _ _ _ Try.underlying29] | rw [q_nil_nil _ _ _ Try.underlying29])
                                    try simp only [ev, Env.get, Option.getD_some, ↓reduceIte, Nat.reduceEqDiff, NextH, Env.putO, Env.put, ↓reduceIte, Nat.reduceEqDiff, upd_upd, Int.reduceToNat]
                                    refine hK _ _ ?_; clear hK K
                                  | refine OW_guardF rfl (lt_some (by decide)) rfl ?_
                                    simp only [NextH, Env.putO, Env.put, ↓reduceIte, Nat.reduceEqDiff, upd_upd, Int.reduceToNat]
                                  refine OW_op rfl (lt_some (by decide)) (fun K hK r => ?_)
                                  simp only [x_pick, l_asBool, HL.ite_bool, if_true, if_false, Bool.false_eq_true, ev, Env.get, Option.getD_some, ↓reduceIte, Nat.reduceEqDiff, NextH, Env.putO, Env.put, ↓reduceIte, Nat.reduceEqDiff, upd_upd, Int.reduceToNat]
                                  refine hK _ _ ?_; clear hK K
                                  refine OW_op rfl (lt_some (by decide)) (fun K hK r => ?_)
                                  simp only [x_move, ev, Env.get, Option.getD_some, ↓reduceIte, Nat.reduceEqDiff, NextH, Env.putO, Env.put, ↓reduceIte, Nat.reduceEqDiff, upd_upd, Int.reduceToNat]
                                  refine hK _ _ ?_; clear hK K
                                  (first | refine OW_split (d := 111) rfl (fun g111 => ?_) (fun g111 => ?_) | skip)
                                  all_goals try (exfalso; exact cnA g111)
                                  all_goals (try simp only [decide_eq_true_eq, decide_eq_false_iff_not, Bool.not_eq_true, Bool.not_eq_false, Bool.and_eq_true, Bool.or_eq_true, Bool.or_eq_false_iff, Bool.not_eq_true, Bool.not_eq_eq_eq_not, Bool.not_true, Bool.not_false] at g111)
                                  all_goals
                                    try simp only [NextH, Env.putO, Env.put, ↓reduceIte, Nat.reduceEqDiff, upd_upd, Int.reduceToNat]
                                    first
                                    | refine OW_guardT rfl (lt_some (by decide)) rfl (fun K hK r => ?_)
                                      simp only [x_move, ev, Env.get, Option.getD_some, ↓reduceIte, Nat.reduceEqDiff, NextH, Env.putO, Env.put, ↓reduceIte, Nat.reduceEqDiff, upd_upd, Int.reduceToNat]
                                      refine hK _ _ ?_; clear hK K
                                    | refine OW_guardF rfl (lt_some (by decide)) rfl ?_
                                      simp only [NextH, Env.putO, Env.put, ↓reduceIte, Nat.reduceEqDiff, upd_upd, Int.reduceToNat]
                                    first
                                    | refine OW_guardT rfl (lt_some (by decide)) rfl (fun K hK r => ?_)
                                      simp only [x_bin, g_int, g_bool, g_string, g_pointer, g_slice, g_map, g_func, g_nilFunc, g_err, g_iface, g_nil_iface, g_nil_r, g_nil_l, ev, Env.get, Option.getD_some, ↓reduceIte, Nat.reduceEqDiff, NextH, Env.putO, Env.put, ↓reduceIte, Nat.reduceEqDiff, upd_upd, Int.reduceToNat]
                                      first | rw [b_err_eql _ _ Try.underlying29] | (rw [e_eql _ _ _ _ (by simp), q_equal]; first | rw [q_iface_nil _ _ _ Try.underlying29] | rw [q_nil_iface _ _ _ Try.underlying29] | rw [q_nil_nil _ _ _ Try.underlying29])
                                      try simp only [ev, Env.get, Option.getD_some, ↓reduceIte, Nat.reduceEqDiff, NextH, Env.putO, Env.put, ↓reduceIte, Nat.reduceEqDiff, upd_upd, Int.reduceToNat]
                                      refine hK _ _ ?_; clear hK K
                                    | refine OW_guardF rfl (lt_some (by decide)) rfl ?_
                                      simp only [NextH, Env.putO, Env.put, ↓reduceIte, Nat.reduceEqDiff, upd_upd, Int.reduceToNat]
                                    refine OW_op rfl (lt_some (by decide)) (fun K hK r => ?_)
                                    simp only [x_pick, l_asBool, HL.ite_bool, if_true, if_false, Bool.false_eq_true, ev, Env.get, Option.getD_some, ↓reduceIte, Nat.reduceEqDiff, NextH, Env.putO, Env.put, ↓reduceIte, Nat.reduceEqDiff, upd_upd, Int.reduceToNat]
                                    refine hK _ _ ?_; clear hK K
                                    refine OW_op rfl (lt_some (by decide)) (fun K hK r => ?_)
                                    simp only [x_move, ev, Env.get, Option.getD_some, ↓reduceIte, Nat.reduceEqDiff, NextH, Env.putO, Env.put, ↓reduceIte, Nat.reduceEqDiff, upd_upd, Int.reduceToNat]
                                    refine hK _ _ ?_; clear hK K
                                    (first | refine OW_split (d := 115) rfl (fun g115 => ?_) (fun g115 => ?_) | skip)
                                    all_goals try (exfalso; exact cnA g115)
                                    all_goals (try simp only [decide_eq_true_eq, decide_eq_false_iff_not, Bool.not_eq_true, Bool.not_eq_false, Bool.and_eq_true, Bool.or_eq_true, Bool.or_eq_false_iff, Bool.not_eq_true, Bool.not_eq_eq_eq_not, Bool.not_true, Bool.not_false] at g115)
                                    all_goals
                                      try simp only [NextH, Env.putO, Env.put, ↓reduceIte, Nat.reduceEqDiff, upd_upd, Int.reduceToNat]
                                      first
                                      | refine OW_guardT rfl (lt_some (by decide)) rfl (fun K hK r => ?_)
                                        simp only [x_move, ev, Env.get, Option.getD_some, ↓reduceIte, Nat.reduceEqDiff, NextH, Env.putO, Env.put, ↓reduceIte, Nat.reduceEqDiff, upd_upd, Int.reduceToNat]
                                        refine hK _ _ ?_; clear hK K
                                      | refine OW_guardF rfl (lt_some (by decide)) rfl ?_
                                        simp only [NextH, Env.putO, Env.put, ↓reduceIte, Nat.reduceEqDiff, upd_upd, Int.reduceToNat]
                                      first
                                      | refine OW_guardT rfl (lt_some (by decide)) rfl (fun K hK r => ?_)
                                        simp only [x_move, ev, Env.get, Option.getD_some, ↓reduceIte, Nat.reduceEqDiff, NextH, Env.putO, Env.put, ↓reduceIte, Nat.reduceEqDiff, upd_upd, Int.reduceToNat]
                                        refine hK _ _ ?_; clear hK K
                                      | refine OW_guardF rfl (lt_some (by decide)) rfl ?_
                                        simp only [NextH, Env.putO, Env.put, ↓reduceIte, Nat.reduceEqDiff, upd_upd, Int.reduceToNat]
                                      first
                                      | refine OW_guardT rfl (lt_some (by decide)) rfl (fun K hK r => ?_)
                                        simp (disch := (first | omega | decide)) only [x_bin, g_int, b_eql, dec_lt_t, dec_lt_f, dec_le_t, dec_le_f, dec_eq_t, dec_eq_f, Bool.not_true, Bool.not_false, ev, Env.get, Option.getD_some, ↓reduceIte, Nat.reduceEqDiff, NextH, Env.putO, Env.put, ↓reduceIte, Nat.reduceEqDiff, upd_upd, Int.reduceToNat]
                                        refine hK _ _ ?_; clear hK K
                                      | refine OW_guardF rfl (lt_some (by decide)) rfl ?_
                                        simp only [NextH, Env.putO, Env.put, ↓reduceIte, Nat.reduceEqDiff, upd_upd, Int.reduceToNat]
                                      refine OW_op rfl (lt_some (by decide)) (fun K hK r => ?_)
                                      simp only [x_pick, l_asBool, HL.ite_bool, if_true, if_false, Bool.false_eq_true, ev, Env.get, Option.getD_some, ↓reduceIte, Nat.reduceEqDiff, NextH, Env.putO, Env.put, ↓reduceIte, Nat.reduceEqDiff, upd_upd, Int.reduceToNat]
                                      refine hK _ _ ?_; clear hK K
                                      refine OW_op rfl (lt_some (by decide)) (fun K hK r => ?_)
                                      simp only [x_move, ev, Env.get, Option.getD_some, ↓reduceIte, Nat.reduceEqDiff, NextH, Env.putO, Env.put, ↓reduceIte, Nat.reduceEqDiff, upd_upd, Int.reduceToNat]
                                      refine hK _ _ ?_; clear hK K
                                      (first | refine OW_split (d := 120) rfl (fun g120 => ?_) (fun g120 => ?_) | skip)
                                      all_goals try (exfalso; exact cnA g120)
                                      all_goals (try simp only [decide_eq_true_eq, decide_eq_false_iff_not, Bool.not_eq_true, Bool.not_eq_false, Bool.and_eq_true, Bool.or_eq_true, Bool.or_eq_false_iff, Bool.not_eq_true, Bool.not_eq_eq_eq_not, Bool.not_true, Bool.not_false] at g120)
                                      all_goals
                                        try simp only [NextH, Env.putO, Env.put, ↓reduceIte, Nat.reduceEqDiff, upd_upd, Int.reduceToNat]
                                        first
                                        | refine OW_guardT rfl (lt_some (by decide)) rfl (fun K hK r => ?_)
                                          simp only [x_move, ev, Env.get, Option.getD_some, ↓reduceIte, Nat.reduceEqDiff, NextH, Env.putO, Env.put, ↓reduceIte, Nat.reduceEqDiff, upd_upd, Int.reduceToNat]
                                          refine hK _ _ ?_; clear hK K
                                        | refine OW_guardF rfl (lt_some (by decide)) rfl ?_
                                          simp only [NextH, Env.putO, Env.put, ↓reduceIte, Nat.reduceEqDiff, upd_upd, Int.reduceToNat]
                                        first
                                        | refine OW_guardT rfl (lt_some (by decide)) rfl (fun K hK r => ?_)
                                          simp (disch := (first | omega | decide)) only [x_bin, g_int, b_eql, dec_lt_t, dec_lt_f, dec_le_t, dec_le_f, dec_eq_t, dec_eq_f, Bool.not_true, Bool.not_false, ev, Env.get, Option.getD_some, ↓reduceIte, Nat.reduceEqDiff, NextH, Env.putO, Env.put, ↓reduceIte, Nat.reduceEqDiff, upd_upd, Int.reduceToNat]
                                          refine hK _ _ ?_; clear hK K
                                        | refine OW_guardF rfl (lt_some (by decide)) rfl ?_
                                          simp only [NextH, Env.putO, Env.put, ↓reduceIte, Nat.reduceEqDiff, upd_upd, Int.reduceToNat]
                                        first
                                        | refine OW_guardT rfl (lt_some (by decide)) rfl (fun K hK r => ?_)
                                          simp only [x_move, ev, Env.get, Option.getD_some, ↓reduceIte, Nat.reduceEqDiff, NextH, Env.putO, Env.put, ↓reduceIte, Nat.reduceEqDiff, upd_upd, Int.reduceToNat]
                                          refine hK _ _ ?_; clear hK K
                                        | refine OW_guardF rfl (lt_some (by decide)) rfl ?_
                                          simp only [NextH, Env.putO, Env.put, ↓reduceIte, Nat.reduceEqDiff, upd_upd, Int.reduceToNat]
                                        (first | refine OW_split (d := 123) rfl (fun g123 => ?_) (fun g123 => ?_) | skip)
                                        all_goals try (exfalso; exact cnA g123)
                                        all_goals (try simp only [decide_eq_true_eq, decide_eq_false_iff_not, Bool.not_eq_true, Bool.not_eq_false, Bool.and_eq_true, Bool.or_eq_true, Bool.or_eq_false_iff, Bool.not_eq_true, Bool.not_eq_eq_eq_not, Bool.not_true, Bool.not_false] at g123)
                                        all_goals
                                          try simp only [NextH, Env.putO, Env.put, ↓reduceIte, Nat.reduceEqDiff, upd_upd, Int.reduceToNat]
                                          first
                                          | refine OW_guardT rfl (lt_some (by decide)) rfl (fun K hK r => ?_)
                                            simp only [x_move, ev, Env.get, Option.getD_some, ↓reduceIte, Nat.reduceEqDiff, NextH, Env.putO, Env.put, ↓reduceIte, Nat.reduceEqDiff, upd_upd, Int.reduceToNat]
                                            refine hK _ _ ?_; clear hK K
                                          | refine OW_guardF rfl (lt_some (by decide)) rfl ?_
                                            simp only [NextH, Env.putO, Env.put, ↓reduceIte, Nat.reduceEqDiff, upd_upd, Int.reduceToNat]
                                          first
                                          | refine OW_guardT rfl (lt_some (by decide)) rfl (fun K hK r => ?_)
                                            simp (disch := (first | omega | decide)) only [x_bin, g_int, b_lss, dec_lt_t, dec_lt_f, dec_le_t, dec_le_f, dec_eq_t, dec_eq_f, Bool.not_true, Bool.not_false, ev, Env.get, Option.getD_some, ↓reduceIte, Nat.reduceEqDiff, NextH, Env.putO, Env.put, ↓reduceIte, Nat.reduceEqDiff, upd_upd, Int.reduceToNat]
                                            refine hK _ _ ?_; clear hK K
                                          | refine OW_guardF rfl (lt_some (by decide)) rfl ?_
                                            simp only [NextH, Env.putO, Env.put, ↓reduceIte, Nat.reduceEqDiff, upd_upd, Int.reduceToNat]
                                          first
                                          | refine OW_guardT rfl (lt_some (by decide)) rfl (fun K hK r => ?_)
                                            simp only [x_move, ev, Env.get, Option.getD_some, ↓reduceIte, Nat.reduceEqDiff, NextH, Env.putO, Env.put, ↓reduceIte, Nat.reduceEqDiff, upd_upd, Int.reduceToNat]
                                            refine hK _ _ ?_; clear hK K
                                          | refine OW_guardF rfl (lt_some (by decide)) rfl ?_
                                            simp only [NextH, Env.putO, Env.put, ↓reduceIte, Nat.reduceEqDiff, upd_upd, Int.reduceToNat]
                                          first
                                          | refine OW_guardT rfl (lt_some (by decide)) rfl (fun K hK r => ?_)
                                            simp (disch := (first | omega | decide)) only [x_bin, g_int, b_lss, dec_lt_t, dec_lt_f, dec_le_t, dec_le_f, dec_eq_t, dec_eq_f, Bool.not_true, Bool.not_false, ev, Env.get, Option.getD_some, ↓reduceIte, Nat.reduceEqDiff, NextH, Env.putO, Env.put, ↓reduceIte, Nat.reduceEqDiff, upd_upd, Int.reduceToNat]
                                            refine hK _ _ ?_; clear hK K
                                          | refine OW_guardF rfl (lt_some (by decide)) rfl ?_
                                            simp only [NextH, Env.putO, Env.put, ↓reduceIte, Nat.reduceEqDiff, upd_upd, Int.reduceToNat]
                                          first
                                          | refine OW_guardT rfl (lt_some (by decide)) rfl (fun K hK r => ?_)
                                            simp only [x_bin, g_int, g_bool, g_string, g_pointer, g_slice, g_map, g_func, g_nilFunc, g_iface, g_nil_iface, g_nil_r, g_nil_l, ev, Env.get, Option.getD_some, ↓reduceIte, Nat.reduceEqDiff, NextH, Env.putO, Env.put, ↓reduceIte, Nat.reduceEqDiff, upd_upd, Int.reduceToNat]
                                            rw [e_eql _ _ _ _ (by simp)]
                                            rw [q_equal, q_bool _ _ Try.underlying4]
                                            try simp only [ev, Env.get, Option.getD_some, ↓reduceIte, Nat.reduceEqDiff, NextH, Env.putO, Env.put, ↓reduceIte, Nat.reduceEqDiff, upd_upd, Int.reduceToNat]
                                            refine hK _ _ ?_; clear hK K
                                          | refine OW_guardF rfl (lt_some (by decide)) rfl ?_
                                            simp only [NextH, Env.putO, Env.put, ↓reduceIte, Nat.reduceEqDiff, upd_upd, Int.reduceToNat]
                                          first
                                          | refine OW_guardT rfl (lt_some (by decide)) rfl (fun K hK r => ?_)
                                            simp only [x_pick, l_asBool, HL.ite_bool, if_true, if_false, Bool.false_eq_true, ev, Env.get, Option.getD_some, ↓reduceIte, Nat.reduceEqDiff, NextH, Env.putO, Env.put, ↓reduceIte, Nat.reduceEqDiff, upd_upd, Int.reduceToNat]
                                            refine hK _ _ ?_; clear hK K
                                          | refine OW_guardF rfl (lt_some (by decide)) rfl ?_
                                            simp only [NextH, Env.putO, Env.put, ↓reduceIte, Nat.reduceEqDiff, upd_upd, Int.reduceToNat]
                                          refine OW_op rfl (lt_some (by decide)) (fun K hK r => ?_)
                                          simp only [x_pick, l_asBool, HL.ite_bool, if_true, if_false, Bool.false_eq_true, ev, Env.get, Option.getD_some, ↓reduceIte, Nat.reduceEqDiff, NextH, Env.putO, Env.put, ↓reduceIte, Nat.reduceEqDiff, upd_upd, Int.reduceToNat]
                                          refine hK _ _ ?_; clear hK K
                                          refine OW_op rfl (lt_some (by decide)) (fun K hK r => ?_)
                                          simp only [x_assign, ev, Env.get, Option.getD_some, ↓reduceIte, Nat.reduceEqDiff, NextH, Env.putO, Env.put, ↓reduceIte, Nat.reduceEqDiff, upd_upd, Int.reduceToNat]
                                          refine hK _ _ ?_; clear hK K
                                          refine OW_nil ?_
                                          try simp only [Ex.thnH, Ex.inBlockH, ↓reduceIte, Nat.reduceEqDiff]
                                          refine hK24 _ _ ?_; try clear hK24 K24
                                          refine CW_ret ?_
                                          try simp only [Ex.thnH, Ex.inBlockH, ↓reduceIte, Nat.reduceEqDiff]
                                          refine ⟨[_], ⟨rfl, trivial⟩, _, Le.refl _, ?_, lhA⟩
                                          show Value.bool _ = _
                                          refine congrArg Value.bool ?_
                                          clear c76
                                          first | rfl | (simp_all; done) | (rcases hsg with h | h <;> simp_all; done)
                  · first
                    | (exfalso; exact cnA c55; done)
                    | skip
                      (try simp only [decide_eq_true_eq, decide_eq_false_iff_not, Bool.not_eq_true, Bool.not_eq_false, Bool.and_eq_true, Bool.or_eq_true, Bool.or_eq_false_iff, Bool.not_eq_true, Bool.not_eq_eq_eq_not, Bool.not_true, Bool.not_false] at c55)
                      refine CW_skip ?_
                      try simp only [Ex.thnH, Ex.inBlockH, ↓reduceIte, Nat.reduceEqDiff]
                      refine hK11 _ _ ?_; try clear hK11 K11
                      refine CW_seq (fun K25 hK25 => ?_)
                      refine CW_region ?_
                      refine OW_op rfl (lt_some (by decide)) (fun K hK r => ?_)
                      simp only [x_move, ev, Env.get, Option.getD_some, ↓reduceIte, Nat.reduceEqDiff, NextH, Env.putO, Env.put, ↓reduceIte, Nat.reduceEqDiff, upd_upd, Int.reduceToNat]
                      refine hK _ _ ?_; clear hK K
                      refine OW_op rfl (lt_some (by decide)) (fun K hK r => ?_)
                      simp only [x_move, ev, Env.get, Option.getD_some, ↓reduceIte, Nat.reduceEqDiff, NextH, Env.putO, Env.put, ↓reduceIte, Nat.reduceEqDiff, upd_upd, Int.reduceToNat]
                      refine hK _ _ ?_; clear hK K
                      refine OW_op rfl (lt_some (by decide)) (fun K hK r => ?_)
                      simp only [x_callF _ bd24, List.map_toArray, List.map_cons, List.map_nil, ev, Env.get, Option.getD_some, ↓reduceIte, Nat.reduceEqDiff, NextH, Env.putO, Env.put, ↓reduceIte, Nat.reduceEqDiff, upd_upd, Int.reduceToNat]
                      refine (Div_all _ a b a1 a2 b1 b2).mono ?_
                      rintro v H' ⟨rfl, rfl⟩
                      try simp only [ev, Env.get, Option.getD_some, ↓reduceIte, Nat.reduceEqDiff, NextH, Env.putO, Env.put, ↓reduceIte, Nat.reduceEqDiff, upd_upd, Int.reduceToNat]
                      refine hK _ _ ?_; clear hK K
                      refine OW_op rfl (lt_some (by decide)) (fun K hK r => ?_)
                      simp only [x_move, ev, Env.get, Option.getD_some, ↓reduceIte, Nat.reduceEqDiff, NextH, Env.putO, Env.put, ↓reduceIte, Nat.reduceEqDiff, upd_upd, Int.reduceToNat]
                      refine hK _ _ ?_; clear hK K
                      refine OW_op rfl (lt_some (by decide)) (fun K hK r => ?_)
                      simp only [x_extract, i_extract, List.getElem?_toArray, List.getElem?_cons_zero, List.getElem?_cons_succ, orF_some, ev, Env.get, Option.getD_some, ↓reduceIte, Nat.reduceEqDiff, NextH, Env.putO, Env.put, ↓reduceIte, Nat.reduceEqDiff, upd_upd, Int.reduceToNat]
                      refine hK _ _ ?_; clear hK K
                      refine OW_op rfl (lt_some (by decide)) (fun K hK r => ?_)
                      simp only [x_extract, i_extract, List.getElem?_toArray, List.getElem?_cons_zero, List.getElem?_cons_succ, orF_some, ev, Env.get, Option.getD_some, ↓reduceIte, Nat.reduceEqDiff, NextH, Env.putO, Env.put, ↓reduceIte, Nat.reduceEqDiff, upd_upd, Int.reduceToNat]
                      refine hK _ _ ?_; clear hK K
                      refine OW_op rfl (lt_some (by decide)) (fun K hK r => ?_)
                      simp only [x_assign, ev, Env.get, Option.getD_some, ↓reduceIte, Nat.reduceEqDiff, NextH, Env.putO, Env.put, ↓reduceIte, Nat.reduceEqDiff, upd_upd, Int.reduceToNat]
                      refine hK _ _ ?_; clear hK K
                      refine OW_op rfl (lt_some (by decide)) (fun K hK r => ?_)
                      simp only [x_assign, ev, Env.get, Option.getD_some, ↓reduceIte, Nat.reduceEqDiff, NextH, Env.putO, Env.put, ↓reduceIte, Nat.reduceEqDiff, upd_upd, Int.reduceToNat]
                      refine hK _ _ ?_; clear hK K
                      refine OW_nil ?_
                      try simp only [Ex.thnH, Ex.inBlockH, ↓reduceIte, Nat.reduceEqDiff]
                      refine hK25 _ _ ?_; try clear hK25 K25
                      refine CW_seq (fun K26 hK26 => ?_)
                      refine CW_seq (fun K27 hK27 => ?_)
                      refine CW_region ?_
                      refine OW_op rfl (lt_some (by decide)) (fun K hK r => ?_)
                      simp only [x_move, ev, Env.get, Option.getD_some, ↓reduceIte, Nat.reduceEqDiff, NextH, Env.putO, Env.put, ↓reduceIte, Nat.reduceEqDiff, upd_upd, Int.reduceToNat]
                      refine hK _ _ ?_; clear hK K
                      refine OW_op rfl (lt_some (by decide)) (fun K hK r => ?_)
                      simp only [x_bin, g_int, g_bool, g_string, g_pointer, g_slice, g_map, g_func, g_nilFunc, g_err, g_iface, g_nil_iface, g_nil_r, g_nil_l, ev, Env.get, Option.getD_some, ↓reduceIte, Nat.reduceEqDiff, NextH, Env.putO, Env.put, ↓reduceIte, Nat.reduceEqDiff, upd_upd, Int.reduceToNat]
                      first | rw [b_err_neq _ _ Try.underlying29] | (rw [e_neq _ _ _ _ (by simp), q_equal]; first | rw [q_iface_nil _ _ _ Try.underlying29] | rw [q_nil_iface _ _ _ Try.underlying29] | rw [q_nil_nil _ _ _ Try.underlying29])
                      rw [dvE_isSome]
                      try simp only [ev, Env.get, Option.getD_some, ↓reduceIte, Nat.reduceEqDiff, NextH, Env.putO, Env.put, ↓reduceIte, Nat.reduceEqDiff, upd_upd, Int.reduceToNat]
                      refine hK _ _ ?_; clear hK K
                      refine OW_nil ?_
                      try simp only [Ex.thnH, Ex.inBlockH, ↓reduceIte, Nat.reduceEqDiff]
                      refine hK27 _ _ ?_; try clear hK27 K27
                      refine CW_cond (fun r => rfl) (fun c76 => ?_) (fun c76 => ?_)
                      · first
                        | (exfalso; exact cnA c76; done)
                        | skip
                          have hbad := dv_bad a1 a2 (of_decide_eq_true c76)
                          refine CW_seq (fun K28 hK28 => ?_)
                          refine CW_region ?_
                          refine OW_op rfl (lt_some (by decide)) (fun K hK r => ?_)
                          simp only [x_move, ev, Env.get, Option.getD_some, ↓reduceIte, Nat.reduceEqDiff, NextH, Env.putO, Env.put, ↓reduceIte, Nat.reduceEqDiff, upd_upd, Int.reduceToNat]
                          refine hK _ _ ?_; clear hK K
                          refine OW_op rfl (lt_some (by decide)) (fun K hK r => ?_)
                          simp (disch := (first | omega | decide)) only [x_bin, g_int, b_eql, dec_lt_t, dec_lt_f, dec_le_t, dec_le_f, dec_eq_t, dec_eq_f, Bool.not_true, Bool.not_false, ev, Env.get, Option.getD_some, ↓reduceIte, Nat.reduceEqDiff, NextH, Env.putO, Env.put, ↓reduceIte, Nat.reduceEqDiff, upd_upd, Int.reduceToNat]
                          refine hK _ _ ?_; clear hK K
                          refine OW_op rfl (lt_some (by decide)) (fun K hK r => ?_)
                          simp only [x_move, ev, Env.get, Option.getD_some, ↓reduceIte, Nat.reduceEqDiff, NextH, Env.putO, Env.put, ↓reduceIte, Nat.reduceEqDiff, upd_upd, Int.reduceToNat]
                          refine hK _ _ ?_; clear hK K
                          (first | refine OW_split (d := 79) rfl (fun g79 => ?_) (fun g79 => ?_) | skip)
                          all_goals try (exfalso; exact cnA g79)
                          all_goals (try simp only [decide_eq_true_eq, decide_eq_false_iff_not, Bool.not_eq_true, Bool.not_eq_false, Bool.and_eq_true, Bool.or_eq_true, Bool.or_eq_false_iff, Bool.not_eq_true, Bool.not_eq_eq_eq_not, Bool.not_true, Bool.not_false] at g79)
                          all_goals
                            try simp only [NextH, Env.putO, Env.put, ↓reduceIte, Nat.reduceEqDiff, upd_upd, Int.reduceToNat]
                            first
                            | refine OW_guardT rfl (lt_some (by decide)) rfl (fun K hK r => ?_)
                              simp only [x_move, ev, Env.get, Option.getD_some, ↓reduceIte, Nat.reduceEqDiff, NextH, Env.putO, Env.put, ↓reduceIte, Nat.reduceEqDiff, upd_upd, Int.reduceToNat]
                              refine hK _ _ ?_; clear hK K
                            | refine OW_guardF rfl (lt_some (by decide)) rfl ?_
                              simp only [NextH, Env.putO, Env.put, ↓reduceIte, Nat.reduceEqDiff, upd_upd, Int.reduceToNat]
                            first
                            | refine OW_guardT rfl (lt_some (by decide)) rfl (fun K hK r => ?_)
                              simp (disch := (first | omega | decide)) only [x_bin, g_int, b_eql, dec_lt_t, dec_lt_f, dec_le_t, dec_le_f, dec_eq_t, dec_eq_f, Bool.not_true, Bool.not_false, ev, Env.get, Option.getD_some, ↓reduceIte, Nat.reduceEqDiff, NextH, Env.putO, Env.put, ↓reduceIte, Nat.reduceEqDiff, upd_upd, Int.reduceToNat]
                              refine hK _ _ ?_; clear hK K
                            | refine OW_guardF rfl (lt_some (by decide)) rfl ?_
                              simp only [NextH, Env.putO, Env.put, ↓reduceIte, Nat.reduceEqDiff, upd_upd, Int.reduceToNat]
                            first
                            | refine OW_guardT rfl (lt_some (by decide)) rfl (fun K hK r => ?_)
                              simp only [x_move, ev, Env.get, Option.getD_some, ↓reduceIte, Nat.reduceEqDiff, NextH, Env.putO, Env.put, ↓reduceIte, Nat.reduceEqDiff, upd_upd, Int.reduceToNat]
                              refine hK _ _ ?_; clear hK K
                            | refine OW_guardF rfl (lt_some (by decide)) rfl ?_
                              simp only [NextH, Env.putO, Env.put, ↓reduceIte, Nat.reduceEqDiff, upd_upd, Int.reduceToNat]
                            (first | refine OW_split (d := 82) rfl (fun g82 => ?_) (fun g82 => ?_) | skip)
                            all_goals try (exfalso; exact cnA g82)
                            all_goals (try simp only [decide_eq_true_eq, decide_eq_false_iff_not, Bool.not_eq_true, Bool.not_eq_false, Bool.and_eq_true, Bool.or_eq_true, Bool.or_eq_false_iff, Bool.not_eq_true, Bool.not_eq_eq_eq_not, Bool.not_true, Bool.not_false] at g82)
                            all_goals
                              try simp only [NextH, Env.putO, Env.put, ↓reduceIte, Nat.reduceEqDiff, upd_upd, Int.reduceToNat]
                              first
                              | refine OW_guardT rfl (lt_some (by decide)) rfl (fun K hK r => ?_)
                                simp only [x_move, ev, Env.get, Option.getD_some, ↓reduceIte, Nat.reduceEqDiff, NextH, Env.putO, Env.put, ↓reduceIte, Nat.reduceEqDiff, upd_upd, Int.reduceToNat]
                                refine hK _ _ ?_; clear hK K
                              | refine OW_guardF rfl (lt_some (by decide)) rfl ?_
                                simp only [NextH, Env.putO, Env.put, ↓reduceIte, Nat.reduceEqDiff, upd_upd, Int.reduceToNat]
                              first
                              | refine OW_guardT rfl (lt_some (by decide)) rfl (fun K hK r => ?_)
                                simp (disch := (first | omega | decide)) only [x_bin, g_int, b_eql, dec_lt_t, dec_lt_f, dec_le_t, dec_le_f, dec_eq_t, dec_eq_f, Bool.not_true, Bool.not_false, ev, Env.get, Option.getD_some, ↓reduceIte, Nat.reduceEqDiff, NextH, Env.putO, Env.put, ↓reduceIte, Nat.reduceEqDiff, upd_upd, Int.reduceToNat]
                                refine hK _ _ ?_; clear hK K
                              | refine OW_guardF rfl (lt_some (by decide)) rfl ?_
                                simp only [NextH, Env.putO, Env.put, ↓reduceIte, Nat.reduceEqDiff, upd_upd, Int.reduceToNat]
                              first
                              | refine OW_guardT rfl (lt_some (by decide)) rfl (fun K hK r => ?_)
                                simp only [x_pick, l_asBool, HL.ite_bool, if_true, if_false, Bool.false_eq_true, ev, Env.get, Option.getD_some, ↓reduceIte, Nat.reduceEqDiff, NextH, Env.putO, Env.put, ↓reduceIte, Nat.reduceEqDiff, upd_upd, Int.reduceToNat]
                                refine hK _ _ ?_; clear hK K
                              | refine OW_guardF rfl (lt_some (by decide)) rfl ?_
                                simp only [NextH, Env.putO, Env.put, ↓reduceIte, Nat.reduceEqDiff, upd_upd, Int.reduceToNat]
                              refine OW_op rfl (lt_some (by decide)) (fun K hK r => ?_)
                              simp only [x_pick, l_asBool, HL.ite_bool, if_true, if_false, Bool.false_eq_true, ev, Env.get, Option.getD_some, ↓reduceIte, Nat.reduceEqDiff, NextH, Env.putO, Env.put, ↓reduceIte, Nat.reduceEqDiff, upd_upd, Int.reduceToNat]
                              refine hK _ _ ?_; clear hK K
                              refine OW_op rfl (lt_some (by decide)) (fun K hK r => ?_)
                              simp only [x_assign, ev, Env.get, Option.getD_some, ↓reduceIte, Nat.reduceEqDiff, NextH, Env.putO, Env.put, ↓reduceIte, Nat.reduceEqDiff, upd_upd, Int.reduceToNat]
                              refine hK _ _ ?_; clear hK K
                              refine OW_nil ?_
                              try simp only [Ex.thnH, Ex.inBlockH, ↓reduceIte, Nat.reduceEqDiff]
                              refine hK28 _ _ ?_; try clear hK28 K28
                              refine CW_ret ?_
                              try simp only [Ex.thnH, Ex.inBlockH, ↓reduceIte, Nat.reduceEqDiff]
                              refine ⟨[_], ⟨rfl, trivial⟩, _, Le.refl _, ?_, lhA⟩
                              show Value.bool _ = _
                              refine congrArg Value.bool ?_
                              clear c76
                              first | rfl | (simp_all; done) | (rcases hsg with h | h <;> simp_all; done)
                      · first
                        | (exfalso; exact cnA c76; done)
                        | skip
                          (try simp only [decide_eq_true_eq, decide_eq_false_iff_not, Bool.not_eq_true, Bool.not_eq_false, Bool.and_eq_true, Bool.or_eq_true, Bool.or_eq_false_iff, Bool.not_eq_true, Bool.not_eq_eq_eq_not, Bool.not_true, Bool.not_false] at c76)
                          have hfd : b ≠ 0 ∧ fitsI (a.tdiv b) := by first | assumption | (simp only [Classical.not_not] at c76; exact c76) | (apply Classical.byContradiction; intro hc; exact c76 hc)
                          refine CW_skip ?_
                          try simp only [Ex.thnH, Ex.inBlockH, ↓reduceIte, Nat.reduceEqDiff]
                          refine hK26 _ _ ?_; try clear hK26 K26
                          refine CW_seq (fun K29 hK29 => ?_)
                          refine CW_region ?_
                          refine OW_op rfl (lt_some (by decide)) (fun K hK r => ?_)
                          simp only [x_move, ev, Env.get, Option.getD_some, ↓reduceIte, Nat.reduceEqDiff, NextH, Env.putO, Env.put, ↓reduceIte, Nat.reduceEqDiff, upd_upd, Int.reduceToNat]
                          refine hK _ _ ?_; clear hK K
                          refine OW_op rfl (lt_some (by decide)) (fun K hK r => ?_)
                          simp only [x_move, ev, Env.get, Option.getD_some, ↓reduceIte, Nat.reduceEqDiff, NextH, Env.putO, Env.put, ↓reduceIte, Nat.reduceEqDiff, upd_upd, Int.reduceToNat]
                          refine hK _ _ ?_; clear hK K
                          refine OW_op rfl (lt_some (by decide)) (fun K hK r => ?_)
                          simp only [x_callF _ bd25, List.map_toArray, List.map_cons, List.map_nil, ev, Env.get, Option.getD_some, ↓reduceIte, Nat.reduceEqDiff, NextH, Env.putO, Env.put, ↓reduceIte, Nat.reduceEqDiff, upd_upd, Int.reduceToNat]
                          refine (Mod_ok _ a b a1 a2 b1 b2 hfd.1).mono ?_
                          rintro v H' ⟨rfl, rfl⟩
                          try simp only [ev, Env.get, Option.getD_some, ↓reduceIte, Nat.reduceEqDiff, NextH, Env.putO, Env.put, ↓reduceIte, Nat.reduceEqDiff, upd_upd, Int.reduceToNat]
                          refine hK _ _ ?_; clear hK K
                          refine OW_op rfl (lt_some (by decide)) (fun K hK r => ?_)
                          simp only [x_move, ev, Env.get, Option.getD_some, ↓reduceIte, Nat.reduceEqDiff, NextH, Env.putO, Env.put, ↓reduceIte, Nat.reduceEqDiff, upd_upd, Int.reduceToNat]
                          refine hK _ _ ?_; clear hK K
                          refine OW_op rfl (lt_some (by decide)) (fun K hK r => ?_)
                          simp only [x_extract, i_extract, List.getElem?_toArray, List.getElem?_cons_zero, List.getElem?_cons_succ, orF_some, ev, Env.get, Option.getD_some, ↓reduceIte, Nat.reduceEqDiff, NextH, Env.putO, Env.put, ↓reduceIte, Nat.reduceEqDiff, upd_upd, Int.reduceToNat]
                          refine hK _ _ ?_; clear hK K
                          refine OW_op rfl (lt_some (by decide)) (fun K hK r => ?_)
                          simp only [x_extract, i_extract, List.getElem?_toArray, List.getElem?_cons_zero, List.getElem?_cons_succ, orF_some, ev, Env.get, Option.getD_some, ↓reduceIte, Nat.reduceEqDiff, NextH, Env.putO, Env.put, ↓reduceIte, Nat.reduceEqDiff, upd_upd, Int.reduceToNat]
                          refine hK _ _ ?_; clear hK K
                          refine OW_op rfl (lt_some (by decide)) (fun K hK r => ?_)
                          simp only [x_assign, ev, Env.get, Option.getD_some, ↓reduceIte, Nat.reduceEqDiff, NextH, Env.putO, Env.put, ↓reduceIte, Nat.reduceEqDiff, upd_upd, Int.reduceToNat]
                          refine hK _ _ ?_; clear hK K
                          refine OW_op rfl (lt_some (by decide)) (fun K hK r => ?_)
                          simp only [x_assign, ev, Env.get, Option.getD_some, ↓reduceIte, Nat.reduceEqDiff, NextH, Env.putO, Env.put, ↓reduceIte, Nat.reduceEqDiff, upd_upd, Int.reduceToNat]
                          refine hK _ _ ?_; clear hK K
                          refine OW_nil ?_
                          try simp only [Ex.thnH, Ex.inBlockH, ↓reduceIte, Nat.reduceEqDiff]
                          refine hK29 _ _ ?_; try clear hK29 K29
                          refine CW_seq (fun K30 hK30 => ?_)
                          refine CW_region ?_
                          refine OW_op rfl (lt_some (by decide)) (fun K hK r => ?_)
                          simp only [x_move, ev, Env.get, Option.getD_some, ↓reduceIte, Nat.reduceEqDiff, NextH, Env.putO, Env.put, ↓reduceIte, Nat.reduceEqDiff, upd_upd, Int.reduceToNat]
                          refine hK _ _ ?_; clear hK K
                          refine OW_op rfl (lt_some (by decide)) (fun K hK r => ?_)
                          simp only [x_move, ev, Env.get, Option.getD_some, ↓reduceIte, Nat.reduceEqDiff, NextH, Env.putO, Env.put, ↓reduceIte, Nat.reduceEqDiff, upd_upd, Int.reduceToNat]
                          refine hK _ _ ?_; clear hK K
                          refine OW_op rfl (lt_some (by decide)) (fun K hK r => ?_)
                          simp only [x_callF _ bd22, List.map_toArray, List.map_cons, List.map_nil, ev, Env.get, Option.getD_some, ↓reduceIte, Nat.reduceEqDiff, NextH, Env.putO, Env.put, ↓reduceIte, Nat.reduceEqDiff, upd_upd, Int.reduceToNat]
                          have hdi : dvI a b = a.tdiv b := by unfold dvI; rw [if_neg hfd.1, okI_fits hfd.2]
                          rw [hdi]
                          have hdm := div_mul_fits (b := b) a1 a2
                          refine (Mul_ok _ (a.tdiv b) b hfd.2.1 hfd.2.2 b1 b2).mono ?_
                          rintro v H' ⟨rfl, rfl⟩
                          rw [okI_fits hdm, okE_fits hdm]
                          try simp only [ev, Env.get, Option.getD_some, ↓reduceIte, Nat.reduceEqDiff, NextH, Env.putO, Env.put, ↓reduceIte, Nat.reduceEqDiff, upd_upd, Int.reduceToNat]
                          refine hK _ _ ?_; clear hK K
                          refine OW_op rfl (lt_some (by decide)) (fun K hK r => ?_)
                          simp only [x_move, ev, Env.get, Option.getD_some, ↓reduceIte, Nat.reduceEqDiff, NextH, Env.putO, Env.put, ↓reduceIte, Nat.reduceEqDiff, upd_upd, Int.reduceToNat]
                          refine hK _ _ ?_; clear hK K
                          refine OW_op rfl (lt_some (by decide)) (fun K hK r => ?_)
                          simp only [x_extract, i_extract, List.getElem?_toArray, List.getElem?_cons_zero, List.getElem?_cons_succ, orF_some, ev, Env.get, Option.getD_some, ↓reduceIte, Nat.reduceEqDiff, NextH, Env.putO, Env.put, ↓reduceIte, Nat.reduceEqDiff, upd_upd, Int.reduceToNat]
                          refine hK _ _ ?_; clear hK K
                          refine OW_op rfl (lt_some (by decide)) (fun K hK r => ?_)
                          simp only [x_extract, i_extract, List.getElem?_toArray, List.getElem?_cons_zero, List.getElem?_cons_succ, orF_some, ev, Env.get, Option.getD_some, ↓reduceIte, Nat.reduceEqDiff, NextH, Env.putO, Env.put, ↓reduceIte, Nat.reduceEqDiff, upd_upd, Int.reduceToNat]
                          refine hK _ _ ?_; clear hK K
                          refine OW_op rfl (lt_some (by decide)) (fun K hK r => ?_)
                          simp only [x_assign, ev, Env.get, Option.getD_some, ↓reduceIte, Nat.reduceEqDiff, NextH, Env.putO, Env.put, ↓reduceIte, Nat.reduceEqDiff, upd_upd, Int.reduceToNat]
                          refine hK _ _ ?_; clear hK K
                          refine OW_op rfl (lt_some (by decide)) (fun K hK r => ?_)
                          simp only [x_assign, ev, Env.get, Option.getD_some, ↓reduceIte, Nat.reduceEqDiff, NextH, Env.putO, Env.put, ↓reduceIte, Nat.reduceEqDiff, upd_upd, Int.reduceToNat]
                          refine hK _ _ ?_; clear hK K
                          refine OW_nil ?_
                          try simp only [Ex.thnH, Ex.inBlockH, ↓reduceIte, Nat.reduceEqDiff]
                          refine hK30 _ _ ?_; try clear hK30 K30
                          refine CW_seq (fun K31 hK31 => ?_)
                          refine CW_region ?_
                          refine OW_op rfl (lt_some (by decide)) (fun K hK r => ?_)
                          simp only [x_move, ev, Env.get, Option.getD_some, ↓reduceIte, Nat.reduceEqDiff, NextH, Env.putO, Env.put, ↓reduceIte, Nat.reduceEqDiff, upd_upd, Int.reduceToNat]
                          refine hK _ _ ?_; clear hK K
                          refine OW_op rfl (lt_some (by decide)) (fun K hK r => ?_)
                          simp only [x_move, ev, Env.get, Option.getD_some, ↓reduceIte, Nat.reduceEqDiff, NextH, Env.putO, Env.put, ↓reduceIte, Nat.reduceEqDiff, upd_upd, Int.reduceToNat]
                          refine hK _ _ ?_; clear hK K
                          refine OW_op rfl (lt_some (by decide)) (fun K hK r => ?_)
                          simp only [x_callF _ bd20, List.map_toArray, List.map_cons, List.map_nil, ev, Env.get, Option.getD_some, ↓reduceIte, Nat.reduceEqDiff, NextH, Env.putO, Env.put, ↓reduceIte, Nat.reduceEqDiff, upd_upd, Int.reduceToNat]
                          have hmf := tmod_fits (b := b) a1 a2
                          refine (Add_ok _ (a.tdiv b * b) (a.tmod b) hdm.1 hdm.2 hmf.1 hmf.2).mono ?_
                          rintro v H' ⟨rfl, rfl⟩
                          rw [div_mul, okI_fits ⟨a1, a2⟩, okE_fits ⟨a1, a2⟩]
                          have hsg := tmod_sign a b
                          try simp only [ev, Env.get, Option.getD_some, ↓reduceIte, Nat.reduceEqDiff, NextH, Env.putO, Env.put, ↓reduceIte, Nat.reduceEqDiff, upd_upd, Int.reduceToNat]
                          refine hK _ _ ?_; clear hK K
                          refine OW_op rfl (lt_some (by decide)) (fun K hK r => ?_)
                          simp only [x_move, ev, Env.get, Option.getD_some, ↓reduceIte, Nat.reduceEqDiff, NextH, Env.putO, Env.put, ↓reduceIte, Nat.reduceEqDiff, upd_upd, Int.reduceToNat]
                          refine hK _ _ ?_; clear hK K
                          refine OW_op rfl (lt_some (by decide)) (fun K hK r => ?_)
                          simp only [x_extract, i_extract, List.getElem?_toArray, List.getElem?_cons_zero, List.getElem?_cons_succ, orF_some, ev, Env.get, Option.getD_some, ↓reduceIte, Nat.reduceEqDiff, NextH, Env.putO, Env.put, ↓reduceIte, Nat.reduceEqDiff, upd_upd, Int.reduceToNat]
                          refine hK _ _ ?_; clear hK K
                          refine OW_op rfl (lt_some (by decide)) (fun K hK r => ?_)
                          simp only [x_extract, i_extract, List.getElem?_toArray, List.getElem?_cons_zero, List.getElem?_cons_succ, orF_some, ev, Env.get, Option.getD_some, ↓reduceIte, Nat.reduceEqDiff, NextH, Env.putO, Env.put, ↓reduceIte, Nat.reduceEqDiff, upd_upd, Int.reduceToNat]
                          refine hK _ _ ?_; clear hK K
                          refine OW_op rfl (lt_some (by decide)) (fun K hK r => ?_)
                          simp only [x_assign, ev, Env.get, Option.getD_some, ↓reduceIte, Nat.reduceEqDiff, NextH, Env.putO, Env.put, ↓reduceIte, Nat.reduceEqDiff, upd_upd, Int.reduceToNat]
                          refine hK _ _ ?_; clear hK K
                          refine OW_op rfl (lt_some (by decide)) (fun K hK r => ?_)
                          simp only [x_assign, ev, Env.get, Option.getD_some, ↓reduceIte, Nat.reduceEqDiff, NextH, Env.putO, Env.put, ↓reduceIte, Nat.reduceEqDiff, upd_upd, Int.reduceToNat]
                          refine hK _ _ ?_; clear hK K
                          refine OW_nil ?_
                          try simp only [Ex.thnH, Ex.inBlockH, ↓reduceIte, Nat.reduceEqDiff]
                          refine hK31 _ _ ?_; try clear hK31 K31
                          refine CW_seq (fun K32 hK32 => ?_)
                          refine CW_region ?_
                          refine OW_op rfl (lt_some (by decide)) (fun K hK r => ?_)
                          simp only [x_move, ev, Env.get, Option.getD_some, ↓reduceIte, Nat.reduceEqDiff, NextH, Env.putO, Env.put, ↓reduceIte, Nat.reduceEqDiff, upd_upd, Int.reduceToNat]
                          refine hK _ _ ?_; clear hK K
                          refine OW_op rfl (lt_some (by decide)) (fun K hK r => ?_)
                          simp only [x_bin, g_int, g_bool, g_string, g_pointer, g_slice, g_map, g_func, g_nilFunc, g_err, g_iface, g_nil_iface, g_nil_r, g_nil_l, ev, Env.get, Option.getD_some, ↓reduceIte, Nat.reduceEqDiff, NextH, Env.putO, Env.put, ↓reduceIte, Nat.reduceEqDiff, upd_upd, Int.reduceToNat]
                          first | rw [b_err_eql _ _ Try.underlying29] | (rw [e_eql _ _ _ _ (by simp), q_equal]; first | rw [q_iface_nil _ _ _ Try.underlying29] | rw [q_nil_iface _ _ _ Try.underlying29] | rw [q_nil_nil _ _ _ Try.underlying29])
                          try simp only [ev, Env.get, Option.getD_some, ↓reduceIte, Nat.reduceEqDiff, NextH, Env.putO, Env.put, ↓reduceIte, Nat.reduceEqDiff, upd_upd, Int.reduceToNat]
                          refine hK _ _ ?_; clear hK K
                          refine OW_op rfl (lt_some (by decide)) (fun K hK r => ?_)
                          simp only [x_move, ev, Env.get, Option.getD_some, ↓reduceIte, Nat.reduceEqDiff, NextH, Env.putO, Env.put, ↓reduceIte, Nat.reduceEqDiff, upd_upd, Int.reduceToNat]
                          refine hK _ _ ?_; clear hK K
                          (first | refine OW_split (d := 107) rfl (fun g107 => ?_) (fun g107 => ?_) | skip)
                          all_goals try (exfalso; exact cnA g107)
                          all_goals (try simp only [decide_eq_true_eq, decide_eq_false_iff_not, Bool.not_eq_true, Bool.not_eq_false, Bool.and_eq_true, Bool.or_eq_true, Bool.or_eq_false_iff, Bool.not_eq_true, Bool.not_eq_eq_eq_not, Bool.not_true, Bool.not_false] at g107)
                          all_goals
                            try simp only [NextH, Env.putO, Env.put, ↓reduceIte, Nat.reduceEqDiff, upd_upd, Int.reduceToNat]
                            first
                            | refine OW_guardT rfl (lt_some (by decide)) rfl (fun K hK r => ?_)
                              simp only [x_move, ev, Env.get, Option.getD_some, ↓reduceIte, Nat.reduceEqDiff, NextH, Env.putO, Env.put, ↓reduceIte, Nat.reduceEqDiff, upd_upd, Int.reduceToNat]
                              refine hK _ _ ?_; clear hK K
                            | refine OW_guardF rfl (lt_some (by decide)) rfl ?_
                              simp only [NextH, Env.putO, Env.put, ↓reduceIte, Nat.reduceEqDiff, upd_upd, Int.reduceToNat]
                            first
                            | refine OW_guardT rfl (lt_some (by decide)) rfl (fun K hK r => ?_)
                              simp only [x_bin, g_int, g_bool, g_string, g_pointer, g_slice, g_map, g_func, g_nilFunc, g_err, g_iface, g_nil_iface, g_nil_r, g_nil_l, ev, Env.get, Option.getD_some, ↓reduceIte, Nat.reduceEqDiff, NextH, Env.putO, Env.put, ↓reduceIte, Nat.reduceEqDiff, upd_upd, Int.reduceToNat]
                              first | rw [b_err_eql _ _ Try.underlying29] | (rw [e_eql _ _ _ _ (by simp), q_equal]; first | rw [q_iface_nil _ _ _ Try.underlying29] | rw [q_nil_iface _ _ _ Try.underlying29] | rw [q_nil_nil _ _ _ Try.underlying29])
                              try simp only [ev, Env.get, Option.getD_some, ↓reduceIte, Nat.reduceEqDiff, NextH, Env.putO, Env.put, ↓reduceIte, Nat.reduceEqDiff, upd_upd, Int.reduceToNat]
                              refine hK _ _ ?_; clear hK K
                            | refine OW_guardF rfl (lt_some (by decide)) rfl ?_
                              simp only [NextH, Env.putO, Env.put, ↓reduceIte, Nat.reduceEqDiff, upd_upd, Int.reduceToNat]
                            refine OW_op rfl (lt_some (by decide)) (fun K hK r => ?_)
                            simp only [x_pick, l_asBool, HL.ite_bool, if_true, if_false, Bool.false_eq_true, ev, Env.get, Option.getD_some, ↓reduceIte, Nat.reduceEqDiff, NextH, Env.putO, Env.put, ↓reduceIte, Nat.reduceEqDiff, upd_upd, Int.reduceToNat]
                            refine hK _ _ ?_; clear hK K
                            refine OW_op rfl (lt_some (by decide)) (fun K hK r => ?_)
                            simp only [x_move, ev, Env.get, Option.getD_some, ↓reduceIte, Nat.reduceEqDiff, NextH, Env.putO, Env.put, ↓reduceIte, Nat.reduceEqDiff, upd_upd, Int.reduceToNat]
                            refine hK _ _ ?_; clear hK K
                            (first | refine OW_split (d := 111) rfl (fun g111 => ?_) (fun g111 => ?_) | skip)
                            all_goals try (exfalso; exact cnA g111)
                            all_goals (try simp only [decide_eq_true_eq, decide_eq_false_iff_not, Bool.not_eq_true, Bool.not_eq_false, Bool.and_eq_true, Bool.or_eq_true, Bool.or_eq_false_iff, Bool.not_eq_true, Bool.not_eq_eq_eq_not, Bool.not_true, Bool.not_false] at g111)
                            all_goals
                              try simp only [NextH, Env.putO, Env.put, ↓reduceIte, Nat.reduceEqDiff, upd_upd, Int.reduceToNat]
                              first
                              | refine OW_guardT rfl (lt_some (by decide)) rfl (fun K hK r => ?_)
                                simp only [x_move, ev, Env.get, Option.getD_some, ↓reduceIte, Nat.reduceEqDiff, NextH, Env.putO, Env.put, ↓reduceIte, Nat.reduceEqDiff, upd_upd, Int.reduceToNat]
                                refine hK _ _ ?_; clear hK K
                              | refine OW_guardF rfl (lt_some (by decide)) rfl ?_
                                simp only [NextH, Env.putO, Env.put, ↓reduceIte, Nat.reduceEqDiff, upd_upd, Int.reduceToNat]
                              first
                              | refine OW_guardT rfl (lt_some (by decide)) rfl (fun K hK r => ?_)
                                simp only [x_bin, g_int, g_bool, g_string, g_pointer, g_slice, g_map, g_func, g_nilFunc, g_err, g_iface, g_nil_iface, g_nil_r, g_nil_l, ev, Env.get, Option.getD_some, ↓reduceIte, Nat.reduceEqDiff, NextH, Env.putO, Env.put, ↓reduceIte, Nat.reduceEqDiff, upd_upd, Int.reduceToNat]
                                first | rw [b_err_eql _ _ Try.underlying29] | (rw [e_eql _ _ _ _ (by simp), q_equal]; first | rw [q_iface_nil _ _ _ Try.underlying29] | rw [q_nil_iface _ _ _ Try.underlying29] | rw [q_nil_nil _ _ _ Try.underlying29])
                                try simp only [ev, Env.get, Option.getD_some, ↓reduceIte, Nat.reduceEqDiff, NextH, Env.putO, Env.put, ↓reduceIte, Nat.reduceEqDiff, upd_upd, Int.reduceToNat]
                                refine hK _ _ ?_; clear hK K
                              | refine OW_guardF rfl (lt_some (by decide)) rfl ?_
                                simp only [NextH, Env.putO, Env.put, ↓reduceIte, Nat.reduceEqDiff, upd_upd, Int.reduceToNat]
                              refine OW_op rfl (lt_some (by decide)) (fun K hK r => ?_)
                              simp only [x_pick, l_asBool, HL.ite_bool, if_true, if_false, Bool.false_eq_true, ev, Env.get, Option.getD_some, ↓reduceIte, Nat.reduceEqDiff, NextH, Env.putO, Env.put, ↓reduceIte, Nat.reduceEqDiff, upd_upd, Int.reduceToNat]
                              refine hK _ _ ?_; clear hK K
                              refine OW_op rfl (lt_some (by decide)) (fun K hK r => ?_)
                              simp only [x_move, ev, Env.get, Option.getD_some, ↓reduceIte, Nat.reduceEqDiff, NextH, Env.putO, Env.put, ↓reduceIte, Nat.reduceEqDiff, upd_upd, Int.reduceToNat]
                              refine hK _ _ ?_; clear hK K
                              (first | refine OW_split (d := 115) rfl (fun g115 => ?_) (fun g115 => ?_) | skip)
                              all_goals try (exfalso; exact cnA g115)
                              all_goals (try simp only [decide_eq_true_eq, decide_eq_false_iff_not, Bool.not_eq_true, Bool.not_eq_false, Bool.and_eq_true, Bool.or_eq_true, Bool.or_eq_false_iff, Bool.not_eq_true, Bool.not_eq_eq_eq_not, Bool.not_true, Bool.not_false] at g115)
                              all_goals
                                try simp only [NextH, Env.putO, Env.put, ↓reduceIte, Nat.reduceEqDiff, upd_upd, Int.reduceToNat]
                                first
                                | refine OW_guardT rfl (lt_some (by decide)) rfl (fun K hK r => ?_)
                                  simp only [x_move, ev, Env.get, Option.getD_some, ↓reduceIte, Nat.reduceEqDiff, NextH, Env.putO, Env.put, ↓reduceIte, Nat.reduceEqDiff, upd_upd, Int.reduceToNat]
                                  refine hK _ _ ?_; clear hK K
                                | refine OW_guardF rfl (lt_some (by decide)) rfl ?_
                                  simp only [NextH, Env.putO, Env.put, ↓reduceIte, Nat.reduceEqDiff, upd_upd, Int.reduceToNat]
                                first
                                | refine OW_guardT rfl (lt_some (by decide)) rfl (fun K hK r => ?_)
                                  simp only [x_move, ev, Env.get, Option.getD_some, ↓reduceIte, Nat.reduceEqDiff, NextH, Env.putO, Env.put, ↓reduceIte, Nat.reduceEqDiff, upd_upd, Int.reduceToNat]
                                  refine hK _ _ ?_; clear hK K
                                | refine OW_guardF rfl (lt_some (by decide)) rfl ?_
                                  simp only [NextH, Env.putO, Env.put, ↓reduceIte, Nat.reduceEqDiff, upd_upd, Int.reduceToNat]
                                first
                                | refine OW_guardT rfl (lt_some (by decide)) rfl (fun K hK r => ?_)
                                  simp (disch := (first | omega | decide)) only [x_bin, g_int, b_eql, dec_lt_t, dec_lt_f, dec_le_t, dec_le_f, dec_eq_t, dec_eq_f, Bool.not_true, Bool.not_false, ev, Env.get, Option.getD_some, ↓reduceIte, Nat.reduceEqDiff, NextH, Env.putO, Env.put, ↓reduceIte, Nat.reduceEqDiff, upd_upd, Int.reduceToNat]
                                  refine hK _ _ ?_; clear hK K
                                | refine OW_guardF rfl (lt_some (by decide)) rfl ?_
                                  simp only [NextH, Env.putO, Env.put, ↓reduceIte, Nat.reduceEqDiff, upd_upd, Int.reduceToNat]
                                refine OW_op rfl (lt_some (by decide)) (fun K hK r => ?_)
                                simp only [x_pick, l_asBool, HL.ite_bool, if_true, if_false, Bool.false_eq_true, ev, Env.get, Option.getD_some, ↓reduceIte, Nat.reduceEqDiff, NextH, Env.putO, Env.put, ↓reduceIte, Nat.reduceEqDiff, upd_upd, Int.reduceToNat]
                                refine hK _ _ ?_; clear hK K
                                refine OW_op rfl (lt_some (by decide)) (fun K hK r => ?_)
                                simp only [x_move, ev, Env.get, Option.getD_some, ↓reduceIte, Nat.reduceEqDiff, NextH, Env.putO, Env.put, ↓reduceIte, Nat.reduceEqDiff, upd_upd, Int.reduceToNat]
                                refine hK _ _ ?_; clear hK K
                                (first | refine OW_split (d := 120) rfl (fun g120 => ?_) (fun g120 => ?_) | skip)
                                all_goals try (exfalso; exact cnA g120)
                                all_goals (try simp only [decide_eq_true_eq, decide_eq_false_iff_not, Bool.not_eq_true, Bool.not_eq_false, Bool.and_eq_true, Bool.or_eq_true, Bool.or_eq_false_iff, Bool.not_eq_true, Bool.not_eq_eq_eq_not, Bool.not_true, Bool.not_false] at g120)
                                all_goals
                                  try simp only [NextH, Env.putO, Env.put, ↓reduceIte, Nat.reduceEqDiff, upd_upd, Int.reduceToNat]
                                  first
                                  | refine OW_guardT rfl (lt_some (by decide)) rfl (fun K hK r => ?_)
                                    simp only [x_move, ev, Env.get, Option.getD_some, ↓reduceIte, Nat.reduceEqDiff, NextH, Env.putO, Env.put, ↓reduceIte, Nat.reduceEqDiff, upd_upd, Int.reduceToNat]
                                    refine hK _ _ ?_; clear hK K
                                  | refine OW_guardF rfl (lt_some (by decide)) rfl ?_
                                    simp only [NextH, Env.putO, Env.put, ↓reduceIte, Nat.reduceEqDiff, upd_upd, Int.reduceToNat]
                                  first
                                  | refine OW_guardT rfl (lt_some (by decide)) rfl (fun K hK r => ?_)
                                    simp (disch := (first | omega | decide)) only [x_bin, g_int, b_eql, dec_lt_t, dec_lt_f, dec_le_t, dec_le_f, dec_eq_t, dec_eq_f, Bool.not_true, Bool.not_false, ev, Env.get, Option.getD_some, ↓reduceIte, Nat.reduceEqDiff, NextH, Env.putO, Env.put, ↓reduceIte, Nat.reduceEqDiff, upd_upd, Int.reduceToNat]
                                    refine hK _ _ ?_; clear hK K
                                  | refine OW_guardF rfl (lt_some (by decide)) rfl ?_
                                    simp only [NextH, Env.putO, Env.put, ↓reduceIte, Nat.reduceEqDiff, upd_upd, Int.reduceToNat]
                                  first
                                  | refine OW_guardT rfl (lt_some (by decide)) rfl (fun K hK r => ?_)
                                    simp only [x_move, ev, Env.get, Option.getD_some, ↓reduceIte, Nat.reduceEqDiff, NextH, Env.putO, Env.put, ↓reduceIte, Nat.reduceEqDiff, upd_upd, Int.reduceToNat]
                                    refine hK _ _ ?_; clear hK K
                                  | refine OW_guardF rfl (lt_some (by decide)) rfl ?_
                                    simp only [NextH, Env.putO, Env.put, ↓reduceIte, Nat.reduceEqDiff, upd_upd, Int.reduceToNat]
                                  (first | refine OW_split (d := 123) rfl (fun g123 => ?_) (fun g123 => ?_) | skip)
                                  all_goals try (exfalso; exact cnA g123)
                                  all_goals (try simp only [decide_eq_true_eq, decide_eq_false_iff_not, Bool.not_eq_true, Bool.not_eq_false, Bool.and_eq_true, Bool.or_eq_true, Bool.or_eq_false_iff, Bool.not_eq_true, Bool.not_eq_eq_eq_not, Bool.not_true, Bool.not_false] at g123)
                                  all_goals
                                    try simp only [NextH, Env.putO, Env.put, ↓reduceIte, Nat.reduceEqDiff, upd_upd, Int.reduceToNat]
                                    first
                                    | refine OW_guardT rfl (lt_some (by decide)) rfl (fun K hK r => ?_)
                                      simp only [x_move, ev, Env.get, Option.getD_some, ↓reduceIte, Nat.reduceEqDiff, NextH, Env.putO, Env.put, ↓reduceIte, Nat.reduceEqDiff, upd_upd, Int.reduceToNat]
                                      refine hK _ _ ?_; clear hK K
                                    | refine OW_guardF rfl (lt_some (by decide)) rfl ?_
                                      simp only [NextH, Env.putO, Env.put, ↓reduceIte, Nat.reduceEqDiff, upd_upd, Int.reduceToNat]
                                    first
                                    | refine OW_guardT rfl (lt_some (by decide)) rfl (fun K hK r => ?_)
                                      simp (disch := (first | omega | decide)) only [x_bin, g_int, b_lss, dec_lt_t, dec_lt_f, dec_le_t, dec_le_f, dec_eq_t, dec_eq_f, Bool.not_true, Bool.not_false, ev, Env.get, Option.getD_some, ↓reduceIte, Nat.reduceEqDiff, NextH, Env.putO, Env.put, ↓reduceIte, Nat.reduceEqDiff, upd_upd, Int.reduceToNat]
                                      refine hK _ _ ?_; clear hK K
                                    | refine OW_guardF rfl (lt_some (by decide)) rfl ?_
                                      simp only [NextH, Env.putO, Env.put, ↓reduceIte, Nat.reduceEqDiff, upd_upd, Int.reduceToNat]
                                    first
                                    | refine OW_guardT rfl (lt_some (by decide)) rfl (fun K hK r => ?_)
                                      simp only [x_move, ev, Env.get, Option.getD_some, ↓reduceIte, Nat.reduceEqDiff, NextH, Env.putO, Env.put, ↓reduceIte, Nat.reduceEqDiff, upd_upd, Int.reduceToNat]
                                      refine hK _ _ ?_; clear hK K
                                    | refine OW_guardF rfl (lt_some (by decide)) rfl ?_
                                      simp only [NextH, Env.putO, Env.put, ↓reduceIte, Nat.reduceEqDiff, upd_upd, Int.reduceToNat]
                                    first
                                    | refine OW_guardT rfl (lt_some (by decide)) rfl (fun K hK r => ?_)
                                      simp (disch := (first | omega | decide)) only [x_bin, g_int, b_lss, dec_lt_t, dec_lt_f, dec_le_t, dec_le_f, dec_eq_t, dec_eq_f, Bool.not_true, Bool.not_false, ev, Env.get, Option.getD_some, ↓reduceIte, Nat.reduceEqDiff, NextH, Env.putO, Env.put, ↓reduceIte, Nat.reduceEqDiff, upd_upd, Int.reduceToNat]
                                      refine hK _ _ ?_; clear hK K
                                    | refine OW_guardF rfl (lt_some (by decide)) rfl ?_
                                      simp only [NextH, Env.putO, Env.put, ↓reduceIte, Nat.reduceEqDiff, upd_upd, Int.reduceToNat]
                                    first
                                    | refine OW_guardT rfl (lt_some (by decide)) rfl (fun K hK r => ?_)
                                      simp only [x_bin, g_int, g_bool, g_string, g_pointer, g_slice, g_map, g_func, g_nilFunc, g_iface, g_nil_iface, g_nil_r, g_nil_l, ev, Env.get, Option.getD_some, ↓reduceIte, Nat.reduceEqDiff, NextH, Env.putO, Env.put, ↓reduceIte, Nat.reduceEqDiff, upd_upd, Int.reduceToNat]
                                      rw [e_eql _ _ _ _ (by simp)]
                                      rw [q_equal, q_bool _ _ Try.underlying4]
                                      try simp only [ev, Env.get, Option.getD_some, ↓reduceIte, Nat.reduceEqDiff, NextH, Env.putO, Env.put, ↓reduceIte, Nat.reduceEqDiff, upd_upd, Int.reduceToNat]
                                      refine hK _ _ ?_; clear hK K
                                    | refine OW_guardF rfl (lt_some (by decide)) rfl ?_
                                      simp only [NextH, Env.putO, Env.put, ↓reduceIte, Nat.reduceEqDiff, upd_upd, Int.reduceToNat]
                                    first
                                    | refine OW_guardT rfl (lt_some (by decide)) rfl (fun K hK r => ?_)
                                      simp only [x_pick, l_asBool, HL.ite_bool, if_true, if_false, Bool.false_eq_true, ev, Env.get, Option.getD_some, ↓reduceIte, Nat.reduceEqDiff, NextH, Env.putO, Env.put, ↓reduceIte, Nat.reduceEqDiff, upd_upd, Int.reduceToNat]
                                      refine hK _ _ ?_; clear hK K
                                    | refine OW_guardF rfl (lt_some (by decide)) rfl ?_
                                      simp only [NextH, Env.putO, Env.put, ↓reduceIte, Nat.reduceEqDiff, upd_upd, Int.reduceToNat]
                                    refine OW_op rfl (lt_some (by decide)) (fun K hK r => ?_)
                                    simp only [x_pick, l_asBool, HL.ite_bool, if_true, if_false, Bool.false_eq_true, ev, Env.get, Option.getD_some, ↓reduceIte, Nat.reduceEqDiff, NextH, Env.putO, Env.put, ↓reduceIte, Nat.reduceEqDiff, upd_upd, Int.reduceToNat]
                                    refine hK _ _ ?_; clear hK K
                                    refine OW_op rfl (lt_some (by decide)) (fun K hK r => ?_)
                                    simp only [x_assign, ev, Env.get, Option.getD_some, ↓reduceIte, Nat.reduceEqDiff, NextH, Env.putO, Env.put, ↓reduceIte, Nat.reduceEqDiff, upd_upd, Int.reduceToNat]
                                    refine hK _ _ ?_; clear hK K
                                    refine OW_nil ?_
                                    try simp only [Ex.thnH, Ex.inBlockH, ↓reduceIte, Nat.reduceEqDiff]
                                    refine hK32 _ _ ?_; try clear hK32 K32
                                    refine CW_ret ?_
                                    try simp only [Ex.thnH, Ex.inBlockH, ↓reduceIte, Nat.reduceEqDiff]
                                    refine ⟨[_], ⟨rfl, trivial⟩, _, Le.refl _, ?_, lhA⟩
                                    show Value.bool _ = _
                                    refine congrArg Value.bool ?_
                                    clear c76
                                    first | rfl | (simp_all; done) | (rcases hsg with h | h <;> simp_all; done)
      · first
        | (exfalso; exact cnA c30; done)
        | skip
          (try simp only [decide_eq_true_eq, decide_eq_false_iff_not, Bool.not_eq_true, Bool.not_eq_false, Bool.and_eq_true, Bool.or_eq_true, Bool.or_eq_false_iff, Bool.not_eq_true, Bool.not_eq_eq_eq_not, Bool.not_true, Bool.not_false] at c30)
          refine CW_skip ?_
          try simp only [Ex.thnH, Ex.inBlockH, ↓reduceIte, Nat.reduceEqDiff]
          refine hK5 _ _ ?_; try clear hK5 K5
          refine CW_seq (fun K33 hK33 => ?_)
          refine CW_seq (fun K34 hK34 => ?_)
          refine CW_region ?_
          refine OW_op rfl (lt_some (by decide)) (fun K hK r => ?_)
          simp only [x_move, ev, Env.get, Option.getD_some, ↓reduceIte, Nat.reduceEqDiff, NextH, Env.putO, Env.put, ↓reduceIte, Nat.reduceEqDiff, upd_upd, Int.reduceToNat]
          refine hK _ _ ?_; clear hK K
          refine OW_op rfl (lt_some (by decide)) (fun K hK r => ?_)
          simp only [x_move, ev, Env.get, Option.getD_some, ↓reduceIte, Nat.reduceEqDiff, NextH, Env.putO, Env.put, ↓reduceIte, Nat.reduceEqDiff, upd_upd, Int.reduceToNat]
          refine hK _ _ ?_; clear hK K
          refine OW_op rfl (lt_some (by decide)) (fun K hK r => ?_)
          simp only [x_callF _ bd22, List.map_toArray, List.map_cons, List.map_nil, ev, Env.get, Option.getD_some, ↓reduceIte, Nat.reduceEqDiff, NextH, Env.putO, Env.put, ↓reduceIte, Nat.reduceEqDiff, upd_upd, Int.reduceToNat]
          refine (Mul_ok _ a b a1 a2 b1 b2).mono ?_
          rintro v H' ⟨rfl, rfl⟩
          try simp only [ev, Env.get, Option.getD_some, ↓reduceIte, Nat.reduceEqDiff, NextH, Env.putO, Env.put, ↓reduceIte, Nat.reduceEqDiff, upd_upd, Int.reduceToNat]
          refine hK _ _ ?_; clear hK K
          refine OW_op rfl (lt_some (by decide)) (fun K hK r => ?_)
          simp only [x_move, ev, Env.get, Option.getD_some, ↓reduceIte, Nat.reduceEqDiff, NextH, Env.putO, Env.put, ↓reduceIte, Nat.reduceEqDiff, upd_upd, Int.reduceToNat]
          refine hK _ _ ?_; clear hK K
          refine OW_op rfl (lt_some (by decide)) (fun K hK r => ?_)
          simp only [x_extract, i_extract, List.getElem?_toArray, List.getElem?_cons_zero, List.getElem?_cons_succ, orF_some, ev, Env.get, Option.getD_some, ↓reduceIte, Nat.reduceEqDiff, NextH, Env.putO, Env.put, ↓reduceIte, Nat.reduceEqDiff, upd_upd, Int.reduceToNat]
          refine hK _ _ ?_; clear hK K
          refine OW_op rfl (lt_some (by decide)) (fun K hK r => ?_)
          simp only [x_extract, i_extract, List.getElem?_toArray, List.getElem?_cons_zero, List.getElem?_cons_succ, orF_some, ev, Env.get, Option.getD_some, ↓reduceIte, Nat.reduceEqDiff, NextH, Env.putO, Env.put, ↓reduceIte, Nat.reduceEqDiff, upd_upd, Int.reduceToNat]
          refine hK _ _ ?_; clear hK K
          refine OW_op rfl (lt_some (by decide)) (fun K hK r => ?_)
          simp only [x_assign, ev, Env.get, Option.getD_some, ↓reduceIte, Nat.reduceEqDiff, NextH, Env.putO, Env.put, ↓reduceIte, Nat.reduceEqDiff, upd_upd, Int.reduceToNat]
          refine hK _ _ ?_; clear hK K
          refine OW_op rfl (lt_some (by decide)) (fun K hK r => ?_)
          simp only [x_assign, ev, Env.get, Option.getD_some, ↓reduceIte, Nat.reduceEqDiff, NextH, Env.putO, Env.put, ↓reduceIte, Nat.reduceEqDiff, upd_upd, Int.reduceToNat]
          refine hK _ _ ?_; clear hK K
          refine OW_nil ?_
          try simp only [Ex.thnH, Ex.inBlockH, ↓reduceIte, Nat.reduceEqDiff]
          refine hK34 _ _ ?_; try clear hK34 K34
          refine CW_seq (fun K35 hK35 => ?_)
          refine CW_region ?_
          refine OW_op rfl (lt_some (by decide)) (fun K hK r => ?_)
          simp only [x_move, ev, Env.get, Option.getD_some, ↓reduceIte, Nat.reduceEqDiff, NextH, Env.putO, Env.put, ↓reduceIte, Nat.reduceEqDiff, upd_upd, Int.reduceToNat]
          refine hK _ _ ?_; clear hK K
          refine OW_op rfl (lt_some (by decide)) (fun K hK r => ?_)
          simp only [x_bin, g_int, g_bool, g_string, g_pointer, g_slice, g_map, g_func, g_nilFunc, g_err, g_iface, g_nil_iface, g_nil_r, g_nil_l, ev, Env.get, Option.getD_some, ↓reduceIte, Nat.reduceEqDiff, NextH, Env.putO, Env.put, ↓reduceIte, Nat.reduceEqDiff, upd_upd, Int.reduceToNat]
          first | rw [b_err_eql _ _ Try.underlying29] | (rw [e_eql _ _ _ _ (by simp), q_equal]; first | rw [q_iface_nil _ _ _ Try.underlying29] | rw [q_nil_iface _ _ _ Try.underlying29] | rw [q_nil_nil _ _ _ Try.underlying29])
          rw [okE_isNone]
          try simp only [ev, Env.get, Option.getD_some, ↓reduceIte, Nat.reduceEqDiff, NextH, Env.putO, Env.put, ↓reduceIte, Nat.reduceEqDiff, upd_upd, Int.reduceToNat]
          refine hK _ _ ?_; clear hK K
          refine OW_op rfl (lt_some (by decide)) (fun K hK r => ?_)
          simp only [x_move, ev, Env.get, Option.getD_some, ↓reduceIte, Nat.reduceEqDiff, NextH, Env.putO, Env.put, ↓reduceIte, Nat.reduceEqDiff, upd_upd, Int.reduceToNat]
          refine hK _ _ ?_; clear hK K
          (first | refine OW_split (d := 52) rfl (fun g52 => ?_) (fun g52 => ?_) | skip)
          all_goals try (exfalso; exact cnA g52)
          all_goals (try simp only [decide_eq_true_eq, decide_eq_false_iff_not, Bool.not_eq_true, Bool.not_eq_false, Bool.and_eq_true, Bool.or_eq_true, Bool.or_eq_false_iff, Bool.not_eq_true, Bool.not_eq_eq_eq_not, Bool.not_true, Bool.not_false] at g52)
          all_goals
            try simp only [NextH, Env.putO, Env.put, ↓reduceIte, Nat.reduceEqDiff, upd_upd, Int.reduceToNat]
            first
            | refine OW_guardT rfl (lt_some (by decide)) rfl (fun K hK r => ?_)
              simp only [x_move, ev, Env.get, Option.getD_some, ↓reduceIte, Nat.reduceEqDiff, NextH, Env.putO, Env.put, ↓reduceIte, Nat.reduceEqDiff, upd_upd, Int.reduceToNat]
              refine hK _ _ ?_; clear hK K
            | refine OW_guardF rfl (lt_some (by decide)) rfl ?_
              simp only [NextH, Env.putO, Env.put, ↓reduceIte, Nat.reduceEqDiff, upd_upd, Int.reduceToNat]
            first
            | refine OW_guardT rfl (lt_some (by decide)) rfl (fun K hK r => ?_)
              simp (disch := (first | omega | decide)) only [x_bin, g_int, b_neq, dec_lt_t, dec_lt_f, dec_le_t, dec_le_f, dec_eq_t, dec_eq_f, Bool.not_true, Bool.not_false, ev, Env.get, Option.getD_some, ↓reduceIte, Nat.reduceEqDiff, NextH, Env.putO, Env.put, ↓reduceIte, Nat.reduceEqDiff, upd_upd, Int.reduceToNat]
              refine hK _ _ ?_; clear hK K
            | refine OW_guardF rfl (lt_some (by decide)) rfl ?_
              simp only [NextH, Env.putO, Env.put, ↓reduceIte, Nat.reduceEqDiff, upd_upd, Int.reduceToNat]
            refine OW_op rfl (lt_some (by decide)) (fun K hK r => ?_)
            simp only [x_pick, l_asBool, HL.ite_bool, if_true, if_false, Bool.false_eq_true, ev, Env.get, Option.getD_some, ↓reduceIte, Nat.reduceEqDiff, NextH, Env.putO, Env.put, ↓reduceIte, Nat.reduceEqDiff, upd_upd, Int.reduceToNat]
            refine hK _ _ ?_; clear hK K
            refine OW_nil ?_
            try simp only [Ex.thnH, Ex.inBlockH, ↓reduceIte, Nat.reduceEqDiff]
            refine hK35 _ _ ?_; try clear hK35 K35
            refine CW_cond (fun r => rfl) (fun c55 => ?_) (fun c55 => ?_)
            · first
              | (exfalso; exact cnA c55; done)
              | skip
                (try simp only [decide_eq_true_eq, decide_eq_false_iff_not, Bool.not_eq_true, Bool.not_eq_false, Bool.and_eq_true, Bool.or_eq_true, Bool.or_eq_false_iff, Bool.not_eq_true, Bool.not_eq_eq_eq_not, Bool.not_true, Bool.not_false] at c55)
                have hfm : fitsI (a * b) := by assumption
                have hb0 : b ≠ 0 := by assumption
                refine CW_seq (fun K36 hK36 => ?_)
                refine CW_region ?_
                refine OW_op rfl (lt_some (by decide)) (fun K hK r => ?_)
                simp only [x_move, ev, Env.get, Option.getD_some, ↓reduceIte, Nat.reduceEqDiff, NextH, Env.putO, Env.put, ↓reduceIte, Nat.reduceEqDiff, upd_upd, Int.reduceToNat]
                refine hK _ _ ?_; clear hK K
                refine OW_op rfl (lt_some (by decide)) (fun K hK r => ?_)
                simp only [x_move, ev, Env.get, Option.getD_some, ↓reduceIte, Nat.reduceEqDiff, NextH, Env.putO, Env.put, ↓reduceIte, Nat.reduceEqDiff, upd_upd, Int.reduceToNat]
                refine hK _ _ ?_; clear hK K
                refine OW_op rfl (lt_some (by decide)) (fun K hK r => ?_)
                simp only [x_callF _ bd24, List.map_toArray, List.map_cons, List.map_nil, ev, Env.get, Option.getD_some, ↓reduceIte, Nat.reduceEqDiff, NextH, Env.putO, Env.put, ↓reduceIte, Nat.reduceEqDiff, upd_upd, Int.reduceToNat]
                rw [okI_fits hfm]
                refine (Div_ok _ (a * b) b hfm.1 hfm.2 b1 b2 hb0).mono ?_
                rintro v H' ⟨rfl, rfl⟩
                rw [mul_back hb0, okI_fits ⟨a1, a2⟩, okE_fits ⟨a1, a2⟩]
                try simp only [ev, Env.get, Option.getD_some, ↓reduceIte, Nat.reduceEqDiff, NextH, Env.putO, Env.put, ↓reduceIte, Nat.reduceEqDiff, upd_upd, Int.reduceToNat]
                refine hK _ _ ?_; clear hK K
                refine OW_op rfl (lt_some (by decide)) (fun K hK r => ?_)
                simp only [x_move, ev, Env.get, Option.getD_some, ↓reduceIte, Nat.reduceEqDiff, NextH, Env.putO, Env.put, ↓reduceIte, Nat.reduceEqDiff, upd_upd, Int.reduceToNat]
                refine hK _ _ ?_; clear hK K
                refine OW_op rfl (lt_some (by decide)) (fun K hK r => ?_)
                simp only [x_extract, i_extract, List.getElem?_toArray, List.getElem?_cons_zero, List.getElem?_cons_succ, orF_some, ev, Env.get, Option.getD_some, ↓reduceIte, Nat.reduceEqDiff, NextH, Env.putO, Env.put, ↓reduceIte, Nat.reduceEqDiff, upd_upd, Int.reduceToNat]
                refine hK _ _ ?_; clear hK K
                refine OW_op rfl (lt_some (by decide)) (fun K hK r => ?_)
                simp only [x_extract, i_extract, List.getElem?_toArray, List.getElem?_cons_zero, List.getElem?_cons_succ, orF_some, ev, Env.get, Option.getD_some, ↓reduceIte, Nat.reduceEqDiff, NextH, Env.putO, Env.put, ↓reduceIte, Nat.reduceEqDiff, upd_upd, Int.reduceToNat]
                refine hK _ _ ?_; clear hK K
                refine OW_op rfl (lt_some (by decide)) (fun K hK r => ?_)
                simp only [x_assign, ev, Env.get, Option.getD_some, ↓reduceIte, Nat.reduceEqDiff, NextH, Env.putO, Env.put, ↓reduceIte, Nat.reduceEqDiff, upd_upd, Int.reduceToNat]
                refine hK _ _ ?_; clear hK K
                refine OW_op rfl (lt_some (by decide)) (fun K hK r => ?_)
                simp only [x_assign, ev, Env.get, Option.getD_some, ↓reduceIte, Nat.reduceEqDiff, NextH, Env.putO, Env.put, ↓reduceIte, Nat.reduceEqDiff, upd_upd, Int.reduceToNat]
                refine hK _ _ ?_; clear hK K
                refine OW_nil ?_
                try simp only [Ex.thnH, Ex.inBlockH, ↓reduceIte, Nat.reduceEqDiff]
                refine hK36 _ _ ?_; try clear hK36 K36
                refine CW_seq (fun K37 hK37 => ?_)
                refine CW_region ?_
                refine OW_op rfl (lt_some (by decide)) (fun K hK r => ?_)
                simp only [x_move, ev, Env.get, Option.getD_some, ↓reduceIte, Nat.reduceEqDiff, NextH, Env.putO, Env.put, ↓reduceIte, Nat.reduceEqDiff, upd_upd, Int.reduceToNat]
                refine hK _ _ ?_; clear hK K
                refine OW_op rfl (lt_some (by decide)) (fun K hK r => ?_)
                simp only [x_bin, g_int, g_bool, g_string, g_pointer, g_slice, g_map, g_func, g_nilFunc, g_err, g_iface, g_nil_iface, g_nil_r, g_nil_l, ev, Env.get, Option.getD_some, ↓reduceIte, Nat.reduceEqDiff, NextH, Env.putO, Env.put, ↓reduceIte, Nat.reduceEqDiff, upd_upd, Int.reduceToNat]
                first | rw [b_err_neq _ _ Try.underlying29] | (rw [e_neq _ _ _ _ (by simp), q_equal]; first | rw [q_iface_nil _ _ _ Try.underlying29] | rw [q_nil_iface _ _ _ Try.underlying29] | rw [q_nil_nil _ _ _ Try.underlying29])
                try simp only [ev, Env.get, Option.getD_some, ↓reduceIte, Nat.reduceEqDiff, NextH, Env.putO, Env.put, ↓reduceIte, Nat.reduceEqDiff, upd_upd, Int.reduceToNat]
                refine hK _ _ ?_; clear hK K
                refine OW_op rfl (lt_some (by decide)) (fun K hK r => ?_)
                simp only [x_move, ev, Env.get, Option.getD_some, ↓reduceIte, Nat.reduceEqDiff, NextH, Env.putO, Env.put, ↓reduceIte, Nat.reduceEqDiff, upd_upd, Int.reduceToNat]
                refine hK _ _ ?_; clear hK K
                (first | refine OW_split (d := 64) rfl (fun g64 => ?_) (fun g64 => ?_) | skip)
                all_goals try (exfalso; exact cnA g64)
                all_goals (try simp only [decide_eq_true_eq, decide_eq_false_iff_not, Bool.not_eq_true, Bool.not_eq_false, Bool.and_eq_true, Bool.or_eq_true, Bool.or_eq_false_iff, Bool.not_eq_true, Bool.not_eq_eq_eq_not, Bool.not_true, Bool.not_false] at g64)
                all_goals
                  try simp only [NextH, Env.putO, Env.put, ↓reduceIte, Nat.reduceEqDiff, upd_upd, Int.reduceToNat]
                  first
                  | refine OW_guardT rfl (lt_some (by decide)) rfl (fun K hK r => ?_)
                    simp only [x_move, ev, Env.get, Option.getD_some, ↓reduceIte, Nat.reduceEqDiff, NextH, Env.putO, Env.put, ↓reduceIte, Nat.reduceEqDiff, upd_upd, Int.reduceToNat]
                    refine hK _ _ ?_; clear hK K
                  | refine OW_guardF rfl (lt_some (by decide)) rfl ?_
                    simp only [NextH, Env.putO, Env.put, ↓reduceIte, Nat.reduceEqDiff, upd_upd, Int.reduceToNat]
                  first
                  | refine OW_guardT rfl (lt_some (by decide)) rfl (fun K hK r => ?_)
                    simp only [x_move, ev, Env.get, Option.getD_some, ↓reduceIte, Nat.reduceEqDiff, NextH, Env.putO, Env.put, ↓reduceIte, Nat.reduceEqDiff, upd_upd, Int.reduceToNat]
                    refine hK _ _ ?_; clear hK K
                  | refine OW_guardF rfl (lt_some (by decide)) rfl ?_
                    simp only [NextH, Env.putO, Env.put, ↓reduceIte, Nat.reduceEqDiff, upd_upd, Int.reduceToNat]
                  first
                  | refine OW_guardT rfl (lt_some (by decide)) rfl (fun K hK r => ?_)
                    simp (disch := (first | omega | decide)) only [x_bin, g_int, b_neq, dec_lt_t, dec_lt_f, dec_le_t, dec_le_f, dec_eq_t, dec_eq_f, Bool.not_true, Bool.not_false, ev, Env.get, Option.getD_some, ↓reduceIte, Nat.reduceEqDiff, NextH, Env.putO, Env.put, ↓reduceIte, Nat.reduceEqDiff, upd_upd, Int.reduceToNat]
                    refine hK _ _ ?_; clear hK K
                  | refine OW_guardF rfl (lt_some (by decide)) rfl ?_
                    simp only [NextH, Env.putO, Env.put, ↓reduceIte, Nat.reduceEqDiff, upd_upd, Int.reduceToNat]
                  refine OW_op rfl (lt_some (by decide)) (fun K hK r => ?_)
                  simp only [x_pick, l_asBool, HL.ite_bool, if_true, if_false, Bool.false_eq_true, ev, Env.get, Option.getD_some, ↓reduceIte, Nat.reduceEqDiff, NextH, Env.putO, Env.put, ↓reduceIte, Nat.reduceEqDiff, upd_upd, Int.reduceToNat]
                  refine hK _ _ ?_; clear hK K
                  refine OW_nil ?_
                  try simp only [Ex.thnH, Ex.inBlockH, ↓reduceIte, Nat.reduceEqDiff]
                  refine hK37 _ _ ?_; try clear hK37 K37
                  refine CW_cond (fun r => rfl) (fun c68 => ?_) (fun c68 => ?_)
                  · first
                    | (exfalso; exact cnA c68; done)
                    | skip
                      (try simp only [decide_eq_true_eq, decide_eq_false_iff_not, Bool.not_eq_true, Bool.not_eq_false, Bool.and_eq_true, Bool.or_eq_true, Bool.or_eq_false_iff, Bool.not_eq_true, Bool.not_eq_eq_eq_not, Bool.not_true, Bool.not_false] at c68)
                      refine CW_seq (fun K38 hK38 => ?_)
                      refine CW_region ?_
                      refine OW_op rfl (lt_some (by decide)) (fun K hK r => ?_)
                      simp only [x_assign, ev, Env.get, Option.getD_some, ↓reduceIte, Nat.reduceEqDiff, NextH, Env.putO, Env.put, ↓reduceIte, Nat.reduceEqDiff, upd_upd, Int.reduceToNat]
                      refine hK _ _ ?_; clear hK K
                      refine OW_nil ?_
                      try simp only [Ex.thnH, Ex.inBlockH, ↓reduceIte, Nat.reduceEqDiff]
                      refine hK38 _ _ ?_; try clear hK38 K38
                      refine CW_ret ?_
                      try simp only [Ex.thnH, Ex.inBlockH, ↓reduceIte, Nat.reduceEqDiff]
                      refine ⟨[_], ⟨rfl, trivial⟩, _, Le.refl _, ?_, lhA⟩
                      show Value.bool _ = _
                      refine congrArg Value.bool ?_
                      clear c76
                      first | rfl | (simp_all; done) | (rcases hsg with h | h <;> simp_all; done)
                  · first
                    | (exfalso; exact cnA c68; done)
                    | skip
                      (try simp only [decide_eq_true_eq, decide_eq_false_iff_not, Bool.not_eq_true, Bool.not_eq_false, Bool.and_eq_true, Bool.or_eq_true, Bool.or_eq_false_iff, Bool.not_eq_true, Bool.not_eq_eq_eq_not, Bool.not_true, Bool.not_false] at c68)
                      refine CW_skip ?_
                      try simp only [Ex.thnH, Ex.inBlockH, ↓reduceIte, Nat.reduceEqDiff]
                      refine hK33 _ _ ?_; try clear hK33 K33
                      refine CW_seq (fun K39 hK39 => ?_)
                      refine CW_region ?_
                      refine OW_op rfl (lt_some (by decide)) (fun K hK r => ?_)
                      simp only [x_move, ev, Env.get, Option.getD_some, ↓reduceIte, Nat.reduceEqDiff, NextH, Env.putO, Env.put, ↓reduceIte, Nat.reduceEqDiff, upd_upd, Int.reduceToNat]
                      refine hK _ _ ?_; clear hK K
                      refine OW_op rfl (lt_some (by decide)) (fun K hK r => ?_)
                      simp only [x_move, ev, Env.get, Option.getD_some, ↓reduceIte, Nat.reduceEqDiff, NextH, Env.putO, Env.put, ↓reduceIte, Nat.reduceEqDiff, upd_upd, Int.reduceToNat]
                      refine hK _ _ ?_; clear hK K
                      refine OW_op rfl (lt_some (by decide)) (fun K hK r => ?_)
                      simp only [x_callF _ bd24, List.map_toArray, List.map_cons, List.map_nil, ev, Env.get, Option.getD_some, ↓reduceIte, Nat.reduceEqDiff, NextH, Env.putO, Env.put, ↓reduceIte, Nat.reduceEqDiff, upd_upd, Int.reduceToNat]
                      refine (Div_all _ a b a1 a2 b1 b2).mono ?_
                      rintro v H' ⟨rfl, rfl⟩
                      try simp only [ev, Env.get, Option.getD_some, ↓reduceIte, Nat.reduceEqDiff, NextH, Env.putO, Env.put, ↓reduceIte, Nat.reduceEqDiff, upd_upd, Int.reduceToNat]
                      refine hK _ _ ?_; clear hK K
                      refine OW_op rfl (lt_some (by decide)) (fun K hK r => ?_)
                      simp only [x_move, ev, Env.get, Option.getD_some, ↓reduceIte, Nat.reduceEqDiff, NextH, Env.putO, Env.put, ↓reduceIte, Nat.reduceEqDiff, upd_upd, Int.reduceToNat]
                      refine hK _ _ ?_; clear hK K
                      refine OW_op rfl (lt_some (by decide)) (fun K hK r => ?_)
                      simp only [x_extract, i_extract, List.getElem?_toArray, List.getElem?_cons_zero, List.getElem?_cons_succ, orF_some, ev, Env.get, Option.getD_some, ↓reduceIte, Nat.reduceEqDiff, NextH, Env.putO, Env.put, ↓reduceIte, Nat.reduceEqDiff, upd_upd, Int.reduceToNat]
                      refine hK _ _ ?_; clear hK K
                      refine OW_op rfl (lt_some (by decide)) (fun K hK r => ?_)
                      simp only [x_extract, i_extract, List.getElem?_toArray, List.getElem?_cons_zero, List.getElem?_cons_succ, orF_some, ev, Env.get, Option.getD_some, ↓reduceIte, Nat.reduceEqDiff, NextH, Env.putO, Env.put, ↓reduceIte, Nat.reduceEqDiff, upd_upd, Int.reduceToNat]
                      refine hK _ _ ?_; clear hK K
                      refine OW_op rfl (lt_some (by decide)) (fun K hK r => ?_)
                      simp only [x_assign, ev, Env.get, Option.getD_some, ↓reduceIte, Nat.reduceEqDiff, NextH, Env.putO, Env.put, ↓reduceIte, Nat.reduceEqDiff, upd_upd, Int.reduceToNat]
                      refine hK _ _ ?_; clear hK K
                      refine OW_op rfl (lt_some (by decide)) (fun K hK r => ?_)
                      simp only [x_assign, ev, Env.get, Option.getD_some, ↓reduceIte, Nat.reduceEqDiff, NextH, Env.putO, Env.put, ↓reduceIte, Nat.reduceEqDiff, upd_upd, Int.reduceToNat]
                      refine hK _ _ ?_; clear hK K
                      refine OW_nil ?_
                      try simp only [Ex.thnH, Ex.inBlockH, ↓reduceIte, Nat.reduceEqDiff]
                      refine hK39 _ _ ?_; try clear hK39 K39
                      refine CW_seq (fun K40 hK40 => ?_)
                      refine CW_seq (fun K41 hK41 => ?_)
                      refine CW_region ?_
                      refine OW_op rfl (lt_some (by decide)) (fun K hK r => ?_)
                      simp only [x_move, ev, Env.get, Option.getD_some, ↓reduceIte, Nat.reduceEqDiff, NextH, Env.putO, Env.put, ↓reduceIte, Nat.reduceEqDiff, upd_upd, Int.reduceToNat]
                      refine hK _ _ ?_; clear hK K
                      refine OW_op rfl (lt_some (by decide)) (fun K hK r => ?_)
                      simp only [x_bin, g_int, g_bool, g_string, g_pointer, g_slice, g_map, g_func, g_nilFunc, g_err, g_iface, g_nil_iface, g_nil_r, g_nil_l, ev, Env.get, Option.getD_some, ↓reduceIte, Nat.reduceEqDiff, NextH, Env.putO, Env.put, ↓reduceIte, Nat.reduceEqDiff, upd_upd, Int.reduceToNat]
                      first | rw [b_err_neq _ _ Try.underlying29] | (rw [e_neq _ _ _ _ (by simp), q_equal]; first | rw [q_iface_nil _ _ _ Try.underlying29] | rw [q_nil_iface _ _ _ Try.underlying29] | rw [q_nil_nil _ _ _ Try.underlying29])
                      rw [dvE_isSome]
                      try simp only [ev, Env.get, Option.getD_some, ↓reduceIte, Nat.reduceEqDiff, NextH, Env.putO, Env.put, ↓reduceIte, Nat.reduceEqDiff, upd_upd, Int.reduceToNat]
                      refine hK _ _ ?_; clear hK K
                      refine OW_nil ?_
                      try simp only [Ex.thnH, Ex.inBlockH, ↓reduceIte, Nat.reduceEqDiff]
                      refine hK41 _ _ ?_; try clear hK41 K41
                      refine CW_cond (fun r => rfl) (fun c76 => ?_) (fun c76 => ?_)
                      · first
                        | (exfalso; exact cnA c76; done)
                        | skip
                          have hbad := dv_bad a1 a2 (of_decide_eq_true c76)
                          refine CW_seq (fun K42 hK42 => ?_)
                          refine CW_region ?_
                          refine OW_op rfl (lt_some (by decide)) (fun K hK r => ?_)
                          simp only [x_move, ev, Env.get, Option.getD_some, ↓reduceIte, Nat.reduceEqDiff, NextH, Env.putO, Env.put, ↓reduceIte, Nat.reduceEqDiff, upd_upd, Int.reduceToNat]
                          refine hK _ _ ?_; clear hK K
                          refine OW_op rfl (lt_some (by decide)) (fun K hK r => ?_)
                          simp (disch := (first | omega | decide)) only [x_bin, g_int, b_eql, dec_lt_t, dec_lt_f, dec_le_t, dec_le_f, dec_eq_t, dec_eq_f, Bool.not_true, Bool.not_false, ev, Env.get, Option.getD_some, ↓reduceIte, Nat.reduceEqDiff, NextH, Env.putO, Env.put, ↓reduceIte, Nat.reduceEqDiff, upd_upd, Int.reduceToNat]
                          refine hK _ _ ?_; clear hK K
                          refine OW_op rfl (lt_some (by decide)) (fun K hK r => ?_)
                          simp only [x_move, ev, Env.get, Option.getD_some, ↓reduceIte, Nat.reduceEqDiff, NextH, Env.putO, Env.put, ↓reduceIte, Nat.reduceEqDiff, upd_upd, Int.reduceToNat]
                          refine hK _ _ ?_; clear hK K
                          (first | refine OW_split (d := 79) rfl (fun g79 => ?_) (fun g79 => ?_) | skip)
                          all_goals try (exfalso; exact cnA g79)
                          all_goals (try simp only [decide_eq_true_eq, decide_eq_false_iff_not, Bool.not_eq_true, Bool.not_eq_false, Bool.and_eq_true, Bool.or_eq_true, Bool.or_eq_false_iff, Bool.not_eq_true, Bool.not_eq_eq_eq_not, Bool.not_true, Bool.not_false] at g79)
                          all_goals
                            try simp only [NextH, Env.putO, Env.put, ↓reduceIte, Nat.reduceEqDiff, upd_upd, Int.reduceToNat]
                            first
                            | refine OW_guardT rfl (lt_some (by decide)) rfl (fun K hK r => ?_)
                              simp only [x_move, ev, Env.get, Option.getD_some, ↓reduceIte, Nat.reduceEqDiff, NextH, Env.putO, Env.put, ↓reduceIte, Nat.reduceEqDiff, upd_upd, Int.reduceToNat]
                              refine hK _ _ ?_; clear hK K
                            | refine OW_guardF rfl (lt_some (by decide)) rfl ?_
                              simp only [NextH, Env.putO, Env.put, ↓reduceIte, Nat.reduceEqDiff, upd_upd, Int.reduceToNat]
                            first
                            | refine OW_guardT rfl (lt_some (by decide)) rfl (fun K hK r => ?_)
                              simp (disch := (first | omega | decide)) only [x_bin, g_int, b_eql, dec_lt_t, dec_lt_f, dec_le_t, dec_le_f, dec_eq_t, dec_eq_f, Bool.not_true, Bool.not_false, ev, Env.get, Option.getD_some, ↓reduceIte, Nat.reduceEqDiff, NextH, Env.putO, Env.put, ↓reduceIte, Nat.reduceEqDiff, upd_upd, Int.reduceToNat]
                              refine hK _ _ ?_; clear hK K
                            | refine OW_guardF rfl (lt_some (by decide)) rfl ?_
                              simp only [NextH, Env.putO, Env.put, ↓reduceIte, Nat.reduceEqDiff, upd_upd, Int.reduceToNat]
                            first
                            | refine OW_guardT rfl (lt_some (by decide)) rfl (fun K hK r => ?_)
                              simp only [x_move, ev, Env.get, Option.getD_some, ↓reduceIte, Nat.reduceEqDiff, NextH, Env.putO, Env.put, ↓reduceIte, Nat.reduceEqDiff, upd_upd, Int.reduceToNat]
                              refine hK _ _ ?_; clear hK K
                            | refine OW_guardF rfl (lt_some (by decide)) rfl ?_
                              simp only [NextH, Env.putO, Env.put, ↓reduceIte, Nat.reduceEqDiff, upd_upd, Int.reduceToNat]
                            (first | refine OW_split (d := 82) rfl (fun g82 => ?_) (fun g82 => ?_) | skip)
                            all_goals try (exfalso; exact cnA g82)
                            all_goals (try simp only [decide_eq_true_eq, decide_eq_false_iff_not, Bool.not_eq_true, Bool.not_eq_false, Bool.and_eq_true, Bool.or_eq_true, Bool.or_eq_false_iff, Bool.not_eq_true, Bool.not_eq_eq_eq_not, Bool.not_true, Bool.not_false] at g82)
                            all_goals
                              try simp only [NextH, Env.putO, Env.put, ↓reduceIte, Nat.reduceEqDiff, upd_upd, Int.reduceToNat]
                              first
                              | refine OW_guardT rfl (lt_some (by decide)) rfl (fun K hK r => ?_)
                                simp only [x_move, ev, Env.get, Option.getD_some, ↓reduceIte, Nat.reduceEqDiff, NextH, Env.putO, Env.put, ↓reduceIte, Nat.reduceEqDiff, upd_upd, Int.reduceToNat]
                                refine hK _ _ ?_; clear hK K
                              | refine OW_guardF rfl (lt_some (by decide)) rfl ?_
                                simp only [NextH, Env.putO, Env.put, ↓reduceIte, Nat.reduceEqDiff, upd_upd, Int.reduceToNat]
                              first
                              | refine OW_guardT rfl (lt_some (by decide)) rfl (fun K hK r => ?_)
                                simp (disch := (first | omega | decide)) only [x_bin, g_int, b_eql, dec_lt_t, dec_lt_f, dec_le_t, dec_le_f, dec_eq_t, dec_eq_f, Bool.not_true, Bool.not_false, ev, Env.get, Option.getD_some, ↓reduceIte, Nat.reduceEqDiff, NextH, Env.putO, Env.put, ↓reduceIte, Nat.reduceEqDiff, upd_upd, Int.reduceToNat]
                                refine hK _ _ ?_; clear hK K
                              | refine OW_guardF rfl (lt_some (by decide)) rfl ?_
                                simp only [NextH, Env.putO, Env.put, ↓reduceIte, Nat.reduceEqDiff, upd_upd, Int.reduceToNat]
                              first
                              | refine OW_guardT rfl (lt_some (by decide)) rfl (fun K hK r => ?_)
                                simp only [x_pick, l_asBool, HL.ite_bool, if_true, if_false, Bool.false_eq_true, ev, Env.get, Option.getD_some, ↓reduceIte, Nat.reduceEqDiff, NextH, Env.putO, Env.put, ↓reduceIte, Nat.reduceEqDiff, upd_upd, Int.reduceToNat]
                                refine hK _ _ ?_; clear hK K
                              | refine OW_guardF rfl (lt_some (by decide)) rfl ?_
                                simp only [NextH, Env.putO, Env.put, ↓reduceIte, Nat.reduceEqDiff, upd_upd, Int.reduceToNat]
                              refine OW_op rfl (lt_some (by decide)) (fun K hK r => ?_)
                              simp only [x_pick, l_asBool, HL.ite_bool, if_true, if_false, Bool.false_eq_true, ev, Env.get, Option.getD_some, ↓reduceIte, Nat.reduceEqDiff, NextH, Env.putO, Env.put, ↓reduceIte, Nat.reduceEqDiff, upd_upd, Int.reduceToNat]
                              refine hK _ _ ?_; clear hK K
                              refine OW_op rfl (lt_some (by decide)) (fun K hK r => ?_)
                              simp only [x_assign, ev, Env.get, Option.getD_some, ↓reduceIte, Nat.reduceEqDiff, NextH, Env.putO, Env.put, ↓reduceIte, Nat.reduceEqDiff, upd_upd, Int.reduceToNat]
                              refine hK _ _ ?_; clear hK K
                              refine OW_nil ?_
                              try simp only [Ex.thnH, Ex.inBlockH, ↓reduceIte, Nat.reduceEqDiff]
                              refine hK42 _ _ ?_; try clear hK42 K42
                              refine CW_ret ?_
                              try simp only [Ex.thnH, Ex.inBlockH, ↓reduceIte, Nat.reduceEqDiff]
                              refine ⟨[_], ⟨rfl, trivial⟩, _, Le.refl _, ?_, lhA⟩
                              show Value.bool _ = _
                              refine congrArg Value.bool ?_
                              clear c76
                              first | rfl | (simp_all; done) | (rcases hsg with h | h <;> simp_all; done)
                      · first
                        | (exfalso; exact cnA c76; done)
                        | skip
                          (try simp only [decide_eq_true_eq, decide_eq_false_iff_not, Bool.not_eq_true, Bool.not_eq_false, Bool.and_eq_true, Bool.or_eq_true, Bool.or_eq_false_iff, Bool.not_eq_true, Bool.not_eq_eq_eq_not, Bool.not_true, Bool.not_false] at c76)
                          have hfd : b ≠ 0 ∧ fitsI (a.tdiv b) := by first | assumption | (simp only [Classical.not_not] at c76; exact c76) | (apply Classical.byContradiction; intro hc; exact c76 hc)
                          refine CW_skip ?_
                          try simp only [Ex.thnH, Ex.inBlockH, ↓reduceIte, Nat.reduceEqDiff]
                          refine hK40 _ _ ?_; try clear hK40 K40
                          refine CW_seq (fun K43 hK43 => ?_)
                          refine CW_region ?_
                          refine OW_op rfl (lt_some (by decide)) (fun K hK r => ?_)
                          simp only [x_move, ev, Env.get, Option.getD_some, ↓reduceIte, Nat.reduceEqDiff, NextH, Env.putO, Env.put, ↓reduceIte, Nat.reduceEqDiff, upd_upd, Int.reduceToNat]
                          refine hK _ _ ?_; clear hK K
                          refine OW_op rfl (lt_some (by decide)) (fun K hK r => ?_)
                          simp only [x_move, ev, Env.get, Option.getD_some, ↓reduceIte, Nat.reduceEqDiff, NextH, Env.putO, Env.put, ↓reduceIte, Nat.reduceEqDiff, upd_upd, Int.reduceToNat]
                          refine hK _ _ ?_; clear hK K
                          refine OW_op rfl (lt_some (by decide)) (fun K hK r => ?_)
                          simp only [x_callF _ bd25, List.map_toArray, List.map_cons, List.map_nil, ev, Env.get, Option.getD_some, ↓reduceIte, Nat.reduceEqDiff, NextH, Env.putO, Env.put, ↓reduceIte, Nat.reduceEqDiff, upd_upd, Int.reduceToNat]
                          refine (Mod_ok _ a b a1 a2 b1 b2 hfd.1).mono ?_
                          rintro v H' ⟨rfl, rfl⟩
                          try simp only [ev, Env.get, Option.getD_some, ↓reduceIte, Nat.reduceEqDiff, NextH, Env.putO, Env.put, ↓reduceIte, Nat.reduceEqDiff, upd_upd, Int.reduceToNat]
                          refine hK _ _ ?_; clear hK K
                          refine OW_op rfl (lt_some (by decide)) (fun K hK r => ?_)
                          simp only [x_move, ev, Env.get, Option.getD_some, ↓reduceIte, Nat.reduceEqDiff, NextH, Env.putO, Env.put, ↓reduceIte, Nat.reduceEqDiff, upd_upd, Int.reduceToNat]
                          refine hK _ _ ?_; clear hK K
                          refine OW_op rfl (lt_some (by decide)) (fun K hK r => ?_)
                          simp only [x_extract, i_extract, List.getElem?_toArray, List.getElem?_cons_zero, List.getElem?_cons_succ, orF_some, ev, Env.get, Option.getD_some, ↓reduceIte, Nat.reduceEqDiff, NextH, Env.putO, Env.put, ↓reduceIte, Nat.reduceEqDiff, upd_upd, Int.reduceToNat]
                          refine hK _ _ ?_; clear hK K
                          refine OW_op rfl (lt_some (by decide)) (fun K hK r => ?_)
                          simp only [x_extract, i_extract, List.getElem?_toArray, List.getElem?_cons_zero, List.getElem?_cons_succ, orF_some, ev, Env.get, Option.getD_some, ↓reduceIte, Nat.reduceEqDiff, NextH, Env.putO, Env.put, ↓reduceIte, Nat.reduceEqDiff, upd_upd, Int.reduceToNat]
                          refine hK _ _ ?_; clear hK K
                          refine OW_op rfl (lt_some (by decide)) (fun K hK r => ?_)
                          simp only [x_assign, ev, Env.get, Option.getD_some, ↓reduceIte, Nat.reduceEqDiff, NextH, Env.putO, Env.put, ↓reduceIte, Nat.reduceEqDiff, upd_upd, Int.reduceToNat]
                          refine hK _ _ ?_; clear hK K
                          refine OW_op rfl (lt_some (by decide)) (fun K hK r => ?_)
                          simp only [x_assign, ev, Env.get, Option.getD_some, ↓reduceIte, Nat.reduceEqDiff, NextH, Env.putO, Env.put, ↓reduceIte, Nat.reduceEqDiff, upd_upd, Int.reduceToNat]
                          refine hK _ _ ?_; clear hK K
                          refine OW_nil ?_
                          try simp only [Ex.thnH, Ex.inBlockH, ↓reduceIte, Nat.reduceEqDiff]
                          refine hK43 _ _ ?_; try clear hK43 K43
                          refine CW_seq (fun K44 hK44 => ?_)
                          refine CW_region ?_
                          refine OW_op rfl (lt_some (by decide)) (fun K hK r => ?_)
                          simp only [x_move, ev, Env.get, Option.getD_some, ↓reduceIte, Nat.reduceEqDiff, NextH, Env.putO, Env.put, ↓reduceIte, Nat.reduceEqDiff, upd_upd, Int.reduceToNat]
                          refine hK _ _ ?_; clear hK K
                          refine OW_op rfl (lt_some (by decide)) (fun K hK r => ?_)
                          simp only [x_move, ev, Env.get, Option.getD_some, ↓reduceIte, Nat.reduceEqDiff, NextH, Env.putO, Env.put, ↓reduceIte, Nat.reduceEqDiff, upd_upd, Int.reduceToNat]
                          refine hK _ _ ?_; clear hK K
                          refine OW_op rfl (lt_some (by decide)) (fun K hK r => ?_)
                          simp only [x_callF _ bd22, List.map_toArray, List.map_cons, List.map_nil, ev, Env.get, Option.getD_some, ↓reduceIte, Nat.reduceEqDiff, NextH, Env.putO, Env.put, ↓reduceIte, Nat.reduceEqDiff, upd_upd, Int.reduceToNat]
                          have hdi : dvI a b = a.tdiv b := by unfold dvI; rw [if_neg hfd.1, okI_fits hfd.2]
                          rw [hdi]
                          have hdm := div_mul_fits (b := b) a1 a2
                          refine (Mul_ok _ (a.tdiv b) b hfd.2.1 hfd.2.2 b1 b2).mono ?_
                          rintro v H' ⟨rfl, rfl⟩
                          rw [okI_fits hdm, okE_fits hdm]
                          try simp only [ev, Env.get, Option.getD_some, ↓reduceIte, Nat.reduceEqDiff, NextH, Env.putO, Env.put, ↓reduceIte, Nat.reduceEqDiff, upd_upd, Int.reduceToNat]
                          refine hK _ _ ?_; clear hK K
                          refine OW_op rfl (lt_some (by decide)) (fun K hK r => ?_)
                          simp only [x_move, ev, Env.get, Option.getD_some, ↓reduceIte, Nat.reduceEqDiff, NextH, Env.putO, Env.put, ↓reduceIte, Nat.reduceEqDiff, upd_upd, Int.reduceToNat]
                          refine hK _ _ ?_; clear hK K
                          refine OW_op rfl (lt_some (by decide)) (fun K hK r => ?_)
                          simp only [x_extract, i_extract, List.getElem?_toArray, List.getElem?_cons_zero, List.getElem?_cons_succ, orF_some, ev, Env.get, Option.getD_some, ↓reduceIte, Nat.reduceEqDiff, NextH, Env.putO, Env.put, ↓reduceIte, Nat.reduceEqDiff, upd_upd, Int.reduceToNat]
                          refine hK _ _ ?_; clear hK K
                          refine OW_op rfl (lt_some (by decide)) (fun K hK r => ?_)
                          simp only [x_extract, i_extract, List.getElem?_toArray, List.getElem?_cons_zero, List.getElem?_cons_succ, orF_some, ev, Env.get, Option.getD_some, ↓reduceIte, Nat.reduceEqDiff, NextH, Env.putO, Env.put, ↓reduceIte, Nat.reduceEqDiff, upd_upd, Int.reduceToNat]
                          refine hK _ _ ?_; clear hK K
                          refine OW_op rfl (lt_some (by decide)) (fun K hK r => ?_)
                          simp only [x_assign, ev, Env.get, Option.getD_some, ↓reduceIte, Nat.reduceEqDiff, NextH, Env.putO, Env.put, ↓reduceIte, Nat.reduceEqDiff, upd_upd, Int.reduceToNat]
                          refine hK _ _ ?_; clear hK K
                          refine OW_op rfl (lt_some (by decide)) (fun K hK r => ?_)
                          simp only [x_assign, ev, Env.get, Option.getD_some, ↓reduceIte, Nat.reduceEqDiff, NextH, Env.putO, Env.put, ↓reduceIte, Nat.reduceEqDiff, upd_upd, Int.reduceToNat]
                          refine hK _ _ ?_; clear hK K
                          refine OW_nil ?_
                          try simp only [Ex.thnH, Ex.inBlockH, ↓reduceIte, Nat.reduceEqDiff]
                          refine hK44 _ _ ?_; try clear hK44 K44
                          refine CW_seq (fun K45 hK45 => ?_)
                          refine CW_region ?_
                          refine OW_op rfl (lt_some (by decide)) (fun K hK r => ?_)
                          simp only [x_move, ev, Env.get, Option.getD_some, ↓reduceIte, Nat.reduceEqDiff, NextH, Env.putO, Env.put, ↓reduceIte, Nat.reduceEqDiff, upd_upd, Int.reduceToNat]
                          refine hK _ _ ?_; clear hK K
                          refine OW_op rfl (lt_some (by decide)) (fun K hK r => ?_)
                          simp only [x_move, ev, Env.get, Option.getD_some, ↓reduceIte, Nat.reduceEqDiff, NextH, Env.putO, Env.put, ↓reduceIte, Nat.reduceEqDiff, upd_upd, Int.reduceToNat]
                          refine hK _ _ ?_; clear hK K
                          refine OW_op rfl (lt_some (by decide)) (fun K hK r => ?_)
                          simp only [x_callF _ bd20, List.map_toArray, List.map_cons, List.map_nil, ev, Env.get, Option.getD_some, ↓reduceIte, Nat.reduceEqDiff, NextH, Env.putO, Env.put, ↓reduceIte, Nat.reduceEqDiff, upd_upd, Int.reduceToNat]
                          have hmf := tmod_fits (b := b) a1 a2
                          refine (Add_ok _ (a.tdiv b * b) (a.tmod b) hdm.1 hdm.2 hmf.1 hmf.2).mono ?_
                          rintro v H' ⟨rfl, rfl⟩
                          rw [div_mul, okI_fits ⟨a1, a2⟩, okE_fits ⟨a1, a2⟩]
                          have hsg := tmod_sign a b
                          try simp only [ev, Env.get, Option.getD_some, ↓reduceIte, Nat.reduceEqDiff, NextH, Env.putO, Env.put, ↓reduceIte, Nat.reduceEqDiff, upd_upd, Int.reduceToNat]
                          refine hK _ _ ?_; clear hK K
                          refine OW_op rfl (lt_some (by decide)) (fun K hK r => ?_)
                          simp only [x_move, ev, Env.get, Option.getD_some, ↓reduceIte, Nat.reduceEqDiff, NextH, Env.putO, Env.put, ↓reduceIte, Nat.reduceEqDiff, upd_upd, Int.reduceToNat]
                          refine hK _ _ ?_; clear hK K
                          refine OW_op rfl (lt_some (by decide)) (fun K hK r => ?_)
                          simp only [x_extract, i_extract, List.getElem?_toArray, List.getElem?_cons_zero, List.getElem?_cons_succ, orF_some, ev, Env.get, Option.getD_some, ↓reduceIte, Nat.reduceEqDiff, NextH, Env.putO, Env.put, ↓reduceIte, Nat.reduceEqDiff, upd_upd, Int.reduceToNat]
                          refine hK _ _ ?_; clear hK K
                          refine OW_op rfl (lt_some (by decide)) (fun K hK r => ?_)
                          simp only [x_extract, i_extract, List.getElem?_toArray, List.getElem?_cons_zero, List.getElem?_cons_succ, orF_some, ev, Env.get, Option.getD_some, ↓reduceIte, Nat.reduceEqDiff, NextH, Env.putO, Env.put, ↓reduceIte, Nat.reduceEqDiff, upd_upd, Int.reduceToNat]
                          refine hK _ _ ?_; clear hK K
                          refine OW_op rfl (lt_some (by decide)) (fun K hK r => ?_)
                          simp only [x_assign, ev, Env.get, Option.getD_some, ↓reduceIte, Nat.reduceEqDiff, NextH, Env.putO, Env.put, ↓reduceIte, Nat.reduceEqDiff, upd_upd, Int.reduceToNat]
                          refine hK _ _ ?_; clear hK K
                          refine OW_op rfl (lt_some (by decide)) (fun K hK r => ?_)
                          simp only [x_assign, ev, Env.get, Option.getD_some, ↓reduceIte, Nat.reduceEqDiff, NextH, Env.putO, Env.put, ↓reduceIte, Nat.reduceEqDiff, upd_upd, Int.reduceToNat]
                          refine hK _ _ ?_; clear hK K
                          refine OW_nil ?_
                          try simp only [Ex.thnH, Ex.inBlockH, ↓reduceIte, Nat.reduceEqDiff]
                          refine hK45 _ _ ?_; try clear hK45 K45
                          refine CW_seq (fun K46 hK46 => ?_)
                          refine CW_region ?_
                          refine OW_op rfl (lt_some (by decide)) (fun K hK r => ?_)
                          simp only [x_move, ev, Env.get, Option.getD_some, ↓reduceIte, Nat.reduceEqDiff, NextH, Env.putO, Env.put, ↓reduceIte, Nat.reduceEqDiff, upd_upd, Int.reduceToNat]
                          refine hK _ _ ?_; clear hK K
                          refine OW_op rfl (lt_some (by decide)) (fun K hK r => ?_)
                          simp only [x_bin, g_int, g_bool, g_string, g_pointer, g_slice, g_map, g_func, g_nilFunc, g_err, g_iface, g_nil_iface, g_nil_r, g_nil_l, ev, Env.get, Option.getD_some, ↓reduceIte, Nat.reduceEqDiff, NextH, Env.putO, Env.put, ↓reduceIte, Nat.reduceEqDiff, upd_upd, Int.reduceToNat]
                          first | rw [b_err_eql _ _ Try.underlying29] | (rw [e_eql _ _ _ _ (by simp), q_equal]; first | rw [q_iface_nil _ _ _ Try.underlying29] | rw [q_nil_iface _ _ _ Try.underlying29] | rw [q_nil_nil _ _ _ Try.underlying29])
                          try simp only [ev, Env.get, Option.getD_some, ↓reduceIte, Nat.reduceEqDiff, NextH, Env.putO, Env.put, ↓reduceIte, Nat.reduceEqDiff, upd_upd, Int.reduceToNat]
                          refine hK _ _ ?_; clear hK K
                          refine OW_op rfl (lt_some (by decide)) (fun K hK r => ?_)
                          simp only [x_move, ev, Env.get, Option.getD_some, ↓reduceIte, Nat.reduceEqDiff, NextH, Env.putO, Env.put, ↓reduceIte, Nat.reduceEqDiff, upd_upd, Int.reduceToNat]
                          refine hK _ _ ?_; clear hK K
                          (first | refine OW_split (d := 107) rfl (fun g107 => ?_) (fun g107 => ?_) | skip)
                          all_goals try (exfalso; exact cnA g107)
                          all_goals (try simp only [decide_eq_true_eq, decide_eq_false_iff_not, Bool.not_eq_true, Bool.not_eq_false, Bool.and_eq_true, Bool.or_eq_true, Bool.or_eq_false_iff, Bool.not_eq_true, Bool.not_eq_eq_eq_not, Bool.not_true, Bool.not_false] at g107)
                          all_goals
                            try simp only [NextH, Env.putO, Env.put, ↓reduceIte, Nat.reduceEqDiff, upd_upd, Int.reduceToNat]
                            first
                            | refine OW_guardT rfl (lt_some (by decide)) rfl (fun K hK r => ?_)
                              simp only [x_move, ev, Env.get, Option.getD_some, ↓reduceIte, Nat.reduceEqDiff, NextH, Env.putO, Env.put, ↓reduceIte, Nat.reduceEqDiff, upd_upd, Int.reduceToNat]
                              refine hK _ _ ?_; clear hK K
                            | refine OW_guardF rfl (lt_some (by decide)) rfl ?_
                              simp only [NextH, Env.putO, Env.put, ↓reduceIte, Nat.reduceEqDiff, upd_upd, Int.reduceToNat]
                            first
                            | refine OW_guardT rfl (lt_some (by decide)) rfl (fun K hK r => ?_)
                              simp only [x_bin, g_int, g_bool, g_string, g_pointer, g_slice, g_map, g_func, g_nilFunc, g_err, g_iface, g_nil_iface, g_nil_r, g_nil_l, ev, Env.get, Option.getD_some, ↓reduceIte, Nat.reduceEqDiff, NextH, Env.putO, Env.put, ↓reduceIte, Nat.reduceEqDiff, upd_upd, Int.reduceToNat]
                              first | rw [b_err_eql _ _ Try.underlying29] | (rw [e_eql _ _ _ _ (by simp), q_equal]; first | rw [q_iface_nil _ _ _ Try.underlying29] | rw [q_nil_iface _ _ _ Try.underlying29] | rw [q_nil_nil _ _ _ Try.underlying29])
                              try simp only [ev, Env.get, Option.getD_some, ↓reduceIte, Nat.reduceEqDiff, NextH, Env.putO, Env.put, ↓reduceIte, Nat.reduceEqDiff, upd_upd, Int.reduceToNat]
                              refine hK _ _ ?_; clear hK K
                            | refine OW_guardF rfl (lt_some (by decide)) rfl ?_
                              simp only [NextH, Env.putO, Env.put, ↓reduceIte, Nat.reduceEqDiff, upd_upd, Int.reduceToNat]
                            refine OW_op rfl (lt_some (by decide)) (fun K hK r => ?_)
                            simp only [x_pick, l_asBool, HL.ite_bool, if_true, if_false, Bool.false_eq_true, ev, Env.get, Option.getD_some, ↓reduceIte, Nat.reduceEqDiff, NextH, Env.putO, Env.put, ↓reduceIte, Nat.reduceEqDiff, upd_upd, Int.reduceToNat]
                            refine hK _ _ ?_; clear hK K
                            refine OW_op rfl (lt_some (by decide)) (fun K hK r => ?_)
                            simp only [x_move, ev, Env.get, Option.getD_some, ↓reduceIte, Nat.reduceEqDiff, NextH, Env.putO, Env.put, ↓reduceIte, Nat.reduceEqDiff, upd_upd, Int.reduceToNat]
                            refine hK _ _ ?_; clear hK K
                            (first | refine OW_split (d := 111) rfl (fun g111 => ?_) (fun g111 => ?_) | skip)
                            all_goals try (exfalso; exact cnA g111)
                            all_goals (try simp only [decide_eq_true_eq, decide_eq_false_iff_not, Bool.not_eq_true, Bool.not_eq_false, Bool.and_eq_true, Bool.or_eq_true, Bool.or_eq_false_iff, Bool.not_eq_true, Bool.not_eq_eq_eq_not, Bool.not_true, Bool.not_false] at g111)
                            all_goals
                              try simp only [NextH, Env.putO, Env.put, ↓reduceIte, Nat.reduceEqDiff, upd_upd, Int.reduceToNat]
                              first
                              | refine OW_guardT rfl (lt_some (by decide)) rfl (fun K hK r => ?_)
                                simp only [x_move, ev, Env.get, Option.getD_some, ↓reduceIte, Nat.reduceEqDiff, NextH, Env.putO, Env.put, ↓reduceIte, Nat.reduceEqDiff, upd_upd, Int.reduceToNat]
                                refine hK _ _ ?_; clear hK K
                              | refine OW_guardF rfl (lt_some (by decide)) rfl ?_
                                simp only [NextH, Env.putO, Env.put, ↓reduceIte, Nat.reduceEqDiff, upd_upd, Int.reduceToNat]
                              first
                              | refine OW_guardT rfl (lt_some (by decide)) rfl (fun K hK r => ?_)
                                simp only [x_bin, g_int, g_bool, g_string, g_pointer, g_slice, g_map, g_func, g_nilFunc, g_err, g_iface, g_nil_iface, g_nil_r, g_nil_l, ev, Env.get, Option.getD_some, ↓reduceIte, Nat.reduceEqDiff, NextH, Env.putO, Env.put, ↓reduceIte, Nat.reduceEqDiff, upd_upd, Int.reduceToNat]
                                first | rw [b_err_eql _ _ Try.underlying29] | (rw [e_eql _ _ _ _ (by simp), q_equal]; first | rw [q_iface_nil _ _ _ Try.underlying29] | rw [q_nil_iface _ _ _ Try.underlying29] | rw [q_nil_nil _ _ _ Try.underlying29])
                                try simp only [ev, Env.get, Option.getD_some, ↓reduceIte, Nat.reduceEqDiff, NextH, Env.putO, Env.put, ↓reduceIte, Nat.reduceEqDiff, upd_upd, Int.reduceToNat]
                                refine hK _ _ ?_; clear hK K
                              | refine OW_guardF rfl (lt_some (by decide)) rfl ?_
                                simp only [NextH, Env.putO, Env.put, ↓reduceIte, Nat.reduceEqDiff, upd_upd, Int.reduceToNat]
                              refine OW_op rfl (lt_some (by decide)) (fun K hK r => ?_)
                              simp only [x_pick, l_asBool, HL.ite_bool, if_true, if_false, Bool.false_eq_true, ev, Env.get, Option.getD_some, ↓reduceIte, Nat.reduceEqDiff, NextH, Env.putO, Env.put, ↓reduceIte, Nat.reduceEqDiff, upd_upd, Int.reduceToNat]
                              refine hK _ _ ?_; clear hK K
                              refine OW_op rfl (lt_some (by decide)) (fun K hK r => ?_)
                              simp only [x_move, ev, Env.get, Option.getD_some, ↓reduceIte, Nat.reduceEqDiff, NextH, Env.putO, Env.put, ↓reduceIte, Nat.reduceEqDiff, upd_upd, Int.reduceToNat]
                              refine hK _ _ ?_; clear hK K
                              (first | refine OW_split (d := 115) rfl (fun g115 => ?_) (fun g115 => ?_) | skip)
                              all_goals try (exfalso; exact cnA g115)
                              all_goals (try simp only [decide_eq_true_eq, decide_eq_false_iff_not, Bool.not_eq_true, Bool.not_eq_false, Bool.and_eq_true, Bool.or_eq_true, Bool.or_eq_false_iff, Bool.not_eq_true, Bool.not_eq_eq_eq_not, Bool.not_true, Bool.not_false] at g115)
                              all_goals
                                try simp only [NextH, Env.putO, Env.put, ↓reduceIte, Nat.reduceEqDiff, upd_upd, Int.reduceToNat]
                                first
                                | refine OW_guardT rfl (lt_some (by decide)) rfl (fun K hK r => ?_)
                                  simp only [x_move, ev, Env.get, Option.getD_some, ↓reduceIte, Nat.reduceEqDiff, NextH, Env.putO, Env.put, ↓reduceIte, Nat.reduceEqDiff, upd_upd, Int.reduceToNat]
                                  refine hK _ _ ?_; clear hK K
                                | refine OW_guardF rfl (lt_some (by decide)) rfl ?_
                                  simp only [NextH, Env.putO, Env.put, ↓reduceIte, Nat.reduceEqDiff, upd_upd, Int.reduceToNat]
                                first
                                | refine OW_guardT rfl (lt_some (by decide)) rfl (fun K hK r => ?_)
                                  simp only [x_move, ev, Env.get, Option.getD_some, ↓reduceIte, Nat.reduceEqDiff, NextH, Env.putO, Env.put, ↓reduceIte, Nat.reduceEqDiff, upd_upd, Int.reduceToNat]
                                  refine hK _ _ ?_; clear hK K
                                | refine OW_guardF rfl (lt_some (by decide)) rfl ?_
                                  simp only [NextH, Env.putO, Env.put, ↓reduceIte, Nat.reduceEqDiff, upd_upd, Int.reduceToNat]
                                first
                                | refine OW_guardT rfl (lt_some (by decide)) rfl (fun K hK r => ?_)
                                  simp (disch := (first | omega | decide)) only [x_bin, g_int, b_eql, dec_lt_t, dec_lt_f, dec_le_t, dec_le_f, dec_eq_t, dec_eq_f, Bool.not_true, Bool.not_false, ev, Env.get, Option.getD_some, ↓reduceIte, Nat.reduceEqDiff, NextH, Env.putO, Env.put, ↓reduceIte, Nat.reduceEqDiff, upd_upd, Int.reduceToNat]
                                  refine hK _ _ ?_; clear hK K
                                | refine OW_guardF rfl (lt_some (by decide)) rfl ?_
                                  simp only [NextH, Env.putO, Env.put, ↓reduceIte, Nat.reduceEqDiff, upd_upd, Int.reduceToNat]
                                refine OW_op rfl (lt_some (by decide)) (fun K hK r => ?_)
                                simp only [x_pick, l_asBool, HL.ite_bool, if_true, if_false, Bool.false_eq_true, ev, Env.get, Option.getD_some, ↓reduceIte, Nat.reduceEqDiff, NextH, Env.putO, Env.put, ↓reduceIte, Nat.reduceEqDiff, upd_upd, Int.reduceToNat]
                                refine hK _ _ ?_; clear hK K
                                refine OW_op rfl (lt_some (by decide)) (fun K hK r => ?_)
                                simp only [x_move, ev, Env.get, Option.getD_some, ↓reduceIte, Nat.reduceEqDiff, NextH, Env.putO, Env.put, ↓reduceIte, Nat.reduceEqDiff, upd_upd, Int.reduceToNat]
                                refine hK _ _ ?_; clear hK K
                                (first | refine OW_split (d := 120) rfl (fun g120 => ?_) (fun g120 => ?_) | skip)
                                all_goals try (exfalso; exact cnA g120)
                                all_goals (try simp only [decide_eq_true_eq, decide_eq_false_iff_not, Bool.not_eq_true, Bool.not_eq_false, Bool.and_eq_true, Bool.or_eq_true, Bool.or_eq_false_iff, Bool.not_eq_true, Bool.not_eq_eq_eq_not, Bool.not_true, Bool.not_false] at g120)
                                all_goals
                                  try simp only [NextH, Env.putO, Env.put, ↓reduceIte, Nat.reduceEqDiff, upd_upd, Int.reduceToNat]
                                  first
                                  | refine OW_guardT rfl (lt_some (by decide)) rfl (fun K hK r => ?_)
                                    simp only [x_move, ev, Env.get, Option.getD_some, ↓reduceIte, Nat.reduceEqDiff, NextH, Env.putO, Env.put, ↓reduceIte, Nat.reduceEqDiff, upd_upd, Int.reduceToNat]
                                    refine hK _ _ ?_; clear hK K
                                  | refine OW_guardF rfl (lt_some (by decide)) rfl ?_
                                    simp only [NextH, Env.putO, Env.put, ↓reduceIte, Nat.reduceEqDiff, upd_upd, Int.reduceToNat]
                                  first
                                  | refine OW_guardT rfl (lt_some (by decide)) rfl (fun K hK r => ?_)
                                    simp (disch := (first | omega | decide)) only [x_bin, g_int, b_eql, dec_lt_t, dec_lt_f, dec_le_t, dec_le_f, dec_eq_t, dec_eq_f, Bool.not_true, Bool.not_false, ev, Env.get, Option.getD_some, ↓reduceIte, Nat.reduceEqDiff, NextH, Env.putO, Env.put, ↓reduceIte, Nat.reduceEqDiff, upd_upd, Int.reduceToNat]
                                    refine hK _ _ ?_; clear hK K
                                  | refine OW_guardF rfl (lt_some (by decide)) rfl ?_
                                    simp only [NextH, Env.putO, Env.put, ↓reduceIte, Nat.reduceEqDiff, upd_upd, Int.reduceToNat]
                                  first
                                  | refine OW_guardT rfl (lt_some (by decide)) rfl (fun K hK r => ?_)
                                    simp only [x_move, ev, Env.get, Option.getD_some, ↓reduceIte, Nat.reduceEqDiff, NextH, Env.putO, Env.put, ↓reduceIte, Nat.reduceEqDiff, upd_upd, Int.reduceToNat]
                                    refine hK _ _ ?_; clear hK K
                                  | refine OW_guardF rfl (lt_some (by decide)) rfl ?_
                                    simp only [NextH, Env.putO, Env.put, ↓reduceIte, Nat.reduceEqDiff, upd_upd, Int.reduceToNat]
                                  (first | refine OW_split (d := 123) rfl (fun g123 => ?_) (fun g123 => ?_) | skip)
                                  all_goals try (exfalso; exact cnA g123)
                                  all_goals (try simp only [decide_eq_true_eq, decide_eq_false_iff_not, Bool.not_eq_true, Bool.not_eq_false, Bool.and_eq_true, Bool.or_eq_true, Bool.or_eq_false_iff, Bool.not_eq_true, Bool.not_eq_eq_eq_not, Bool.not_true, Bool.not_false] at g123)
                                  all_goals
                                    try simp only [NextH, Env.putO, Env.put, ↓reduceIte, Nat.reduceEqDiff, upd_upd, Int.reduceToNat]
                                    first
                                    | refine OW_guardT rfl (lt_some (by decide)) rfl (fun K hK r => ?_)
                                      simp only [x_move, ev, Env.get, Option.getD_some, ↓reduceIte, Nat.reduceEqDiff, NextH, Env.putO, Env.put, ↓reduceIte, Nat.reduceEqDiff, upd_upd, Int.reduceToNat]
                                      refine hK _ _ ?_; clear hK K
                                    | refine OW_guardF rfl (lt_some (by decide)) rfl ?_
                                      simp only [NextH, Env.putO, Env.put, ↓reduceIte, Nat.reduceEqDiff, upd_upd, Int.reduceToNat]
                                    first
                                    | refine OW_guardT rfl (lt_some (by decide)) rfl (fun K hK r => ?_)
                                      simp (disch := (first | omega | decide)) only [x_bin, g_int, b_lss, dec_lt_t, dec_lt_f, dec_le_t, dec_le_f, dec_eq_t, dec_eq_f, Bool.not_true, Bool.not_false, ev, Env.get, Option.getD_some, ↓reduceIte, Nat.reduceEqDiff, NextH, Env.putO, Env.put, ↓reduceIte, Nat.reduceEqDiff, upd_upd, Int.reduceToNat]
                                      refine hK _ _ ?_; clear hK K
                                    | refine OW_guardF rfl (lt_some (by decide)) rfl ?_
                                      simp only [NextH, Env.putO, Env.put, ↓reduceIte, Nat.reduceEqDiff, upd_upd, Int.reduceToNat]
                                    first
                                    | refine OW_guardT rfl (lt_some (by decide)) rfl (fun K hK r => ?_)
                                      simp only [x_move, ev, Env.get, Option.getD_some, ↓reduceIte, Nat.reduceEqDiff, NextH, Env.putO, Env.put, ↓reduceIte, Nat.reduceEqDiff, upd_upd, Int.reduceToNat]
                                      refine hK _ _ ?_; clear hK K
                                    | refine OW_guardF rfl (lt_some (by decide)) rfl ?_
                                      simp only [NextH, Env.putO, Env.put, ↓reduceIte, Nat.reduceEqDiff, upd_upd, Int.reduceToNat]
                                    first
                                    | refine OW_guardT rfl (lt_some (by decide)) rfl (fun K hK r => ?_)
                                      simp (disch := (first | omega | decide)) only [x_bin, g_int, b_lss, dec_lt_t, dec_lt_f, dec_le_t, dec_le_f, dec_eq_t, dec_eq_f, Bool.not_true, Bool.not_false, ev, Env.get, Option.getD_some, ↓reduceIte, Nat.reduceEqDiff, NextH, Env.putO, Env.put, ↓reduceIte, Nat.reduceEqDiff, upd_upd, Int.reduceToNat]
                                      refine hK _ _ ?_; clear hK K
                                    | refine OW_guardF rfl (lt_some (by decide)) rfl ?_
                                      simp only [NextH, Env.putO, Env.put, ↓reduceIte, Nat.reduceEqDiff, upd_upd, Int.reduceToNat]
                                    first
                                    | refine OW_guardT rfl (lt_some (by decide)) rfl (fun K hK r => ?_)
                                      simp only [x_bin, g_int, g_bool, g_string, g_pointer, g_slice, g_map, g_func, g_nilFunc, g_iface, g_nil_iface, g_nil_r, g_nil_l, ev, Env.get, Option.getD_some, ↓reduceIte, Nat.reduceEqDiff, NextH, Env.putO, Env.put, ↓reduceIte, Nat.reduceEqDiff, upd_upd, Int.reduceToNat]
                                      rw [e_eql _ _ _ _ (by simp)]
                                      rw [q_equal, q_bool _ _ Try.underlying4]
                                      try simp only [ev, Env.get, Option.getD_some, ↓reduceIte, Nat.reduceEqDiff, NextH, Env.putO, Env.put, ↓reduceIte, Nat.reduceEqDiff, upd_upd, Int.reduceToNat]
                                      refine hK _ _ ?_; clear hK K
                                    | refine OW_guardF rfl (lt_some (by decide)) rfl ?_
                                      simp only [NextH, Env.putO, Env.put, ↓reduceIte, Nat.reduceEqDiff, upd_upd, Int.reduceToNat]
                                    first
                                    | refine OW_guardT rfl (lt_some (by decide)) rfl (fun K hK r => ?_)
                                      simp only [x_pick, l_asBool, HL.ite_bool, if_true, if_false, Bool.false_eq_true, ev, Env.get, Option.getD_some, ↓reduceIte, Nat.reduceEqDiff, NextH, Env.putO, Env.put, ↓reduceIte, Nat.reduceEqDiff, upd_upd, Int.reduceToNat]
                                      refine hK _ _ ?_; clear hK K
                                    | refine OW_guardF rfl (lt_some (by decide)) rfl ?_
                                      simp only [NextH, Env.putO, Env.put, ↓reduceIte, Nat.reduceEqDiff, upd_upd, Int.reduceToNat]
                                    refine OW_op rfl (lt_some (by decide)) (fun K hK r => ?_)
                                    simp only [x_pick, l_asBool, HL.ite_bool, if_true, if_false, Bool.false_eq_true, ev, Env.get, Option.getD_some, ↓reduceIte, Nat.reduceEqDiff, NextH, Env.putO, Env.put, ↓reduceIte, Nat.reduceEqDiff, upd_upd, Int.reduceToNat]
                                    refine hK _ _ ?_; clear hK K
                                    refine OW_op rfl (lt_some (by decide)) (fun K hK r => ?_)
                                    simp only [x_assign, ev, Env.get, Option.getD_some, ↓reduceIte, Nat.reduceEqDiff, NextH, Env.putO, Env.put, ↓reduceIte, Nat.reduceEqDiff, upd_upd, Int.reduceToNat]
                                    refine hK _ _ ?_; clear hK K
                                    refine OW_nil ?_
                                    try simp only [Ex.thnH, Ex.inBlockH, ↓reduceIte, Nat.reduceEqDiff]
                                    refine hK46 _ _ ?_; try clear hK46 K46
                                    refine CW_ret ?_
                                    try simp only [Ex.thnH, Ex.inBlockH, ↓reduceIte, Nat.reduceEqDiff]
                                    refine ⟨[_], ⟨rfl, trivial⟩, _, Le.refl _, ?_, lhA⟩
                                    show Value.bool _ = _
                                    refine congrArg Value.bool ?_
                                    clear c76
                                    first | rfl | (simp_all; done) | (rcases hsg with h | h <;> simp_all; done)
            · first
              | (exfalso; exact cnA c55; done)
              | skip
                (try simp only [decide_eq_true_eq, decide_eq_false_iff_not, Bool.not_eq_true, Bool.not_eq_false, Bool.and_eq_true, Bool.or_eq_true, Bool.or_eq_false_iff, Bool.not_eq_true, Bool.not_eq_eq_eq_not, Bool.not_true, Bool.not_false] at c55)
                refine CW_skip ?_
                try simp only [Ex.thnH, Ex.inBlockH, ↓reduceIte, Nat.reduceEqDiff]
                refine hK33 _ _ ?_; try clear hK33 K33
                refine CW_seq (fun K47 hK47 => ?_)
                refine CW_region ?_
                refine OW_op rfl (lt_some (by decide)) (fun K hK r => ?_)
                simp only [x_move, ev, Env.get, Option.getD_some, ↓reduceIte, Nat.reduceEqDiff, NextH, Env.putO, Env.put, ↓reduceIte, Nat.reduceEqDiff, upd_upd, Int.reduceToNat]
                refine hK _ _ ?_; clear hK K
                refine OW_op rfl (lt_some (by decide)) (fun K hK r => ?_)
                simp only [x_move, ev, Env.get, Option.getD_some, ↓reduceIte, Nat.reduceEqDiff, NextH, Env.putO, Env.put, ↓reduceIte, Nat.reduceEqDiff, upd_upd, Int.reduceToNat]
                refine hK _ _ ?_; clear hK K
                refine OW_op rfl (lt_some (by decide)) (fun K hK r => ?_)
                simp only [x_callF _ bd24, List.map_toArray, List.map_cons, List.map_nil, ev, Env.get, Option.getD_some, ↓reduceIte, Nat.reduceEqDiff, NextH, Env.putO, Env.put, ↓reduceIte, Nat.reduceEqDiff, upd_upd, Int.reduceToNat]
                refine (Div_all _ a b a1 a2 b1 b2).mono ?_
                rintro v H' ⟨rfl, rfl⟩
                try simp only [ev, Env.get, Option.getD_some, ↓reduceIte, Nat.reduceEqDiff, NextH, Env.putO, Env.put, ↓reduceIte, Nat.reduceEqDiff, upd_upd, Int.reduceToNat]
                refine hK _ _ ?_; clear hK K
                refine OW_op rfl (lt_some (by decide)) (fun K hK r => ?_)
                simp only [x_move, ev, Env.get, Option.getD_some, ↓reduceIte, Nat.reduceEqDiff, NextH, Env.putO, Env.put, ↓reduceIte, Nat.reduceEqDiff, upd_upd, Int.reduceToNat]
                refine hK _ _ ?_; clear hK K
                refine OW_op rfl (lt_some (by decide)) (fun K hK r => ?_)
                simp only [x_extract, i_extract, List.getElem?_toArray, List.getElem?_cons_zero, List.getElem?_cons_succ, orF_some, ev, Env.get, Option.getD_some, ↓reduceIte, Nat.reduceEqDiff, NextH, Env.putO, Env.put, ↓reduceIte, Nat.reduceEqDiff, upd_upd, Int.reduceToNat]
                refine hK _ _ ?_; clear hK K
                refine OW_op rfl (lt_some (by decide)) (fun K hK r => ?_)
                simp only [x_extract, i_extract, List.getElem?_toArray, List.getElem?_cons_zero, List.getElem?_cons_succ, orF_some, ev, Env.get, Option.getD_some, ↓reduceIte, Nat.reduceEqDiff, NextH, Env.putO, Env.put, ↓reduceIte, Nat.reduceEqDiff, upd_upd, Int.reduceToNat]
                refine hK _ _ ?_; clear hK K
                refine OW_op rfl (lt_some (by decide)) (fun K hK r => ?_)
                simp only [x_assign, ev, Env.get, Option.getD_some, ↓reduceIte, Nat.reduceEqDiff, NextH, Env.putO, Env.put, ↓reduceIte, Nat.reduceEqDiff, upd_upd, Int.reduceToNat]
                refine hK _ _ ?_; clear hK K
                refine OW_op rfl (lt_some (by decide)) (fun K hK r => ?_)
                simp only [x_assign, ev, Env.get, Option.getD_some, ↓reduceIte, Nat.reduceEqDiff, NextH, Env.putO, Env.put, ↓reduceIte, Nat.reduceEqDiff, upd_upd, Int.reduceToNat]
                refine hK _ _ ?_; clear hK K
                refine OW_nil ?_
                try simp only [Ex.thnH, Ex.inBlockH, ↓reduceIte, Nat.reduceEqDiff]
                refine hK47 _ _ ?_; try clear hK47 K47
                refine CW_seq (fun K48 hK48 => ?_)
                refine CW_seq (fun K49 hK49 => ?_)
                refine CW_region ?_
                refine OW_op rfl (lt_some (by decide)) (fun K hK r => ?_)
                simp only [x_move, ev, Env.get, Option.getD_some, ↓reduceIte, Nat.reduceEqDiff, NextH, Env.putO, Env.put, ↓reduceIte, Nat.reduceEqDiff, upd_upd, Int.reduceToNat]
                refine hK _ _ ?_; clear hK K
                refine OW_op rfl (lt_some (by decide)) (fun K hK r => ?_)
                simp only [x_bin, g_int, g_bool, g_string, g_pointer, g_slice, g_map, g_func, g_nilFunc, g_err, g_iface, g_nil_iface, g_nil_r, g_nil_l, ev, Env.get, Option.getD_some, ↓reduceIte, Nat.reduceEqDiff, NextH, Env.putO, Env.put, ↓reduceIte, Nat.reduceEqDiff, upd_upd, Int.reduceToNat]
                first | rw [b_err_neq _ _ Try.underlying29] | (rw [e_neq _ _ _ _ (by simp), q_equal]; first | rw [q_iface_nil _ _ _ Try.underlying29] | rw [q_nil_iface _ _ _ Try.underlying29] | rw [q_nil_nil _ _ _ Try.underlying29])
                rw [dvE_isSome]
                try simp only [ev, Env.get, Option.getD_some, ↓reduceIte, Nat.reduceEqDiff, NextH, Env.putO, Env.put, ↓reduceIte, Nat.reduceEqDiff, upd_upd, Int.reduceToNat]
                refine hK _ _ ?_; clear hK K
                refine OW_nil ?_
                try simp only [Ex.thnH, Ex.inBlockH, ↓reduceIte, Nat.reduceEqDiff]
                refine hK49 _ _ ?_; try clear hK49 K49
                refine CW_cond (fun r => rfl) (fun c76 => ?_) (fun c76 => ?_)
                · first
                  | (exfalso; exact cnA c76; done)
                  | skip
                    have hbad := dv_bad a1 a2 (of_decide_eq_true c76)
                    refine CW_seq (fun K50 hK50 => ?_)
                    refine CW_region ?_
                    refine OW_op rfl (lt_some (by decide)) (fun K hK r => ?_)
                    simp only [x_move, ev, Env.get, Option.getD_some, ↓reduceIte, Nat.reduceEqDiff, NextH, Env.putO, Env.put, ↓reduceIte, Nat.reduceEqDiff, upd_upd, Int.reduceToNat]
                    refine hK _ _ ?_; clear hK K
                    refine OW_op rfl (lt_some (by decide)) (fun K hK r => ?_)
                    simp (disch := (first | omega | decide)) only [x_bin, g_int, b_eql, dec_lt_t, dec_lt_f, dec_le_t, dec_le_f, dec_eq_t, dec_eq_f, Bool.not_true, Bool.not_false, ev, Env.get, Option.getD_some, ↓reduceIte, Nat.reduceEqDiff, NextH, Env.putO, Env.put, ↓reduceIte, Nat.reduceEqDiff, upd_upd, Int.reduceToNat]
                    refine hK _ _ ?_; clear hK K
                    refine OW_op rfl (lt_some (by decide)) (fun K hK r => ?_)
                    simp only [x_move, ev, Env.get, Option.getD_some, ↓reduceIte, Nat.reduceEqDiff, NextH, Env.putO, Env.put, ↓reduceIte, Nat.reduceEqDiff, upd_upd, Int.reduceToNat]
                    refine hK _ _ ?_; clear hK K
                    (first | refine OW_split (d := 79) rfl (fun g79 => ?_) (fun g79 => ?_) | skip)
                    all_goals try (exfalso; exact cnA g79)
                    all_goals (try simp only [decide_eq_true_eq, decide_eq_false_iff_not, Bool.not_eq_true, Bool.not_eq_false, Bool.and_eq_true, Bool.or_eq_true, Bool.or_eq_false_iff, Bool.not_eq_true, Bool.not_eq_eq_eq_not, Bool.not_true, Bool.not_false] at g79)
                    all_goals
                      try simp only [NextH, Env.putO, Env.put, ↓reduceIte, Nat.reduceEqDiff, upd_upd, Int.reduceToNat]
                      first
                      | refine OW_guardT rfl (lt_some (by decide)) rfl (fun K hK r => ?_)
                        simp only [x_move, ev, Env.get, Option.getD_some, ↓reduceIte, Nat.reduceEqDiff, NextH, Env.putO, Env.put, ↓reduceIte, Nat.reduceEqDiff, upd_upd, Int.reduceToNat]
                        refine hK _ _ ?_; clear hK K
                      | refine OW_guardF rfl (lt_some (by decide)) rfl ?_
                        simp only [NextH, Env.putO, Env.put, ↓reduceIte, Nat.reduceEqDiff, upd_upd, Int.reduceToNat]
                      first
                      | refine OW_guardT rfl (lt_some (by decide)) rfl (fun K hK r => ?_)
                        simp (disch := (first | omega | decide)) only [x_bin, g_int, b_eql, dec_lt_t, dec_lt_f, dec_le_t, dec_le_f, dec_eq_t, dec_eq_f, Bool.not_true, Bool.not_false, ev, Env.get, Option.getD_some, ↓reduceIte, Nat.reduceEqDiff, NextH, Env.putO, Env.put, ↓reduceIte, Nat.reduceEqDiff, upd_upd, Int.reduceToNat]
                        refine hK _ _ ?_; clear hK K
                      | refine OW_guardF rfl (lt_some (by decide)) rfl ?_
                        simp only [NextH, Env.putO, Env.put, ↓reduceIte, Nat.reduceEqDiff, upd_upd, Int.reduceToNat]
                      first
                      | refine OW_guardT rfl (lt_some (by decide)) rfl (fun K hK r => ?_)
                        simp only [x_move, ev, Env.get, Option.getD_some, ↓reduceIte, Nat.reduceEqDiff, NextH, Env.putO, Env.put, ↓reduceIte, Nat.reduceEqDiff, upd_upd, Int.reduceToNat]
                        refine hK _ _ ?_; clear hK K
                      | refine OW_guardF rfl (lt_some (by decide)) rfl ?_
                        simp only [NextH, Env.putO, Env.put, ↓reduceIte, Nat.reduceEqDiff, upd_upd, Int.reduceToNat]
                      (first | refine OW_split (d := 82) rfl (fun g82 => ?_) (fun g82 => ?_) | skip)
                      all_goals try (exfalso; exact cnA g82)
                      all_goals (try simp only [decide_eq_true_eq, decide_eq_false_iff_not, Bool.not_eq_true, Bool.not_eq_false, Bool.and_eq_true, Bool.or_eq_true, Bool.or_eq_false_iff, Bool.not_eq_true, Bool.not_eq_eq_eq_not, Bool.not_true, Bool.not_false] at g82)
                      all_goals
                        try simp only [NextH, Env.putO, Env.put, ↓reduceIte, Nat.reduceEqDiff, upd_upd, Int.reduceToNat]
                        first
                        | refine OW_guardT rfl (lt_some (by decide)) rfl (fun K hK r => ?_)
                          simp only [x_move, ev, Env.get, Option.getD_some, ↓reduceIte, Nat.reduceEqDiff, NextH, Env.putO, Env.put, ↓reduceIte, Nat.reduceEqDiff, upd_upd, Int.reduceToNat]
                          refine hK _ _ ?_; clear hK K
                        | refine OW_guardF rfl (lt_some (by decide)) rfl ?_
                          simp only [NextH, Env.putO, Env.put, ↓reduceIte, Nat.reduceEqDiff, upd_upd, Int.reduceToNat]
                        first
                        | refine OW_guardT rfl (lt_some (by decide)) rfl (fun K hK r => ?_)
                          simp (disch := (first | omega | decide)) only [x_bin, g_int, b_eql, dec_lt_t, dec_lt_f, dec_le_t, dec_le_f, dec_eq_t, dec_eq_f, Bool.not_true, Bool.not_false, ev, Env.get, Option.getD_some, ↓reduceIte, Nat.reduceEqDiff, NextH, Env.putO, Env.put, ↓reduceIte, Nat.reduceEqDiff, upd_upd, Int.reduceToNat]
                          refine hK _ _ ?_; clear hK K
                        | refine OW_guardF rfl (lt_some (by decide)) rfl ?_
                          simp only [NextH, Env.putO, Env.put, ↓reduceIte, Nat.reduceEqDiff, upd_upd, Int.reduceToNat]
                        first
                        | refine OW_guardT rfl (lt_some (by decide)) rfl (fun K hK r => ?_)
                          simp only [x_pick, l_asBool, HL.ite_bool, if_true, if_false, Bool.false_eq_true, ev, Env.get, Option.getD_some, ↓reduceIte, Nat.reduceEqDiff, NextH, Env.putO, Env.put, ↓reduceIte, Nat.reduceEqDiff, upd_upd, Int.reduceToNat]
                          refine hK _ _ ?_; clear hK K
                        | refine OW_guardF rfl (lt_some (by decide)) rfl ?_
                          simp only [NextH, Env.putO, Env.put, ↓reduceIte, Nat.reduceEqDiff, upd_upd, Int.reduceToNat]
                        refine OW_op rfl (lt_some (by decide)) (fun K hK r => ?_)
                        simp only [x_pick, l_asBool, HL.ite_bool, if_true, if_false, Bool.false_eq_true, ev, Env.get, Option.getD_some, ↓reduceIte, Nat.reduceEqDiff, NextH, Env.putO, Env.put, ↓reduceIte, Nat.reduceEqDiff, upd_upd, Int.reduceToNat]
                        refine hK _ _ ?_; clear hK K
                        refine OW_op rfl (lt_some (by decide)) (fun K hK r => ?_)
                        simp only [x_assign, ev, Env.get, Option.getD_some, ↓reduceIte, Nat.reduceEqDiff, NextH, Env.putO, Env.put, ↓reduceIte, Nat.reduceEqDiff, upd_upd, Int.reduceToNat]
                        refine hK _ _ ?_; clear hK K
                        refine OW_nil ?_
                        try simp only [Ex.thnH, Ex.inBlockH, ↓reduceIte, Nat.reduceEqDiff]
                        refine hK50 _ _ ?_; try clear hK50 K50
                        refine CW_ret ?_
                        try simp only [Ex.thnH, Ex.inBlockH, ↓reduceIte, Nat.reduceEqDiff]
                        refine ⟨[_], ⟨rfl, trivial⟩, _, Le.refl _, ?_, lhA⟩
                        show Value.bool _ = _
                        refine congrArg Value.bool ?_
                        clear c76
                        first | rfl | (simp_all; done) | (rcases hsg with h | h <;> simp_all; done)
                · first
                  | (exfalso; exact cnA c76; done)
                  | skip
                    (try simp only [decide_eq_true_eq, decide_eq_false_iff_not, Bool.not_eq_true, Bool.not_eq_false, Bool.and_eq_true, Bool.or_eq_true, Bool.or_eq_false_iff, Bool.not_eq_true, Bool.not_eq_eq_eq_not, Bool.not_true, Bool.not_false] at c76)
                    have hfd : b ≠ 0 ∧ fitsI (a.tdiv b) := by first | assumption | (simp only [Classical.not_not] at c76; exact c76) | (apply Classical.byContradiction; intro hc; exact c76 hc)
                    refine CW_skip ?_
                    try simp only [Ex.thnH, Ex.inBlockH, ↓reduceIte, Nat.reduceEqDiff]
                    refine hK48 _ _ ?_; try clear hK48 K48
                    refine CW_seq (fun K51 hK51 => ?_)
                    refine CW_region ?_
                    refine OW_op rfl (lt_some (by decide)) (fun K hK r => ?_)
                    simp only [x_move, ev, Env.get, Option.getD_some, ↓reduceIte, Nat.reduceEqDiff, NextH, Env.putO, Env.put, ↓reduceIte, Nat.reduceEqDiff, upd_upd, Int.reduceToNat]
                    refine hK _ _ ?_; clear hK K
                    refine OW_op rfl (lt_some (by decide)) (fun K hK r => ?_)
                    simp only [x_move, ev, Env.get, Option.getD_some, ↓reduceIte, Nat.reduceEqDiff, NextH, Env.putO, Env.put, ↓reduceIte, Nat.reduceEqDiff, upd_upd, Int.reduceToNat]
                    refine hK _ _ ?_; clear hK K
                    refine OW_op rfl (lt_some (by decide)) (fun K hK r => ?_)
                    simp only [x_callF _ bd25, List.map_toArray, List.map_cons, List.map_nil, ev, Env.get, Option.getD_some, ↓reduceIte, Nat.reduceEqDiff, NextH, Env.putO, Env.put, ↓reduceIte, Nat.reduceEqDiff, upd_upd, Int.reduceToNat]
                    refine (Mod_ok _ a b a1 a2 b1 b2 hfd.1).mono ?_
                    rintro v H' ⟨rfl, rfl⟩
                    try simp only [ev, Env.get, Option.getD_some, ↓reduceIte, Nat.reduceEqDiff, NextH, Env.putO, Env.put, ↓reduceIte, Nat.reduceEqDiff, upd_upd, Int.reduceToNat]
                    refine hK _ _ ?_; clear hK K
                    refine OW_op rfl (lt_some (by decide)) (fun K hK r => ?_)
                    simp only [x_move, ev, Env.get, Option.getD_some, ↓reduceIte, Nat.reduceEqDiff, NextH, Env.putO, Env.put, ↓reduceIte, Nat.reduceEqDiff, upd_upd, Int.reduceToNat]
                    refine hK _ _ ?_; clear hK K
                    refine OW_op rfl (lt_some (by decide)) (fun K hK r => ?_)
                    simp only [x_extract, i_extract, List.getElem?_toArray, List.getElem?_cons_zero, List.getElem?_cons_succ, orF_some, ev, Env.get, Option.getD_some, ↓reduceIte, Nat.reduceEqDiff, NextH, Env.putO, Env.put, ↓reduceIte, Nat.reduceEqDiff, upd_upd, Int.reduceToNat]
                    refine hK _ _ ?_; clear hK K
                    refine OW_op rfl (lt_some (by decide)) (fun K hK r => ?_)
                    simp only [x_extract, i_extract, List.getElem?_toArray, List.getElem?_cons_zero, List.getElem?_cons_succ, orF_some, ev, Env.get, Option.getD_some, ↓reduceIte, Nat.reduceEqDiff, NextH, Env.putO, Env.put, ↓reduceIte, Nat.reduceEqDiff, upd_upd, Int.reduceToNat]
                    refine hK _ _ ?_; clear hK K
                    refine OW_op rfl (lt_some (by decide)) (fun K hK r => ?_)
                    simp only [x_assign, ev, Env.get, Option.getD_some, ↓reduceIte, Nat.reduceEqDiff, NextH, Env.putO, Env.put, ↓reduceIte, Nat.reduceEqDiff, upd_upd, Int.reduceToNat]
                    refine hK _ _ ?_; clear hK K
                    refine OW_op rfl (lt_some (by decide)) (fun K hK r => ?_)
                    simp only [x_assign, ev, Env.get, Option.getD_some, ↓reduceIte, Nat.reduceEqDiff, NextH, Env.putO, Env.put, ↓reduceIte, Nat.reduceEqDiff, upd_upd, Int.reduceToNat]
                    refine hK _ _ ?_; clear hK K
                    refine OW_nil ?_
                    try simp only [Ex.thnH, Ex.inBlockH, ↓reduceIte, Nat.reduceEqDiff]
                    refine hK51 _ _ ?_; try clear hK51 K51
                    refine CW_seq (fun K52 hK52 => ?_)
                    refine CW_region ?_
                    refine OW_op rfl (lt_some (by decide)) (fun K hK r => ?_)
                    simp only [x_move, ev, Env.get, Option.getD_some, ↓reduceIte, Nat.reduceEqDiff, NextH, Env.putO, Env.put, ↓reduceIte, Nat.reduceEqDiff, upd_upd, Int.reduceToNat]
                    refine hK _ _ ?_; clear hK K
                    refine OW_op rfl (lt_some (by decide)) (fun K hK r => ?_)
                    simp only [x_move, ev, Env.get, Option.getD_some, ↓reduceIte, Nat.reduceEqDiff, NextH, Env.putO, Env.put, ↓reduceIte, Nat.reduceEqDiff, upd_upd, Int.reduceToNat]
                    refine hK _ _ ?_; clear hK K
                    refine OW_op rfl (lt_some (by decide)) (fun K hK r => ?_)
                    simp only [x_callF _ bd22, List.map_toArray, List.map_cons, List.map_nil, ev, Env.get, Option.getD_some, ↓reduceIte, Nat.reduceEqDiff, NextH, Env.putO, Env.put, ↓reduceIte, Nat.reduceEqDiff, upd_upd, Int.reduceToNat]
                    have hdi : dvI a b = a.tdiv b := by unfold dvI; rw [if_neg hfd.1, okI_fits hfd.2]
                    rw [hdi]
                    have hdm := div_mul_fits (b := b) a1 a2
                    refine (Mul_ok _ (a.tdiv b) b hfd.2.1 hfd.2.2 b1 b2).mono ?_
                    rintro v H' ⟨rfl, rfl⟩
                    rw [okI_fits hdm, okE_fits hdm]
                    try simp only [ev, Env.get, Option.getD_some, ↓reduceIte, Nat.reduceEqDiff, NextH, Env.putO, Env.put, ↓reduceIte, Nat.reduceEqDiff, upd_upd, Int.reduceToNat]
                    refine hK _ _ ?_; clear hK K
                    refine OW_op rfl (lt_some (by decide)) (fun K hK r => ?_)
                    simp only [x_move, ev, Env.get, Option.getD_some, ↓reduceIte, Nat.reduceEqDiff, NextH, Env.putO, Env.put, ↓reduceIte, Nat.reduceEqDiff, upd_upd, Int.reduceToNat]
                    refine hK _ _ ?_; clear hK K
                    refine OW_op rfl (lt_some (by decide)) (fun K hK r => ?_)
                    simp only [x_extract, i_extract, List.getElem?_toArray, List.getElem?_cons_zero, List.getElem?_cons_succ, orF_some, ev, Env.get, Option.getD_some, ↓reduceIte, Nat.reduceEqDiff, NextH, Env.putO, Env.put, ↓reduceIte, Nat.reduceEqDiff, upd_upd, Int.reduceToNat]
                    refine hK _ _ ?_; clear hK K
                    refine OW_op rfl (lt_some (by decide)) (fun K hK r => ?_)
                    simp only [x_extract, i_extract, List.getElem?_toArray, List.getElem?_cons_zero, List.getElem?_cons_succ, orF_some, ev, Env.get, Option.getD_some, ↓reduceIte, Nat.reduceEqDiff, NextH, Env.putO, Env.put, ↓reduceIte, Nat.reduceEqDiff, upd_upd, Int.reduceToNat]
                    refine hK _ _ ?_; clear hK K
                    refine OW_op rfl (lt_some (by decide)) (fun K hK r => ?_)
                    simp only [x_assign, ev, Env.get, Option.getD_some, ↓reduceIte, Nat.reduceEqDiff, NextH, Env.putO, Env.put, ↓reduceIte, Nat.reduceEqDiff, upd_upd, Int.reduceToNat]
                    refine hK _ _ ?_; clear hK K
                    refine OW_op rfl (lt_some (by decide)) (fun K hK r => ?_)
                    simp only [x_assign, ev, Env.get, Option.getD_some, ↓reduceIte, Nat.reduceEqDiff, NextH, Env.putO, Env.put, ↓reduceIte, Nat.reduceEqDiff, upd_upd, Int.reduceToNat]
                    refine hK _ _ ?_; clear hK K
                    refine OW_nil ?_
                    try simp only [Ex.thnH, Ex.inBlockH, ↓reduceIte, Nat.reduceEqDiff]
                    refine hK52 _ _ ?_; try clear hK52 K52
                    refine CW_seq (fun K53 hK53 => ?_)
                    refine CW_region ?_
                    refine OW_op rfl (lt_some (by decide)) (fun K hK r => ?_)
                    simp only [x_move, ev, Env.get, Option.getD_some, ↓reduceIte, Nat.reduceEqDiff, NextH, Env.putO, Env.put, ↓reduceIte, Nat.reduceEqDiff, upd_upd, Int.reduceToNat]
                    refine hK _ _ ?_; clear hK K
                    refine OW_op rfl (lt_some (by decide)) (fun K hK r => ?_)
                    simp only [x_move, ev, Env.get, Option.getD_some, ↓reduceIte, Nat.reduceEqDiff, NextH, Env.putO, Env.put, ↓reduceIte, Nat.reduceEqDiff, upd_upd, Int.reduceToNat]
                    refine hK _ _ ?_; clear hK K
                    refine OW_op rfl (lt_some (by decide)) (fun K hK r => ?_)
                    simp only [x_callF _ bd20, List.map_toArray, List.map_cons, List.map_nil, ev, Env.get, Option.getD_some, ↓reduceIte, Nat.reduceEqDiff, NextH, Env.putO, Env.put, ↓reduceIte, Nat.reduceEqDiff, upd_upd, Int.reduceToNat]
                    have hmf := tmod_fits (b := b) a1 a2
                    refine (Add_ok _ (a.tdiv b * b) (a.tmod b) hdm.1 hdm.2 hmf.1 hmf.2).mono ?_
                    rintro v H' ⟨rfl, rfl⟩
                    rw [div_mul, okI_fits ⟨a1, a2⟩, okE_fits ⟨a1, a2⟩]
                    have hsg := tmod_sign a b
                    try simp only [ev, Env.get, Option.getD_some, ↓reduceIte, Nat.reduceEqDiff, NextH, Env.putO, Env.put, ↓reduceIte, Nat.reduceEqDiff, upd_upd, Int.reduceToNat]
                    refine hK _ _ ?_; clear hK K
                    refine OW_op rfl (lt_some (by decide)) (fun K hK r => ?_)
                    simp only [x_move, ev, Env.get, Option.getD_some, ↓reduceIte, Nat.reduceEqDiff, NextH, Env.putO, Env.put, ↓reduceIte, Nat.reduceEqDiff, upd_upd, Int.reduceToNat]
                    refine hK _ _ ?_; clear hK K
                    refine OW_op rfl (lt_some (by decide)) (fun K hK r => ?_)
                    simp only [x_extract, i_extract, List.getElem?_toArray, List.getElem?_cons_zero, List.getElem?_cons_succ, orF_some, ev, Env.get, Option.getD_some, ↓reduceIte, Nat.reduceEqDiff, NextH, Env.putO, Env.put, ↓reduceIte, Nat.reduceEqDiff, upd_upd, Int.reduceToNat]
                    refine hK _ _ ?_; clear hK K
                    refine OW_op rfl (lt_some (by decide)) (fun K hK r => ?_)
                    simp only [x_extract, i_extract, List.getElem?_toArray, List.getElem?_cons_zero, List.getElem?_cons_succ, orF_some, ev, Env.get, Option.getD_some, ↓reduceIte, Nat.reduceEqDiff, NextH, Env.putO, Env.put, ↓reduceIte, Nat.reduceEqDiff, upd_upd, Int.reduceToNat]
                    refine hK _ _ ?_; clear hK K
                    refine OW_op rfl (lt_some (by decide)) (fun K hK r => ?_)
                    simp only [x_assign, ev, Env.get, Option.getD_some, ↓reduceIte, Nat.reduceEqDiff, NextH, Env.putO, Env.put, ↓reduceIte, Nat.reduceEqDiff, upd_upd, Int.reduceToNat]
                    refine hK _ _ ?_; clear hK K
                    refine OW_op rfl (lt_some (by decide)) (fun K hK r => ?_)
                    simp only [x_assign, ev, Env.get, Option.getD_some, ↓reduceIte, Nat.reduceEqDiff, NextH, Env.putO, Env.put, ↓reduceIte, Nat.reduceEqDiff, upd_upd, Int.reduceToNat]
                    refine hK _ _ ?_; clear hK K
                    refine OW_nil ?_
                    try simp only [Ex.thnH, Ex.inBlockH, ↓reduceIte, Nat.reduceEqDiff]
                    refine hK53 _ _ ?_; try clear hK53 K53
                    refine CW_seq (fun K54 hK54 => ?_)
                    refine CW_region ?_
                    refine OW_op rfl (lt_some (by decide)) (fun K hK r => ?_)
                    simp only [x_move, ev, Env.get, Option.getD_some, ↓reduceIte, Nat.reduceEqDiff, NextH, Env.putO, Env.put, ↓reduceIte, Nat.reduceEqDiff, upd_upd, Int.reduceToNat]
                    refine hK _ _ ?_; clear hK K
                    refine OW_op rfl (lt_some (by decide)) (fun K hK r => ?_)
                    simp only [x_bin, g_int, g_bool, g_string, g_pointer, g_slice, g_map, g_func, g_nilFunc, g_err, g_iface, g_nil_iface, g_nil_r, g_nil_l, ev, Env.get, Option.getD_some, ↓reduceIte, Nat.reduceEqDiff, NextH, Env.putO, Env.put, ↓reduceIte, Nat.reduceEqDiff, upd_upd, Int.reduceToNat]
                    first | rw [b_err_eql _ _ Try.underlying29] | (rw [e_eql _ _ _ _ (by simp), q_equal]; first | rw [q_iface_nil _ _ _ Try.underlying29] | rw [q_nil_iface _ _ _ Try.underlying29] | rw [q_nil_nil _ _ _ Try.underlying29])
                    try simp only [ev, Env.get, Option.getD_some, ↓reduceIte, Nat.reduceEqDiff, NextH, Env.putO, Env.put, ↓reduceIte, Nat.reduceEqDiff, upd_upd, Int.reduceToNat]
                    refine hK _ _ ?_; clear hK K
                    refine OW_op rfl (lt_some (by decide)) (fun K hK r => ?_)
                    simp only [x_move, ev, Env.get, Option.getD_some, ↓reduceIte, Nat.reduceEqDiff, NextH, Env.putO, Env.put, ↓reduceIte, Nat.reduceEqDiff, upd_upd, Int.reduceToNat]
                    refine hK _ _ ?_; clear hK K
                    (first | refine OW_split (d := 107) rfl (fun g107 => ?_) (fun g107 => ?_) | skip)
                    all_goals try (exfalso; exact cnA g107)
                    all_goals (try simp only [decide_eq_true_eq, decide_eq_false_iff_not, Bool.not_eq_true, Bool.not_eq_false, Bool.and_eq_true, Bool.or_eq_true, Bool.or_eq_false_iff, Bool.not_eq_true, Bool.not_eq_eq_eq_not, Bool.not_true, Bool.not_false] at g107)
                    all_goals
                      try simp only [NextH, Env.putO, Env.put, ↓reduceIte, Nat.reduceEqDiff, upd_upd, Int.reduceToNat]
                      first
                      | refine OW_guardT rfl (lt_some (by decide)) rfl (fun K hK r => ?_)
                        simp only [x_move, ev, Env.get, Option.getD_some, ↓reduceIte, Nat.reduceEqDiff, NextH, Env.putO, Env.put, ↓reduceIte, Nat.reduceEqDiff, upd_upd, Int.reduceToNat]
                        refine hK _ _ ?_; clear hK K
                      | refine OW_guardF rfl (lt_some (by decide)) rfl ?_
                        simp only [NextH, Env.putO, Env.put, ↓reduceIte, Nat.reduceEqDiff, upd_upd, Int.reduceToNat]
                      first
                      | refine OW_guardT rfl (lt_some (by decide)) rfl (fun K hK r => ?_)
                        simp only [x_bin, g_int, g_bool, g_string, g_pointer, g_slice, g_map, g_func, g_nilFunc, g_err, g_iface, g_nil_iface, g_nil_r, g_nil_l, ev, Env.get, Option.getD_some, ↓reduceIte, Nat.reduceEqDiff, NextH, Env.putO, Env.put, ↓reduceIte, Nat.reduceEqDiff, upd_upd, Int.reduceToNat]
                        first | rw [b_err_eql _ _ Try.underlying29] | (rw [e_eql _ _ _ _ (by simp), q_equal]; first | rw [q_iface_nil _ _ _ Try.underlying29] | rw [q_nil_iface _ _ _ Try.underlying29] | rw [q_nil_nil _ _ _ Try.underlying29])
                        try simp only [ev, Env.get, Option.getD_some, ↓reduceIte, Nat.reduceEqDiff, NextH, Env.putO, Env.put, ↓reduceIte, Nat.reduceEqDiff, upd_upd, Int.reduceToNat]
                        refine hK _ _ ?_; clear hK K
                      | refine OW_guardF rfl (lt_some (by decide)) rfl ?_
                        simp only [NextH, Env.putO, Env.put, ↓reduceIte, Nat.reduceEqDiff, upd_upd, Int.reduceToNat]
                      refine OW_op rfl (lt_some (by decide)) (fun K hK r => ?_)
                      simp only [x_pick, l_asBool, HL.ite_bool, if_true, if_false, Bool.false_eq_true, ev, Env.get, Option.getD_some, ↓reduceIte, Nat.reduceEqDiff, NextH, Env.putO, Env.put, ↓reduceIte, Nat.reduceEqDiff, upd_upd, Int.reduceToNat]
                      refine hK _ _ ?_; clear hK K
                      refine OW_op rfl (lt_some (by decide)) (fun K hK r => ?_)
                      simp only [x_move, ev, Env.get, Option.getD_some, ↓reduceIte, Nat.reduceEqDiff, NextH, Env.putO, Env.put, ↓reduceIte, Nat.reduceEqDiff, upd_upd, Int.reduceToNat]
                      refine hK _ _ ?_; clear hK K
                      (first | refine OW_split (d := 111) rfl (fun g111 => ?_) (fun g111 => ?_) | skip)
                      all_goals try (exfalso; exact cnA g111)
                      all_goals (try simp only [decide_eq_true_eq, decide_eq_false_iff_not, Bool.not_eq_true, Bool.not_eq_false, Bool.and_eq_true, Bool.or_eq_true, Bool.or_eq_false_iff, Bool.not_eq_true, Bool.not_eq_eq_eq_not, Bool.not_true, Bool.not_false] at g111)
                      all_goals
                        try simp only [NextH, Env.putO, Env.put, ↓reduceIte, Nat.reduceEqDiff, upd_upd, Int.reduceToNat]
                        first
                        | refine OW_guardT rfl (lt_some (by decide)) rfl (fun K hK r => ?_)
                          simp only [x_move, ev, Env.get, Option.getD_some, ↓reduceIte, Nat.reduceEqDiff, NextH, Env.putO, Env.put, ↓reduceIte, Nat.reduceEqDiff, upd_upd, Int.reduceToNat]
                          refine hK _ _ ?_; clear hK K
                        | refine OW_guardF rfl (lt_some (by decide)) rfl ?_
                          simp only [NextH, Env.putO, Env.put, ↓reduceIte, Nat.reduceEqDiff, upd_upd, Int.reduceToNat]
                        first
                        | refine OW_guardT rfl (lt_some (by decide)) rfl (fun K hK r => ?_)
                          simp only [x_bin, g_int, g_bool, g_string, g_pointer, g_slice, g_map, g_func, g_nilFunc, g_err, g_iface, g_nil_iface, g_nil_r, g_nil_l, ev, Env.get, Option.getD_some, ↓reduceIte, Nat.reduceEqDiff, NextH, Env.putO, Env.put, ↓reduceIte, Nat.reduceEqDiff, upd_upd, Int.reduceToNat]
                          first | rw [b_err_eql _ _ Try.underlying29] | (rw [e_eql _ _ _ _ (by simp), q_equal]; first | rw [q_iface_nil _ _ _ Try.underlying29] | rw [q_nil_iface _ _ _ Try.underlying29] | rw [q_nil_nil _ _ _ Try.underlying29])
                          try simp only [ev, Env.get, Option.getD_some, ↓reduceIte, Nat.reduceEqDiff, NextH, Env.putO, Env.put, ↓reduceIte, Nat.reduceEqDiff, upd_upd, Int.reduceToNat]
                          refine hK _ _ ?_; clear hK K
                        | refine OW_guardF rfl (lt_some (by decide)) rfl ?_
                          simp only [NextH, Env.putO, Env.put, ↓reduceIte, Nat.reduceEqDiff, upd_upd, Int.reduceToNat]
                        refine OW_op rfl (lt_some (by decide)) (fun K hK r => ?_)
                        simp only [x_pick, l_asBool, HL.ite_bool, if_true, if_false, Bool.false_eq_true, ev, Env.get, Option.getD_some, ↓reduceIte, Nat.reduceEqDiff, NextH, Env.putO, Env.put, ↓reduceIte, Nat.reduceEqDiff, upd_upd, Int.reduceToNat]
                        refine hK _ _ ?_; clear hK K
                        refine OW_op rfl (lt_some (by decide)) (fun K hK r => ?_)
                        simp only [x_move, ev, Env.get, Option.getD_some, ↓reduceIte, Nat.reduceEqDiff, NextH, Env.putO, Env.put, ↓reduceIte, Nat.reduceEqDiff, upd_upd, Int.reduceToNat]
                        refine hK _ _ ?_; clear hK K
                        (first | refine OW_split (d := 115) rfl (fun g115 => ?_) (fun g115 => ?_) | skip)
                        all_goals try (exfalso; exact cnA g115)
                        all_goals (try simp only [decide_eq_true_eq, decide_eq_false_iff_not, Bool.not_eq_true, Bool.not_eq_false, Bool.and_eq_true, Bool.or_eq_true, Bool.or_eq_false_iff, Bool.not_eq_true, Bool.not_eq_eq_eq_not, Bool.not_true, Bool.not_false] at g115)
                        all_goals
                          try simp only [NextH, Env.putO, Env.put, ↓reduceIte, Nat.reduceEqDiff, upd_upd, Int.reduceToNat]
                          first
                          | refine OW_guardT rfl (lt_some (by decide)) rfl (fun K hK r => ?_)
                            simp only [x_move, ev, Env.get, Option.getD_some, ↓reduceIte, Nat.reduceEqDiff, NextH, Env.putO, Env.put, ↓reduceIte, Nat.reduceEqDiff, upd_upd, Int.reduceToNat]
                            refine hK _ _ ?_; clear hK K
                          | refine OW_guardF rfl (lt_some (by decide)) rfl ?_
                            simp only [NextH, Env.putO, Env.put, ↓reduceIte, Nat.reduceEqDiff, upd_upd, Int.reduceToNat]
                          first
                          | refine OW_guardT rfl (lt_some (by decide)) rfl (fun K hK r => ?_)
                            simp only [x_move, ev, Env.get, Option.getD_some, ↓reduceIte, Nat.reduceEqDiff, NextH, Env.putO, Env.put, ↓reduceIte, Nat.reduceEqDiff, upd_upd, Int.reduceToNat]
                            refine hK _ _ ?_; clear hK K
                          | refine OW_guardF rfl (lt_some (by decide)) rfl ?_
                            simp only [NextH, Env.putO, Env.put, ↓reduceIte, Nat.reduceEqDiff, upd_upd, Int.reduceToNat]
                          first
                          | refine OW_guardT rfl (lt_some (by decide)) rfl (fun K hK r => ?_)
                            simp (disch := (first | omega | decide)) only [x_bin, g_int, b_eql, dec_lt_t, dec_lt_f, dec_le_t, dec_le_f, dec_eq_t, dec_eq_f, Bool.not_true, Bool.not_false, ev, Env.get, Option.getD_some, ↓reduceIte, Nat.reduceEqDiff, NextH, Env.putO, Env.put, ↓reduceIte, Nat.reduceEqDiff, upd_upd, Int.reduceToNat]
                            refine hK _ _ ?_; clear hK K
                          | refine OW_guardF rfl (lt_some (by decide)) rfl ?_
                            simp only [NextH, Env.putO, Env.put, ↓reduceIte, Nat.reduceEqDiff, upd_upd, Int.reduceToNat]
                          refine OW_op rfl (lt_some (by decide)) (fun K hK r => ?_)
                          simp only [x_pick, l_asBool, HL.ite_bool, if_true, if_false, Bool.false_eq_true, ev, Env.get, Option.getD_some, ↓reduceIte, Nat.reduceEqDiff, NextH, Env.putO, Env.put, ↓reduceIte, Nat.reduceEqDiff, upd_upd, Int.reduceToNat]
                          refine hK _ _ ?_; clear hK K
                          refine OW_op rfl (lt_some (by decide)) (fun K hK r => ?_)
                          simp only [x_move, ev, Env.get, Option.getD_some, ↓reduceIte, Nat.reduceEqDiff, NextH, Env.putO, Env.put, ↓reduceIte, Nat.reduceEqDiff, upd_upd, Int.reduceToNat]
                          refine hK _ _ ?_; clear hK K
                          (first | refine OW_split (d := 120) rfl (fun g120 => ?_) (fun g120 => ?_) | skip)
                          all_goals try (exfalso; exact cnA g120)
                          all_goals (try simp only [decide_eq_true_eq, decide_eq_false_iff_not, Bool.not_eq_true, Bool.not_eq_false, Bool.and_eq_true, Bool.or_eq_true, Bool.or_eq_false_iff, Bool.not_eq_true, Bool.not_eq_eq_eq_not, Bool.not_true, Bool.not_false] at g120)
                          all_goals
                            try simp only [NextH, Env.putO, Env.put, ↓reduceIte, Nat.reduceEqDiff, upd_upd, Int.reduceToNat]
                            first
                            | refine OW_guardT rfl (lt_some (by decide)) rfl (fun K hK r => ?_)
                              simp only [x_move, ev, Env.get, Option.getD_some, ↓reduceIte, Nat.reduceEqDiff, NextH, Env.putO, Env.put, ↓reduceIte, Nat.reduceEqDiff, upd_upd, Int.reduceToNat]
                              refine hK _ _ ?_; clear hK K
                            | refine OW_guardF rfl (lt_some (by decide)) rfl ?_
                              simp only [NextH, Env.putO, Env.put, ↓reduceIte, Nat.reduceEqDiff, upd_upd, Int.reduceToNat]
                            first
                            | refine OW_guardT rfl (lt_some (by decide)) rfl (fun K hK r => ?_)
                              simp (disch := (first | omega | decide)) only [x_bin, g_int, b_eql, dec_lt_t, dec_lt_f, dec_le_t, dec_le_f, dec_eq_t, dec_eq_f, Bool.not_true, Bool.not_false, ev, Env.get, Option.getD_some, ↓reduceIte, Nat.reduceEqDiff, NextH, Env.putO, Env.put, ↓reduceIte, Nat.reduceEqDiff, upd_upd, Int.reduceToNat]
                              refine hK _ _ ?_; clear hK K
                            | refine OW_guardF rfl (lt_some (by decide)) rfl ?_
                              simp only [NextH, Env.putO, Env.put, ↓reduceIte, Nat.reduceEqDiff, upd_upd, Int.reduceToNat]
                            first
                            | refine OW_guardT rfl (lt_some (by decide)) rfl (fun K hK r => ?_)
                              simp only [x_move, ev, Env.get, Option.getD_some, ↓reduceIte, Nat.reduceEqDiff, NextH, Env.putO, Env.put, ↓reduceIte, Nat.reduceEqDiff, upd_upd, Int.reduceToNat]
                              refine hK _ _ ?_; clear hK K
                            | refine OW_guardF rfl (lt_some (by decide)) rfl ?_
                              simp only [NextH, Env.putO, Env.put, ↓reduceIte, Nat.reduceEqDiff, upd_upd, Int.reduceToNat]
                            (first | refine OW_split (d := 123) rfl (fun g123 => ?_) (fun g123 => ?_) | skip)
                            all_goals try (exfalso; exact cnA g123)
                            all_goals (try simp only [decide_eq_true_eq, decide_eq_false_iff_not, Bool.not_eq_true, Bool.not_eq_false, Bool.and_eq_true, Bool.or_eq_true, Bool.or_eq_false_iff, Bool.not_eq_true, Bool.not_eq_eq_eq_not, Bool.not_true, Bool.not_false] at g123)
                            all_goals
                              try simp only [NextH, Env.putO, Env.put, ↓reduceIte, Nat.reduceEqDiff, upd_upd, Int.reduceToNat]
                              first
                              | refine OW_guardT rfl (lt_some (by decide)) rfl (fun K hK r => ?_)
                                simp only [x_move, ev, Env.get, Option.getD_some, ↓reduceIte, Nat.reduceEqDiff, NextH, Env.putO, Env.put, ↓reduceIte, Nat.reduceEqDiff, upd_upd, Int.reduceToNat]
                                refine hK _ _ ?_; clear hK K
                              | refine OW_guardF rfl (lt_some (by decide)) rfl ?_
                                simp only [NextH, Env.putO, Env.put, ↓reduceIte, Nat.reduceEqDiff, upd_upd, Int.reduceToNat]
                              first
                              | refine OW_guardT rfl (lt_some (by decide)) rfl (fun K hK r => ?_)
                                simp (disch := (first | omega | decide)) only [x_bin, g_int, b_lss, dec_lt_t, dec_lt_f, dec_le_t, dec_le_f, dec_eq_t, dec_eq_f, Bool.not_true, Bool.not_false, ev, Env.get, Option.getD_some, ↓reduceIte, Nat.reduceEqDiff, NextH, Env.putO, Env.put, ↓reduceIte, Nat.reduceEqDiff, upd_upd, Int.reduceToNat]
                                refine hK _ _ ?_; clear hK K
                              | refine OW_guardF rfl (lt_some (by decide)) rfl ?_
                                simp only [NextH, Env.putO, Env.put, ↓reduceIte, Nat.reduceEqDiff, upd_upd, Int.reduceToNat]
                              first
                              | refine OW_guardT rfl (lt_some (by decide)) rfl (fun K hK r => ?_)
                                simp only [x_move, ev, Env.get, Option.getD_some, ↓reduceIte, Nat.reduceEqDiff, NextH, Env.putO, Env.put, ↓reduceIte, Nat.reduceEqDiff, upd_upd, Int.reduceToNat]
                                refine hK _ _ ?_; clear hK K
                              | refine OW_guardF rfl (lt_some (by decide)) rfl ?_
                                simp only [NextH, Env.putO, Env.put, ↓reduceIte, Nat.reduceEqDiff, upd_upd, Int.reduceToNat]
                              first
                              | refine OW_guardT rfl (lt_some (by decide)) rfl (fun K hK r => ?_)
                                simp (disch := (first | omega | decide)) only [x_bin, g_int, b_lss, dec_lt_t, dec_lt_f, dec_le_t, dec_le_f, dec_eq_t, dec_eq_f, Bool.not_true, Bool.not_false, ev, Env.get, Option.getD_some, ↓reduceIte, Nat.reduceEqDiff, NextH, Env.putO, Env.put, ↓reduceIte, Nat.reduceEqDiff, upd_upd, Int.reduceToNat]
                                refine hK _ _ ?_; clear hK K
                              | refine OW_guardF rfl (lt_some (by decide)) rfl ?_
                                simp only [NextH, Env.putO, Env.put, ↓reduceIte, Nat.reduceEqDiff, upd_upd, Int.reduceToNat]
                              first
                              | refine OW_guardT rfl (lt_some (by decide)) rfl (fun K hK r => ?_)
                                simp only [x_bin, g_int, g_bool, g_string, g_pointer, g_slice, g_map, g_func, g_nilFunc, g_iface, g_nil_iface, g_nil_r, g_nil_l, ev, Env.get, Option.getD_some, ↓reduceIte, Nat.reduceEqDiff, NextH, Env.putO, Env.put, ↓reduceIte, Nat.reduceEqDiff, upd_upd, Int.reduceToNat]
                                rw [e_eql _ _ _ _ (by simp)]
                                rw [q_equal, q_bool _ _ Try.underlying4]
                                try simp only [ev, Env.get, Option.getD_some, ↓reduceIte, Nat.reduceEqDiff, NextH, Env.putO, Env.put, ↓reduceIte, Nat.reduceEqDiff, upd_upd, Int.reduceToNat]
                                refine hK _ _ ?_; clear hK K
                              | refine OW_guardF rfl (lt_some (by decide)) rfl ?_
                                simp only [NextH, Env.putO, Env.put, ↓reduceIte, Nat.reduceEqDiff, upd_upd, Int.reduceToNat]
                              first
                              | refine OW_guardT rfl (lt_some (by decide)) rfl (fun K hK r => ?_)
                                simp only [x_pick, l_asBool, HL.ite_bool, if_true, if_false, Bool.false_eq_true, ev, Env.get, Option.getD_some, ↓reduceIte, Nat.reduceEqDiff, NextH, Env.putO, Env.put, ↓reduceIte, Nat.reduceEqDiff, upd_upd, Int.reduceToNat]
                                refine hK _ _ ?_; clear hK K
                              | refine OW_guardF rfl (lt_some (by decide)) rfl ?_
                                simp only [NextH, Env.putO, Env.put, ↓reduceIte, Nat.reduceEqDiff, upd_upd, Int.reduceToNat]
                              refine OW_op rfl (lt_some (by decide)) (fun K hK r => ?_)
                              simp only [x_pick, l_asBool, HL.ite_bool, if_true, if_false, Bool.false_eq_true, ev, Env.get, Option.getD_some, ↓reduceIte, Nat.reduceEqDiff, NextH, Env.putO, Env.put, ↓reduceIte, Nat.reduceEqDiff, upd_upd, Int.reduceToNat]
                              refine hK _ _ ?_; clear hK K
                              refine OW_op rfl (lt_some (by decide)) (fun K hK r => ?_)
                              simp only [x_assign, ev, Env.get, Option.getD_some, ↓reduceIte, Nat.reduceEqDiff, NextH, Env.putO, Env.put, ↓reduceIte, Nat.reduceEqDiff, upd_upd, Int.reduceToNat]
                              refine hK _ _ ?_; clear hK K
                              refine OW_nil ?_
                              try simp only [Ex.thnH, Ex.inBlockH, ↓reduceIte, Nat.reduceEqDiff]
                              refine hK54 _ _ ?_; try clear hK54 K54
                              refine CW_ret ?_
                              try simp only [Ex.thnH, Ex.inBlockH, ↓reduceIte, Nat.reduceEqDiff]
                              refine ⟨[_], ⟨rfl, trivial⟩, _, Le.refl _, ?_, lhA⟩
                              show Value.bool _ = _
                              refine congrArg Value.bool ?_
                              clear c76
                              first | rfl | (simp_all; done) | (rcases hsg with h | h <;> simp_all; done)

end Go.Proofs.Ytbeepknfcjejkaa.HL
