/- A part of the proof. -/
import Derived.Test.YtlbdmoikmomedaaW63
import Derived.Test.YtlbdmoikmomedaaW51
namespace Go.Proofs.Ytlbdmoikmomedaa.HL
open Go Go.Proofs
set_option linter.unusedSimpArgs false
set_option linter.unusedVariables false
attribute [local irreducible] Lt Lq CW OW TW CallH

set_option maxRecDepth 100000 in
set_option maxHeartbeats 1000000 in
theorem write_nil (H : Hp) (k n : Int) (u : Nat) (a : Option Addr) (cap : Nat) (b : List Int) (n1 : -9223372036854775808 ≤ n) (n2 : n ≤ 9223372036854775807) (u2 : u < 18446744073709551616) (hx : Holds H 1 (.slice a b.length cap) b.length (u8s b)) (hB : ByteL b) (hbl : b.length ≤ 1000) : CallH Try.prog 19 #[.pointer none, .agg #[.int .i64 k, .int .i64 n, .int .u64 u, .slice a b.length cap]] H (fun _ H' => Le H H') := by
  refine CallH_enter (l := [_, _]) (rl := [.tmp 4]) (n := 64) Try.func19 rfl rfl rfl rfl rfl ?_
  simp only [envOf, Nat.reduceAdd]
  refine CW_seq (fun K1 hK1 => ?_)
  refine CW_region ?_
  refine OW_op rfl (lt_some (by decide)) (fun K hK r => ?_)
  simp only [x_box, Value.cells, ev, Env.get, Option.getD_some, ↓reduceIte, Nat.reduceEqDiff, NextH, Env.putO, Env.put, ↓reduceIte, Nat.reduceEqDiff, upd_upd, Int.reduceToNat]
  intro b3 hb3
  have f3_H : H b3 = none := none_of_le lhA hb3
  try simp only [ev, Env.get, Option.getD_some, ↓reduceIte, Nat.reduceEqDiff, NextH, Env.putO, Env.put, ↓reduceIte, Nat.reduceEqDiff, upd_upd, Int.reduceToNat]
  refine hK _ _ ?_; clear hK K
  refine OW_op rfl (lt_some (by decide)) (fun K hK r => ?_)
  simp only [x_assign, ev, Env.get, Option.getD_some, ↓reduceIte, Nat.reduceEqDiff, NextH, Env.putO, Env.put, ↓reduceIte, Nat.reduceEqDiff, upd_upd, Int.reduceToNat]
  refine hK _ _ ?_; clear hK K
  refine OW_nil ?_
  try simp only [Ex.thnH, Ex.inBlockH, ↓reduceIte, Nat.reduceEqDiff]
  refine hK1 _ _ ?_; try clear hK1 K1
  refine CW_seq (fun K2 hK2 => ?_)
  refine CW_seq (fun K3 hK3 => ?_)
  refine CW_region ?_
  refine OW_op rfl (lt_some (by decide)) (fun K hK r => ?_)
  simp only [x_fieldAddr, fa51_0, add_mk, Nat.reduceAdd, Nat.zero_add, ev, Env.get, Option.getD_some, ↓reduceIte, Nat.reduceEqDiff, NextH, Env.putO, Env.put, ↓reduceIte, Nat.reduceEqDiff, upd_upd, Int.reduceToNat]
  refine hK _ _ ?_; clear hK K
  refine OW_op rfl (lt_some (by decide)) (fun K hK r => ?_)
  simp only [x_load, ev, Env.get, Option.getD_some, ↓reduceIte, Nat.reduceEqDiff, NextH, Env.putO, Env.put, ↓reduceIte, Nat.reduceEqDiff, upd_upd, Int.reduceToNat]
  refine Lt_loadAt1 Try.underlying3 rfl hbA ldA ?_
  try simp only [ev, Env.get, Option.getD_some, ↓reduceIte, Nat.reduceEqDiff, NextH, Env.putO, Env.put, ↓reduceIte, Nat.reduceEqDiff, upd_upd, Int.reduceToNat]
  refine hK _ _ ?_; clear hK K
  refine OW_nil ?_
  try simp only [Ex.thnH, Ex.inBlockH, ↓reduceIte, Nat.reduceEqDiff]
  refine hK3 _ _ ?_; try clear hK3 K3
  refine CW_block ?_
  refine CW_seq (fun K4 hK4 => ?_)
  refine CW_region ?_
  refine OW_op rfl (lt_some (by decide)) (fun K hK r => ?_)
  simp (disch := (first | omega | decide)) only [x_bin, g_int, b_eql, dec_lt_t, dec_lt_f, dec_le_t, dec_le_f, dec_eq_t, dec_eq_f, Bool.not_true, Bool.not_false, ev, Env.get, Option.getD_some, ↓reduceIte, Nat.reduceEqDiff, NextH, Env.putO, Env.put, ↓reduceIte, Nat.reduceEqDiff, upd_upd, Int.reduceToNat]
  refine hK _ _ ?_; clear hK K
  refine OW_op rfl (lt_some (by decide)) (fun K hK r => ?_)
  simp only [x_assign, ev, Env.get, Option.getD_some, ↓reduceIte, Nat.reduceEqDiff, NextH, Env.putO, Env.put, ↓reduceIte, Nat.reduceEqDiff, upd_upd, Int.reduceToNat]
  refine hK _ _ ?_; clear hK K
  refine OW_nil ?_
  try simp only [Ex.thnH, Ex.inBlockH, ↓reduceIte, Nat.reduceEqDiff]
  refine hK4 _ _ ?_; try clear hK4 K4
  refine CW_cond (fun r => rfl) (fun c7 => ?_) (fun c7 => ?_)
  · first
    | (exfalso; exact cnA c7; done)
    | skip
      (try simp only [decide_eq_true_eq, decide_eq_false_iff_not, Bool.not_eq_true, Bool.not_eq_false, Bool.and_eq_true, Bool.or_eq_true, Bool.or_eq_false_iff, Bool.not_eq_true, Bool.not_eq_eq_eq_not, Bool.not_true, Bool.not_false] at c7)
      refine CW_seq (fun K5 hK5 => ?_)
      refine CW_region ?_
      refine OW_op rfl (lt_some (by decide)) (fun K hK r => ?_)
      simp only [x_move, ev, Env.get, Option.getD_some, ↓reduceIte, Nat.reduceEqDiff, NextH, Env.putO, Env.put, ↓reduceIte, Nat.reduceEqDiff, upd_upd, Int.reduceToNat]
      refine hK _ _ ?_; clear hK K
      refine OW_op rfl (lt_some (by decide)) (fun K hK r => ?_)
      simp only [x_fieldAddr, fa51_1, add_mk, Nat.reduceAdd, Nat.zero_add, ev, Env.get, Option.getD_some, ↓reduceIte, Nat.reduceEqDiff, NextH, Env.putO, Env.put, ↓reduceIte, Nat.reduceEqDiff, upd_upd, Int.reduceToNat]
      refine hK _ _ ?_; clear hK K
      refine OW_op rfl (lt_some (by decide)) (fun K hK r => ?_)
      simp only [x_load, ev, Env.get, Option.getD_some, ↓reduceIte, Nat.reduceEqDiff, NextH, Env.putO, Env.put, ↓reduceIte, Nat.reduceEqDiff, upd_upd, Int.reduceToNat]
      refine Lt_loadAt1 Try.underlying3 rfl hbA ldA ?_
      try simp only [ev, Env.get, Option.getD_some, ↓reduceIte, Nat.reduceEqDiff, NextH, Env.putO, Env.put, ↓reduceIte, Nat.reduceEqDiff, upd_upd, Int.reduceToNat]
      refine hK _ _ ?_; clear hK K
      refine OW_op rfl (lt_some (by decide)) (fun K hK r => ?_)
      simp only [x_callF _ bd27, List.map_toArray, List.map_cons, List.map_nil, ev, Env.get, Option.getD_some, ↓reduceIte, Nat.reduceEqDiff, NextH, Env.putO, Env.put, ↓reduceIte, Nat.reduceEqDiff, upd_upd, Int.reduceToNat]
      refine (wNum_nil _ n n1 n2).mono ?_
      rintro v12 H12 hl12
      have lH12_H : Le H H12 := Le.trans lhA hl12
      have k12_b3 := hl12 b3 _ hbA
      try simp only [ev, Env.get, Option.getD_some, ↓reduceIte, Nat.reduceEqDiff, NextH, Env.putO, Env.put, ↓reduceIte, Nat.reduceEqDiff, upd_upd, Int.reduceToNat]
      refine hK _ _ ?_; clear hK K
      refine OW_nil ?_
      try simp only [Ex.thnH, Ex.inBlockH, ↓reduceIte, Nat.reduceEqDiff]
      refine hK5 _ _ ?_; try clear hK5 K5
      refine CW_seq (fun K6 hK6 => ?_)
      refine CW_region ?_
      refine OW_op rfl (lt_some (by decide)) (fun K hK r => ?_)
      simp only [x_fieldAddr, fa51_1, add_mk, Nat.reduceAdd, Nat.zero_add, ev, Env.get, Option.getD_some, ↓reduceIte, Nat.reduceEqDiff, NextH, Env.putO, Env.put, ↓reduceIte, Nat.reduceEqDiff, upd_upd, Int.reduceToNat]
      refine hK _ _ ?_; clear hK K
      refine OW_op rfl (lt_some (by decide)) (fun K hK r => ?_)
      simp only [x_load, ev, Env.get, Option.getD_some, ↓reduceIte, Nat.reduceEqDiff, NextH, Env.putO, Env.put, ↓reduceIte, Nat.reduceEqDiff, upd_upd, Int.reduceToNat]
      refine Lt_loadAt1 Try.underlying3 rfl hbA ldA ?_
      try simp only [ev, Env.get, Option.getD_some, ↓reduceIte, Nat.reduceEqDiff, NextH, Env.putO, Env.put, ↓reduceIte, Nat.reduceEqDiff, upd_upd, Int.reduceToNat]
      refine hK _ _ ?_; clear hK K
      refine OW_op rfl (lt_some (by decide)) (fun K hK r => ?_)
      simp only [x_callF _ bd41, List.map_toArray, List.map_cons, List.map_nil, ev, Env.get, Option.getD_some, ↓reduceIte, Nat.reduceEqDiff, NextH, Env.putO, Env.put, ↓reduceIte, Nat.reduceEqDiff, upd_upd, Int.reduceToNat]
      refine (rfNum_ok _ n n1 n2).mono ?_
      rintro v15 H15 ⟨hl15, rs15, ho15, hr15⟩
      have lH15_H : Le H H15 := Le.trans lhA hl15
      try simp only [ev, Env.get, Option.getD_some, ↓reduceIte, Nat.reduceEqDiff, NextH, Env.putO, Env.put, ↓reduceIte, Nat.reduceEqDiff, upd_upd, Int.reduceToNat]
      refine hK _ _ ?_; clear hK K
      refine OW_op rfl (lt_some (by decide)) (fun K hK r => ?_)
      simp only [x_assign, ev, Env.get, Option.getD_some, ↓reduceIte, Nat.reduceEqDiff, NextH, Env.putO, Env.put, ↓reduceIte, Nat.reduceEqDiff, upd_upd, Int.reduceToNat]
      refine hK _ _ ?_; clear hK K
      refine OW_nil ?_
      try simp only [Ex.thnH, Ex.inBlockH, ↓reduceIte, Nat.reduceEqDiff]
      refine hK6 _ _ ?_; try clear hK6 K6
      refine CW_ret ?_
      try simp only [Ex.thnH, Ex.inBlockH, ↓reduceIte, Nat.reduceEqDiff]
      exact ⟨[_], ⟨rfl, trivial⟩, _, Le.refl _, lH15_H⟩
  · first
    | (exfalso; exact cnA c7; done)
    | skip
      (try simp only [decide_eq_true_eq, decide_eq_false_iff_not, Bool.not_eq_true, Bool.not_eq_false, Bool.and_eq_true, Bool.or_eq_true, Bool.or_eq_false_iff, Bool.not_eq_true, Bool.not_eq_eq_eq_not, Bool.not_true, Bool.not_false] at c7)
      refine CW_seq (fun K7 hK7 => ?_)
      refine CW_region ?_
      refine OW_op rfl (lt_some (by decide)) (fun K hK r => ?_)
      simp (disch := (first | omega | decide)) only [x_bin, g_int, b_eql, dec_lt_t, dec_lt_f, dec_le_t, dec_le_f, dec_eq_t, dec_eq_f, Bool.not_true, Bool.not_false, ev, Env.get, Option.getD_some, ↓reduceIte, Nat.reduceEqDiff, NextH, Env.putO, Env.put, ↓reduceIte, Nat.reduceEqDiff, upd_upd, Int.reduceToNat]
      refine hK _ _ ?_; clear hK K
      refine OW_op rfl (lt_some (by decide)) (fun K hK r => ?_)
      simp only [x_assign, ev, Env.get, Option.getD_some, ↓reduceIte, Nat.reduceEqDiff, NextH, Env.putO, Env.put, ↓reduceIte, Nat.reduceEqDiff, upd_upd, Int.reduceToNat]
      refine hK _ _ ?_; clear hK K
      refine OW_nil ?_
      try simp only [Ex.thnH, Ex.inBlockH, ↓reduceIte, Nat.reduceEqDiff]
      refine hK7 _ _ ?_; try clear hK7 K7
      refine CW_cond (fun r => rfl) (fun c16 => ?_) (fun c16 => ?_)
      · first
        | (exfalso; exact cnA c16; done)
        | skip
          (try simp only [decide_eq_true_eq, decide_eq_false_iff_not, Bool.not_eq_true, Bool.not_eq_false, Bool.and_eq_true, Bool.or_eq_true, Bool.or_eq_false_iff, Bool.not_eq_true, Bool.not_eq_eq_eq_not, Bool.not_true, Bool.not_false] at c16)
          refine CW_seq (fun K8 hK8 => ?_)
          refine CW_region ?_
          refine OW_op rfl (lt_some (by decide)) (fun K hK r => ?_)
          simp only [x_move, ev, Env.get, Option.getD_some, ↓reduceIte, Nat.reduceEqDiff, NextH, Env.putO, Env.put, ↓reduceIte, Nat.reduceEqDiff, upd_upd, Int.reduceToNat]
          refine hK _ _ ?_; clear hK K
          refine OW_op rfl (lt_some (by decide)) (fun K hK r => ?_)
          simp only [x_fieldAddr, fa51_1, add_mk, Nat.reduceAdd, Nat.zero_add, ev, Env.get, Option.getD_some, ↓reduceIte, Nat.reduceEqDiff, NextH, Env.putO, Env.put, ↓reduceIte, Nat.reduceEqDiff, upd_upd, Int.reduceToNat]
          refine hK _ _ ?_; clear hK K
          refine OW_op rfl (lt_some (by decide)) (fun K hK r => ?_)
          simp only [x_load, ev, Env.get, Option.getD_some, ↓reduceIte, Nat.reduceEqDiff, NextH, Env.putO, Env.put, ↓reduceIte, Nat.reduceEqDiff, upd_upd, Int.reduceToNat]
          refine Lt_loadAt1 Try.underlying3 rfl hbA ldA ?_
          try simp only [ev, Env.get, Option.getD_some, ↓reduceIte, Nat.reduceEqDiff, NextH, Env.putO, Env.put, ↓reduceIte, Nat.reduceEqDiff, upd_upd, Int.reduceToNat]
          refine hK _ _ ?_; clear hK K
          refine OW_op rfl (lt_some (by decide)) (fun K hK r => ?_)
          simp (disch := (first | omega | decide)) only [x_bin, g_int, b_eql, dec_lt_t, dec_lt_f, dec_le_t, dec_le_f, dec_eq_t, dec_eq_f, Bool.not_true, Bool.not_false, ev, Env.get, Option.getD_some, ↓reduceIte, Nat.reduceEqDiff, NextH, Env.putO, Env.put, ↓reduceIte, Nat.reduceEqDiff, upd_upd, Int.reduceToNat]
          refine hK _ _ ?_; clear hK K
          refine OW_op rfl (lt_some (by decide)) (fun K hK r => ?_)
          simp only [x_callF _ bd42, List.map_toArray, List.map_cons, List.map_nil, ev, Env.get, Option.getD_some, ↓reduceIte, Nat.reduceEqDiff, NextH, Env.putO, Env.put, ↓reduceIte, Nat.reduceEqDiff, upd_upd, Int.reduceToNat]
          refine (wFlag_nil _ (decide (n = 1))).mono ?_
          rintro v22 H22 hl22
          have lH22_H : Le H H22 := Le.trans lhA hl22
          have k22_b3 := hl22 b3 _ hbA
          try simp only [ev, Env.get, Option.getD_some, ↓reduceIte, Nat.reduceEqDiff, NextH, Env.putO, Env.put, ↓reduceIte, Nat.reduceEqDiff, upd_upd, Int.reduceToNat]
          refine hK _ _ ?_; clear hK K
          refine OW_nil ?_
          try simp only [Ex.thnH, Ex.inBlockH, ↓reduceIte, Nat.reduceEqDiff]
          refine hK8 _ _ ?_; try clear hK8 K8
          refine CW_seq (fun K9 hK9 => ?_)
          refine CW_region ?_
          refine OW_op rfl (lt_some (by decide)) (fun K hK r => ?_)
          simp only [x_fieldAddr, fa51_1, add_mk, Nat.reduceAdd, Nat.zero_add, ev, Env.get, Option.getD_some, ↓reduceIte, Nat.reduceEqDiff, NextH, Env.putO, Env.put, ↓reduceIte, Nat.reduceEqDiff, upd_upd, Int.reduceToNat]
          refine hK _ _ ?_; clear hK K
          refine OW_op rfl (lt_some (by decide)) (fun K hK r => ?_)
          simp only [x_load, ev, Env.get, Option.getD_some, ↓reduceIte, Nat.reduceEqDiff, NextH, Env.putO, Env.put, ↓reduceIte, Nat.reduceEqDiff, upd_upd, Int.reduceToNat]
          refine Lt_loadAt1 Try.underlying3 rfl hbA ldA ?_
          try simp only [ev, Env.get, Option.getD_some, ↓reduceIte, Nat.reduceEqDiff, NextH, Env.putO, Env.put, ↓reduceIte, Nat.reduceEqDiff, upd_upd, Int.reduceToNat]
          refine hK _ _ ?_; clear hK K
          refine OW_op rfl (lt_some (by decide)) (fun K hK r => ?_)
          simp (disch := (first | omega | decide)) only [x_bin, g_int, b_eql, dec_lt_t, dec_lt_f, dec_le_t, dec_le_f, dec_eq_t, dec_eq_f, Bool.not_true, Bool.not_false, ev, Env.get, Option.getD_some, ↓reduceIte, Nat.reduceEqDiff, NextH, Env.putO, Env.put, ↓reduceIte, Nat.reduceEqDiff, upd_upd, Int.reduceToNat]
          refine hK _ _ ?_; clear hK K
          refine OW_op rfl (lt_some (by decide)) (fun K hK r => ?_)
          simp only [x_callF _ bd43, List.map_toArray, List.map_cons, List.map_nil, ev, Env.get, Option.getD_some, ↓reduceIte, Nat.reduceEqDiff, NextH, Env.putO, Env.put, ↓reduceIte, Nat.reduceEqDiff, upd_upd, Int.reduceToNat]
          refine (rfFlag_ok _ (decide (n = 1))).mono ?_
          rintro v26 H26 ⟨hl26, rs26, ho26, hr26⟩
          have lH26_H : Le H H26 := Le.trans lhA hl26
          try simp only [ev, Env.get, Option.getD_some, ↓reduceIte, Nat.reduceEqDiff, NextH, Env.putO, Env.put, ↓reduceIte, Nat.reduceEqDiff, upd_upd, Int.reduceToNat]
          refine hK _ _ ?_; clear hK K
          refine OW_op rfl (lt_some (by decide)) (fun K hK r => ?_)
          simp only [x_assign, ev, Env.get, Option.getD_some, ↓reduceIte, Nat.reduceEqDiff, NextH, Env.putO, Env.put, ↓reduceIte, Nat.reduceEqDiff, upd_upd, Int.reduceToNat]
          refine hK _ _ ?_; clear hK K
          refine OW_nil ?_
          try simp only [Ex.thnH, Ex.inBlockH, ↓reduceIte, Nat.reduceEqDiff]
          refine hK9 _ _ ?_; try clear hK9 K9
          refine CW_ret ?_
          try simp only [Ex.thnH, Ex.inBlockH, ↓reduceIte, Nat.reduceEqDiff]
          exact ⟨[_], ⟨rfl, trivial⟩, _, Le.refl _, lH26_H⟩
      · first
        | (exfalso; exact cnA c16; done)
        | skip
          (try simp only [decide_eq_true_eq, decide_eq_false_iff_not, Bool.not_eq_true, Bool.not_eq_false, Bool.and_eq_true, Bool.or_eq_true, Bool.or_eq_false_iff, Bool.not_eq_true, Bool.not_eq_eq_eq_not, Bool.not_true, Bool.not_false] at c16)
          refine CW_seq (fun K10 hK10 => ?_)
          refine CW_region ?_
          refine OW_op rfl (lt_some (by decide)) (fun K hK r => ?_)
          simp (disch := (first | omega | decide)) only [x_bin, g_int, b_eql, dec_lt_t, dec_lt_f, dec_le_t, dec_le_f, dec_eq_t, dec_eq_f, Bool.not_true, Bool.not_false, ev, Env.get, Option.getD_some, ↓reduceIte, Nat.reduceEqDiff, NextH, Env.putO, Env.put, ↓reduceIte, Nat.reduceEqDiff, upd_upd, Int.reduceToNat]
          refine hK _ _ ?_; clear hK K
          refine OW_op rfl (lt_some (by decide)) (fun K hK r => ?_)
          simp only [x_assign, ev, Env.get, Option.getD_some, ↓reduceIte, Nat.reduceEqDiff, NextH, Env.putO, Env.put, ↓reduceIte, Nat.reduceEqDiff, upd_upd, Int.reduceToNat]
          refine hK _ _ ?_; clear hK K
          refine OW_nil ?_
          try simp only [Ex.thnH, Ex.inBlockH, ↓reduceIte, Nat.reduceEqDiff]
          refine hK10 _ _ ?_; try clear hK10 K10
          refine CW_cond (fun r => rfl) (fun c27 => ?_) (fun c27 => ?_)
          · first
            | (exfalso; exact cnA c27; done)
            | skip
              (try simp only [decide_eq_true_eq, decide_eq_false_iff_not, Bool.not_eq_true, Bool.not_eq_false, Bool.and_eq_true, Bool.or_eq_true, Bool.or_eq_false_iff, Bool.not_eq_true, Bool.not_eq_eq_eq_not, Bool.not_true, Bool.not_false] at c27)
              refine CW_seq (fun K11 hK11 => ?_)
              refine CW_region ?_
              refine OW_op rfl (lt_some (by decide)) (fun K hK r => ?_)
              simp only [x_move, ev, Env.get, Option.getD_some, ↓reduceIte, Nat.reduceEqDiff, NextH, Env.putO, Env.put, ↓reduceIte, Nat.reduceEqDiff, upd_upd, Int.reduceToNat]
              refine hK _ _ ?_; clear hK K
              refine OW_op rfl (lt_some (by decide)) (fun K hK r => ?_)
              simp only [x_fieldAddr, fa51_3, add_mk, Nat.reduceAdd, Nat.zero_add, ev, Env.get, Option.getD_some, ↓reduceIte, Nat.reduceEqDiff, NextH, Env.putO, Env.put, ↓reduceIte, Nat.reduceEqDiff, upd_upd, Int.reduceToNat]
              refine hK _ _ ?_; clear hK K
              refine OW_op rfl (lt_some (by decide)) (fun K hK r => ?_)
              simp only [x_load, ev, Env.get, Option.getD_some, ↓reduceIte, Nat.reduceEqDiff, NextH, Env.putO, Env.put, ↓reduceIte, Nat.reduceEqDiff, upd_upd, Int.reduceToNat]
              refine Lt_loadAt1 Try.underlying27 rfl hbA ldA ?_
              try simp only [ev, Env.get, Option.getD_some, ↓reduceIte, Nat.reduceEqDiff, NextH, Env.putO, Env.put, ↓reduceIte, Nat.reduceEqDiff, upd_upd, Int.reduceToNat]
              refine hK _ _ ?_; clear hK K
              refine OW_op rfl (lt_some (by decide)) (fun K hK r => ?_)
              simp only [x_callF _ bd44, List.map_toArray, List.map_cons, List.map_nil, ev, Env.get, Option.getD_some, ↓reduceIte, Nat.reduceEqDiff, NextH, Env.putO, Env.put, ↓reduceIte, Nat.reduceEqDiff, upd_upd, Int.reduceToNat]
              refine (wBytes_nil _ a b.length cap (by omega)).mono ?_
              rintro v32 H32 hl32
              have lH32_H : Le H H32 := Le.trans lhA hl32
              have k32_b3 := hl32 b3 _ hbA
              try simp only [ev, Env.get, Option.getD_some, ↓reduceIte, Nat.reduceEqDiff, NextH, Env.putO, Env.put, ↓reduceIte, Nat.reduceEqDiff, upd_upd, Int.reduceToNat]
              refine hK _ _ ?_; clear hK K
              refine OW_nil ?_
              try simp only [Ex.thnH, Ex.inBlockH, ↓reduceIte, Nat.reduceEqDiff]
              refine hK11 _ _ ?_; try clear hK11 K11
              refine CW_seq (fun K12 hK12 => ?_)
              refine CW_region ?_
              refine OW_op rfl (lt_some (by decide)) (fun K hK r => ?_)
              simp only [x_fieldAddr, fa51_3, add_mk, Nat.reduceAdd, Nat.zero_add, ev, Env.get, Option.getD_some, ↓reduceIte, Nat.reduceEqDiff, NextH, Env.putO, Env.put, ↓reduceIte, Nat.reduceEqDiff, upd_upd, Int.reduceToNat]
              refine hK _ _ ?_; clear hK K
              refine OW_op rfl (lt_some (by decide)) (fun K hK r => ?_)
              simp only [x_load, ev, Env.get, Option.getD_some, ↓reduceIte, Nat.reduceEqDiff, NextH, Env.putO, Env.put, ↓reduceIte, Nat.reduceEqDiff, upd_upd, Int.reduceToNat]
              refine Lt_loadAt1 Try.underlying27 rfl hbA ldA ?_
              try simp only [ev, Env.get, Option.getD_some, ↓reduceIte, Nat.reduceEqDiff, NextH, Env.putO, Env.put, ↓reduceIte, Nat.reduceEqDiff, upd_upd, Int.reduceToNat]
              refine hK _ _ ?_; clear hK K
              refine OW_op rfl (lt_some (by decide)) (fun K hK r => ?_)
              simp only [x_callF _ bd45, List.map_toArray, List.map_cons, List.map_nil, ev, Env.get, Option.getD_some, ↓reduceIte, Nat.reduceEqDiff, NextH, Env.putO, Env.put, ↓reduceIte, Nat.reduceEqDiff, upd_upd, Int.reduceToNat]
              refine (rfBytes_ok _ _ b (hx.le lhA) (by omega)).mono ?_
              rintro v35 H35 ⟨hl35, rs35, ho35, hr35⟩
              have lH35_H : Le H H35 := Le.trans lhA hl35
              try simp only [ev, Env.get, Option.getD_some, ↓reduceIte, Nat.reduceEqDiff, NextH, Env.putO, Env.put, ↓reduceIte, Nat.reduceEqDiff, upd_upd, Int.reduceToNat]
              refine hK _ _ ?_; clear hK K
              refine OW_op rfl (lt_some (by decide)) (fun K hK r => ?_)
              simp only [x_assign, ev, Env.get, Option.getD_some, ↓reduceIte, Nat.reduceEqDiff, NextH, Env.putO, Env.put, ↓reduceIte, Nat.reduceEqDiff, upd_upd, Int.reduceToNat]
              refine hK _ _ ?_; clear hK K
              refine OW_nil ?_
              try simp only [Ex.thnH, Ex.inBlockH, ↓reduceIte, Nat.reduceEqDiff]
              refine hK12 _ _ ?_; try clear hK12 K12
              refine CW_ret ?_
              try simp only [Ex.thnH, Ex.inBlockH, ↓reduceIte, Nat.reduceEqDiff]
              exact ⟨[_], ⟨rfl, trivial⟩, _, Le.refl _, lH35_H⟩
          · first
            | (exfalso; exact cnA c27; done)
            | skip
              (try simp only [decide_eq_true_eq, decide_eq_false_iff_not, Bool.not_eq_true, Bool.not_eq_false, Bool.and_eq_true, Bool.or_eq_true, Bool.or_eq_false_iff, Bool.not_eq_true, Bool.not_eq_eq_eq_not, Bool.not_true, Bool.not_false] at c27)
              refine CW_seq (fun K13 hK13 => ?_)
              refine CW_region ?_
              refine OW_op rfl (lt_some (by decide)) (fun K hK r => ?_)
              simp (disch := (first | omega | decide)) only [x_bin, g_int, b_eql, dec_lt_t, dec_lt_f, dec_le_t, dec_le_f, dec_eq_t, dec_eq_f, Bool.not_true, Bool.not_false, ev, Env.get, Option.getD_some, ↓reduceIte, Nat.reduceEqDiff, NextH, Env.putO, Env.put, ↓reduceIte, Nat.reduceEqDiff, upd_upd, Int.reduceToNat]
              refine hK _ _ ?_; clear hK K
              refine OW_op rfl (lt_some (by decide)) (fun K hK r => ?_)
              simp only [x_assign, ev, Env.get, Option.getD_some, ↓reduceIte, Nat.reduceEqDiff, NextH, Env.putO, Env.put, ↓reduceIte, Nat.reduceEqDiff, upd_upd, Int.reduceToNat]
              refine hK _ _ ?_; clear hK K
              refine OW_nil ?_
              try simp only [Ex.thnH, Ex.inBlockH, ↓reduceIte, Nat.reduceEqDiff]
              refine hK13 _ _ ?_; try clear hK13 K13
              refine CW_cond (fun r => rfl) (fun c36 => ?_) (fun c36 => ?_)
              · first
                | (exfalso; exact cnA c36; done)
                | skip
                  (try simp only [decide_eq_true_eq, decide_eq_false_iff_not, Bool.not_eq_true, Bool.not_eq_false, Bool.and_eq_true, Bool.or_eq_true, Bool.or_eq_false_iff, Bool.not_eq_true, Bool.not_eq_eq_eq_not, Bool.not_true, Bool.not_false] at c36)
                  refine CW_seq (fun K14 hK14 => ?_)
                  refine CW_region ?_
                  refine OW_op rfl (lt_some (by decide)) (fun K hK r => ?_)
                  simp only [x_move, ev, Env.get, Option.getD_some, ↓reduceIte, Nat.reduceEqDiff, NextH, Env.putO, Env.put, ↓reduceIte, Nat.reduceEqDiff, upd_upd, Int.reduceToNat]
                  refine hK _ _ ?_; clear hK K
                  refine OW_op rfl (lt_some (by decide)) (fun K hK r => ?_)
                  simp only [x_fieldAddr, fa51_3, add_mk, Nat.reduceAdd, Nat.zero_add, ev, Env.get, Option.getD_some, ↓reduceIte, Nat.reduceEqDiff, NextH, Env.putO, Env.put, ↓reduceIte, Nat.reduceEqDiff, upd_upd, Int.reduceToNat]
                  refine hK _ _ ?_; clear hK K
                  refine OW_op rfl (lt_some (by decide)) (fun K hK r => ?_)
                  simp only [x_load, ev, Env.get, Option.getD_some, ↓reduceIte, Nat.reduceEqDiff, NextH, Env.putO, Env.put, ↓reduceIte, Nat.reduceEqDiff, upd_upd, Int.reduceToNat]
                  refine Lt_loadAt1 Try.underlying27 rfl hbA ldA ?_
                  try simp only [ev, Env.get, Option.getD_some, ↓reduceIte, Nat.reduceEqDiff, NextH, Env.putO, Env.put, ↓reduceIte, Nat.reduceEqDiff, upd_upd, Int.reduceToNat]
                  refine hK _ _ ?_; clear hK K
                  refine OW_op rfl (lt_some (by decide)) (fun K hK r => ?_)
                  simp only [x_convert, ev, Env.get, Option.getD_some, ↓reduceIte, Nat.reduceEqDiff, NextH, Env.putO, Env.put, ↓reduceIte, Nat.reduceEqDiff, upd_upd, Int.reduceToNat]
                  refine Lt_convBS Try.underlying27 Try.underlying5 Try.underlying9 (hx.le lhA) ?_
                  refine hK _ _ ?_; clear hK K
                  refine OW_op rfl (lt_some (by decide)) (fun K hK r => ?_)
                  simp only [x_callF _ bd46, List.map_toArray, List.map_cons, List.map_nil, ev, Env.get, Option.getD_some, ↓reduceIte, Nat.reduceEqDiff, NextH, Env.putO, Env.put, ↓reduceIte, Nat.reduceEqDiff, upd_upd, Int.reduceToNat]
                  refine (wText_nil _ b hB (by omega)).mono ?_
                  rintro v42 H42 hl42
                  have lH42_H : Le H H42 := Le.trans lhA hl42
                  have k42_b3 := hl42 b3 _ hbA
                  try simp only [ev, Env.get, Option.getD_some, ↓reduceIte, Nat.reduceEqDiff, NextH, Env.putO, Env.put, ↓reduceIte, Nat.reduceEqDiff, upd_upd, Int.reduceToNat]
                  refine hK _ _ ?_; clear hK K
                  refine OW_nil ?_
                  try simp only [Ex.thnH, Ex.inBlockH, ↓reduceIte, Nat.reduceEqDiff]
                  refine hK14 _ _ ?_; try clear hK14 K14
                  refine CW_seq (fun K15 hK15 => ?_)
                  refine CW_region ?_
                  refine OW_op rfl (lt_some (by decide)) (fun K hK r => ?_)
                  simp only [x_fieldAddr, fa51_3, add_mk, Nat.reduceAdd, Nat.zero_add, ev, Env.get, Option.getD_some, ↓reduceIte, Nat.reduceEqDiff, NextH, Env.putO, Env.put, ↓reduceIte, Nat.reduceEqDiff, upd_upd, Int.reduceToNat]
                  refine hK _ _ ?_; clear hK K
                  refine OW_op rfl (lt_some (by decide)) (fun K hK r => ?_)
                  simp only [x_load, ev, Env.get, Option.getD_some, ↓reduceIte, Nat.reduceEqDiff, NextH, Env.putO, Env.put, ↓reduceIte, Nat.reduceEqDiff, upd_upd, Int.reduceToNat]
                  refine Lt_loadAt1 Try.underlying27 rfl hbA ldA ?_
                  try simp only [ev, Env.get, Option.getD_some, ↓reduceIte, Nat.reduceEqDiff, NextH, Env.putO, Env.put, ↓reduceIte, Nat.reduceEqDiff, upd_upd, Int.reduceToNat]
                  refine hK _ _ ?_; clear hK K
                  refine OW_op rfl (lt_some (by decide)) (fun K hK r => ?_)
                  simp only [x_callF _ bd45, List.map_toArray, List.map_cons, List.map_nil, ev, Env.get, Option.getD_some, ↓reduceIte, Nat.reduceEqDiff, NextH, Env.putO, Env.put, ↓reduceIte, Nat.reduceEqDiff, upd_upd, Int.reduceToNat]
                  refine (rfBytes_ok _ _ b (hx.le lhA) (by omega)).mono ?_
                  rintro v45 H45 ⟨hl45, rs45, ho45, hr45⟩
                  have lH45_H : Le H H45 := Le.trans lhA hl45
                  try simp only [ev, Env.get, Option.getD_some, ↓reduceIte, Nat.reduceEqDiff, NextH, Env.putO, Env.put, ↓reduceIte, Nat.reduceEqDiff, upd_upd, Int.reduceToNat]
                  refine hK _ _ ?_; clear hK K
                  refine OW_op rfl (lt_some (by decide)) (fun K hK r => ?_)
                  simp only [x_assign, ev, Env.get, Option.getD_some, ↓reduceIte, Nat.reduceEqDiff, NextH, Env.putO, Env.put, ↓reduceIte, Nat.reduceEqDiff, upd_upd, Int.reduceToNat]
                  refine hK _ _ ?_; clear hK K
                  refine OW_nil ?_
                  try simp only [Ex.thnH, Ex.inBlockH, ↓reduceIte, Nat.reduceEqDiff]
                  refine hK15 _ _ ?_; try clear hK15 K15
                  refine CW_ret ?_
                  try simp only [Ex.thnH, Ex.inBlockH, ↓reduceIte, Nat.reduceEqDiff]
                  exact ⟨[_], ⟨rfl, trivial⟩, _, Le.refl _, lH45_H⟩
              · first
                | (exfalso; exact cnA c36; done)
                | skip
                  (try simp only [decide_eq_true_eq, decide_eq_false_iff_not, Bool.not_eq_true, Bool.not_eq_false, Bool.and_eq_true, Bool.or_eq_true, Bool.or_eq_false_iff, Bool.not_eq_true, Bool.not_eq_eq_eq_not, Bool.not_true, Bool.not_false] at c36)
                  refine CW_seq (fun K16 hK16 => ?_)
                  refine CW_region ?_
                  refine OW_op rfl (lt_some (by decide)) (fun K hK r => ?_)
                  simp (disch := (first | omega | decide)) only [x_bin, g_int, b_eql, dec_lt_t, dec_lt_f, dec_le_t, dec_le_f, dec_eq_t, dec_eq_f, Bool.not_true, Bool.not_false, ev, Env.get, Option.getD_some, ↓reduceIte, Nat.reduceEqDiff, NextH, Env.putO, Env.put, ↓reduceIte, Nat.reduceEqDiff, upd_upd, Int.reduceToNat]
                  refine hK _ _ ?_; clear hK K
                  refine OW_op rfl (lt_some (by decide)) (fun K hK r => ?_)
                  simp only [x_assign, ev, Env.get, Option.getD_some, ↓reduceIte, Nat.reduceEqDiff, NextH, Env.putO, Env.put, ↓reduceIte, Nat.reduceEqDiff, upd_upd, Int.reduceToNat]
                  refine hK _ _ ?_; clear hK K
                  refine OW_nil ?_
                  try simp only [Ex.thnH, Ex.inBlockH, ↓reduceIte, Nat.reduceEqDiff]
                  refine hK16 _ _ ?_; try clear hK16 K16
                  refine CW_cond (fun r => rfl) (fun c46 => ?_) (fun c46 => ?_)
                  · first
                    | (exfalso; exact cnA c46; done)
                    | skip
                      (try simp only [decide_eq_true_eq, decide_eq_false_iff_not, Bool.not_eq_true, Bool.not_eq_false, Bool.and_eq_true, Bool.or_eq_true, Bool.or_eq_false_iff, Bool.not_eq_true, Bool.not_eq_eq_eq_not, Bool.not_true, Bool.not_false] at c46)
                      refine CW_seq (fun K17 hK17 => ?_)
                      refine CW_region ?_
                      refine OW_op rfl (lt_some (by decide)) (fun K hK r => ?_)
                      simp only [x_move, ev, Env.get, Option.getD_some, ↓reduceIte, Nat.reduceEqDiff, NextH, Env.putO, Env.put, ↓reduceIte, Nat.reduceEqDiff, upd_upd, Int.reduceToNat]
                      refine hK _ _ ?_; clear hK K
                      refine OW_op rfl (lt_some (by decide)) (fun K hK r => ?_)
                      simp only [x_fieldAddr, fa51_1, add_mk, Nat.reduceAdd, Nat.zero_add, ev, Env.get, Option.getD_some, ↓reduceIte, Nat.reduceEqDiff, NextH, Env.putO, Env.put, ↓reduceIte, Nat.reduceEqDiff, upd_upd, Int.reduceToNat]
                      refine hK _ _ ?_; clear hK K
                      refine OW_op rfl (lt_some (by decide)) (fun K hK r => ?_)
                      simp only [x_load, ev, Env.get, Option.getD_some, ↓reduceIte, Nat.reduceEqDiff, NextH, Env.putO, Env.put, ↓reduceIte, Nat.reduceEqDiff, upd_upd, Int.reduceToNat]
                      refine Lt_loadAt1 Try.underlying3 rfl hbA ldA ?_
                      try simp only [ev, Env.get, Option.getD_some, ↓reduceIte, Nat.reduceEqDiff, NextH, Env.putO, Env.put, ↓reduceIte, Nat.reduceEqDiff, upd_upd, Int.reduceToNat]
                      refine hK _ _ ?_; clear hK K
                      refine OW_op rfl (lt_some (by decide)) (fun K hK r => ?_)
                      simp (disch := (first | omega | decide)) only [x_convert, c_int _ _ _ _ Try.underlying3 Try.underlying5, wrap_i64, wrap_u64, wrap_u32, wrap_u8, ev, Env.get, Option.getD_some, ↓reduceIte, Nat.reduceEqDiff, NextH, Env.putO, Env.put, ↓reduceIte, Nat.reduceEqDiff, upd_upd, Int.reduceToNat]
                      refine hK _ _ ?_; clear hK K
                      refine OW_op rfl (lt_some (by decide)) (fun K hK r => ?_)
                      simp only [x_callF _ bd47, List.map_toArray, List.map_cons, List.map_nil, ev, Env.get, Option.getD_some, ↓reduceIte, Nat.reduceEqDiff, NextH, Env.putO, Env.put, ↓reduceIte, Nat.reduceEqDiff, upd_upd, Int.reduceToNat]
                      refine (wByte_nil _ _).mono ?_
                      rintro v52 H52 hl52
                      have lH52_H : Le H H52 := Le.trans lhA hl52
                      have k52_b3 := hl52 b3 _ hbA
                      try simp only [ev, Env.get, Option.getD_some, ↓reduceIte, Nat.reduceEqDiff, NextH, Env.putO, Env.put, ↓reduceIte, Nat.reduceEqDiff, upd_upd, Int.reduceToNat]
                      refine hK _ _ ?_; clear hK K
                      refine OW_nil ?_
                      try simp only [Ex.thnH, Ex.inBlockH, ↓reduceIte, Nat.reduceEqDiff]
                      refine hK17 _ _ ?_; try clear hK17 K17
                      refine CW_seq (fun K18 hK18 => ?_)
                      refine CW_region ?_
                      refine OW_op rfl (lt_some (by decide)) (fun K hK r => ?_)
                      simp only [x_fieldAddr, fa51_1, add_mk, Nat.reduceAdd, Nat.zero_add, ev, Env.get, Option.getD_some, ↓reduceIte, Nat.reduceEqDiff, NextH, Env.putO, Env.put, ↓reduceIte, Nat.reduceEqDiff, upd_upd, Int.reduceToNat]
                      refine hK _ _ ?_; clear hK K
                      refine OW_op rfl (lt_some (by decide)) (fun K hK r => ?_)
                      simp only [x_load, ev, Env.get, Option.getD_some, ↓reduceIte, Nat.reduceEqDiff, NextH, Env.putO, Env.put, ↓reduceIte, Nat.reduceEqDiff, upd_upd, Int.reduceToNat]
                      refine Lt_loadAt1 Try.underlying3 rfl hbA ldA ?_
                      try simp only [ev, Env.get, Option.getD_some, ↓reduceIte, Nat.reduceEqDiff, NextH, Env.putO, Env.put, ↓reduceIte, Nat.reduceEqDiff, upd_upd, Int.reduceToNat]
                      refine hK _ _ ?_; clear hK K
                      refine OW_op rfl (lt_some (by decide)) (fun K hK r => ?_)
                      simp (disch := (first | omega | decide)) only [x_convert, c_int _ _ _ _ Try.underlying3 Try.underlying5, wrap_i64, wrap_u64, wrap_u32, wrap_u8, ev, Env.get, Option.getD_some, ↓reduceIte, Nat.reduceEqDiff, NextH, Env.putO, Env.put, ↓reduceIte, Nat.reduceEqDiff, upd_upd, Int.reduceToNat]
                      refine hK _ _ ?_; clear hK K
                      refine OW_op rfl (lt_some (by decide)) (fun K hK r => ?_)
                      simp only [x_buildSlice, List.map_toArray, List.map_cons, List.map_nil, ev, Env.get, Option.getD_some, ↓reduceIte, Nat.reduceEqDiff, NextH, Env.putO, Env.put, ↓reduceIte, Nat.reduceEqDiff, upd_upd, Int.reduceToNat]
                      refine Lt_buildSlice (vs := [_]) Try.underlying27 sz5 zr5 rfl bsA (by first | decide | (simp; done)) ?_
                      simp only [List.flatMap_cons, List.flatMap_nil, Value.cells, List.append_nil, List.cons_append, List.nil_append, List.length_cons, List.length_nil, Nat.zero_add, Nat.reduceAdd]
                      intro b56 hb56
                      try have n56_b3 : b3 ≠ b56 := ne_of_none hbA hb56
                      have f56_H : H b56 = none := none_of_le lhA hb56
                      try simp only [ev, Env.get, Option.getD_some, ↓reduceIte, Nat.reduceEqDiff, NextH, Env.putO, Env.put, ↓reduceIte, Nat.reduceEqDiff, upd_upd, Int.reduceToNat]
                      refine hK _ _ ?_; clear hK K
                      refine OW_op rfl (lt_some (by decide)) (fun K hK r => ?_)
                      simp only [x_assign, ev, Env.get, Option.getD_some, ↓reduceIte, Nat.reduceEqDiff, NextH, Env.putO, Env.put, ↓reduceIte, Nat.reduceEqDiff, upd_upd, Int.reduceToNat]
                      refine hK _ _ ?_; clear hK K
                      refine OW_nil ?_
                      try simp only [Ex.thnH, Ex.inBlockH, ↓reduceIte, Nat.reduceEqDiff]
                      refine hK18 _ _ ?_; try clear hK18 K18
                      refine CW_ret ?_
                      try simp only [Ex.thnH, Ex.inBlockH, ↓reduceIte, Nat.reduceEqDiff]
                      exact ⟨[_], ⟨rfl, trivial⟩, _, Le.refl _, lhA⟩
                  · first
                    | (exfalso; exact cnA c46; done)
                    | skip
                      (try simp only [decide_eq_true_eq, decide_eq_false_iff_not, Bool.not_eq_true, Bool.not_eq_false, Bool.and_eq_true, Bool.or_eq_true, Bool.or_eq_false_iff, Bool.not_eq_true, Bool.not_eq_eq_eq_not, Bool.not_true, Bool.not_false] at c46)
                      refine CW_skip ?_
                      try simp only [Ex.thnH, Ex.inBlockH, ↓reduceIte, Nat.reduceEqDiff]
                      refine hK2 _ _ ?_; try clear hK2 K2
                      refine CW_seq (fun K19 hK19 => ?_)
                      refine CW_region ?_
                      refine OW_op rfl (lt_some (by decide)) (fun K hK r => ?_)
                      simp only [x_move, ev, Env.get, Option.getD_some, ↓reduceIte, Nat.reduceEqDiff, NextH, Env.putO, Env.put, ↓reduceIte, Nat.reduceEqDiff, upd_upd, Int.reduceToNat]
                      refine hK _ _ ?_; clear hK K
                      refine OW_op rfl (lt_some (by decide)) (fun K hK r => ?_)
                      simp only [x_fieldAddr, fa51_2, add_mk, Nat.reduceAdd, Nat.zero_add, ev, Env.get, Option.getD_some, ↓reduceIte, Nat.reduceEqDiff, NextH, Env.putO, Env.put, ↓reduceIte, Nat.reduceEqDiff, upd_upd, Int.reduceToNat]
                      refine hK _ _ ?_; clear hK K
                      refine OW_op rfl (lt_some (by decide)) (fun K hK r => ?_)
                      simp only [x_load, ev, Env.get, Option.getD_some, ↓reduceIte, Nat.reduceEqDiff, NextH, Env.putO, Env.put, ↓reduceIte, Nat.reduceEqDiff, upd_upd, Int.reduceToNat]
                      refine Lt_loadAt1 Try.underlying22 rfl hbA ldA ?_
                      try simp only [ev, Env.get, Option.getD_some, ↓reduceIte, Nat.reduceEqDiff, NextH, Env.putO, Env.put, ↓reduceIte, Nat.reduceEqDiff, upd_upd, Int.reduceToNat]
                      refine hK _ _ ?_; clear hK K
                      refine OW_op rfl (lt_some (by decide)) (fun K hK r => ?_)
                      simp only [x_callF _ bd28, List.map_toArray, List.map_cons, List.map_nil, ev, Env.get, Option.getD_some, ↓reduceIte, Nat.reduceEqDiff, NextH, Env.putO, Env.put, ↓reduceIte, Nat.reduceEqDiff, upd_upd, Int.reduceToNat]
                      refine (wCount_nil _ u u2).mono ?_
                      rintro v60 H60 hl60
                      have lH60_H : Le H H60 := Le.trans lhA hl60
                      have k60_b3 := hl60 b3 _ hbA
                      try simp only [ev, Env.get, Option.getD_some, ↓reduceIte, Nat.reduceEqDiff, NextH, Env.putO, Env.put, ↓reduceIte, Nat.reduceEqDiff, upd_upd, Int.reduceToNat]
                      refine hK _ _ ?_; clear hK K
                      refine OW_nil ?_
                      try simp only [Ex.thnH, Ex.inBlockH, ↓reduceIte, Nat.reduceEqDiff]
                      refine hK19 _ _ ?_; try clear hK19 K19
                      refine CW_seq (fun K20 hK20 => ?_)
                      refine CW_region ?_
                      refine OW_op rfl (lt_some (by decide)) (fun K hK r => ?_)
                      simp only [x_fieldAddr, fa51_2, add_mk, Nat.reduceAdd, Nat.zero_add, ev, Env.get, Option.getD_some, ↓reduceIte, Nat.reduceEqDiff, NextH, Env.putO, Env.put, ↓reduceIte, Nat.reduceEqDiff, upd_upd, Int.reduceToNat]
                      refine hK _ _ ?_; clear hK K
                      refine OW_op rfl (lt_some (by decide)) (fun K hK r => ?_)
                      simp only [x_load, ev, Env.get, Option.getD_some, ↓reduceIte, Nat.reduceEqDiff, NextH, Env.putO, Env.put, ↓reduceIte, Nat.reduceEqDiff, upd_upd, Int.reduceToNat]
                      refine Lt_loadAt1 Try.underlying22 rfl hbA ldA ?_
                      try simp only [ev, Env.get, Option.getD_some, ↓reduceIte, Nat.reduceEqDiff, NextH, Env.putO, Env.put, ↓reduceIte, Nat.reduceEqDiff, upd_upd, Int.reduceToNat]
                      refine hK _ _ ?_; clear hK K
                      refine OW_op rfl (lt_some (by decide)) (fun K hK r => ?_)
                      simp only [x_callF _ bd22, List.map_toArray, List.map_cons, List.map_nil, ev, Env.get, Option.getD_some, ↓reduceIte, Nat.reduceEqDiff, NextH, Env.putO, Env.put, ↓reduceIte, Nat.reduceEqDiff, upd_upd, Int.reduceToNat]
                      refine (rfCount_ok _ u u2).mono ?_
                      rintro v63 H63 ⟨hl63, rs63, ho63, hr63⟩
                      have lH63_H : Le H H63 := Le.trans lhA hl63
                      try simp only [ev, Env.get, Option.getD_some, ↓reduceIte, Nat.reduceEqDiff, NextH, Env.putO, Env.put, ↓reduceIte, Nat.reduceEqDiff, upd_upd, Int.reduceToNat]
                      refine hK _ _ ?_; clear hK K
                      refine OW_op rfl (lt_some (by decide)) (fun K hK r => ?_)
                      simp only [x_assign, ev, Env.get, Option.getD_some, ↓reduceIte, Nat.reduceEqDiff, NextH, Env.putO, Env.put, ↓reduceIte, Nat.reduceEqDiff, upd_upd, Int.reduceToNat]
                      refine hK _ _ ?_; clear hK K
                      refine OW_nil ?_
                      try simp only [Ex.thnH, Ex.inBlockH, ↓reduceIte, Nat.reduceEqDiff]
                      refine hK20 _ _ ?_; try clear hK20 K20
                      refine CW_ret ?_
                      try simp only [Ex.thnH, Ex.inBlockH, ↓reduceIte, Nat.reduceEqDiff]
                      exact ⟨[_], ⟨rfl, trivial⟩, _, Le.refl _, lH63_H⟩

end Go.Proofs.Ytlbdmoikmomedaa.HL
