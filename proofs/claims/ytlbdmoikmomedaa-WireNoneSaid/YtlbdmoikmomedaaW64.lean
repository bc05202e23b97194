/- A part of the proof. -/
import Derived.Test.YtlbdmoikmomedaaW57
import Derived.Test.YtlbdmoikmomedaaW53a
import Derived.Test.YtlbdmoikmomedaaMdWB
namespace Go.Proofs.Ytlbdmoikmomedaa.HL
open Go Go.Proofs
set_option linter.unusedSimpArgs false
set_option linter.unusedVariables false
attribute [local irreducible] Lt Lq CW OW TW CallH

set_option maxRecDepth 100000 in
set_option maxHeartbeats 4000000 in
theorem read_okN (H0 H : Hp) (p pm : Nat) (l : List Int) (bad : Bool) (hst : ST H0 H p pm l bad) (hB : ByteL l) (hl : l.length ≤ 100000) (k : Int) : CallH Try.prog 13 #[.pointer (some ⟨p, 0, none⟩), .pointer (some ⟨pm, 0, none⟩), .int .i64 k] H (fun v H' => v = .bool true ∧ ∃ l' b', NX k bad l l' b' ∧ ST H0 H' p pm l' b') := by
  refine CallH_enter (l := [_, _, _]) (rl := [.tmp 6]) (n := 55) Try.func13 rfl rfl rfl rfl rfl ?_
  simp only [envOf, Nat.reduceAdd]
  obtain ⟨⟨a, cap, hrd, hsb⟩, hrm, hle, hp0, hm0, hne⟩ := id hst
  refine CW_seq (fun K1 hK1 => ?_)
  refine CW_region ?_
  refine OW_op rfl (lt_some (by decide)) (fun K hK r => ?_)
  simp only [x_assign, ev, Env.get, Option.getD_some, ↓reduceIte, Nat.reduceEqDiff, NextH, Env.putO, Env.put, ↓reduceIte, Nat.reduceEqDiff, upd_upd, Int.reduceToNat]
  refine hK _ _ ?_; clear hK K
  refine OW_nil ?_
  try simp only [Ex.thnH, Ex.inBlockH, ↓reduceIte, Nat.reduceEqDiff]
  refine hK1 _ _ ?_; try clear hK1 K1
  refine CW_seq (fun K2 hK2 => ?_)
  refine CW_seq (fun K3 hK3 => ?_)
  refine CW_region ?_
  refine OW_op rfl (lt_some (by decide)) (fun K hK r => ?_)
  simp only [x_move, ev, Env.get, Option.getD_some, ↓reduceIte, Nat.reduceEqDiff, NextH, Env.putO, Env.put, ↓reduceIte, Nat.reduceEqDiff, upd_upd, Int.reduceToNat]
  refine hK _ _ ?_; clear hK K
  refine OW_nil ?_
  try simp only [Ex.thnH, Ex.inBlockH, ↓reduceIte, Nat.reduceEqDiff]
  refine hK3 _ _ ?_; try clear hK3 K3
  refine CW_block ?_
  refine CW_seq (fun K4 hK4 => ?_)
  refine CW_region ?_
  refine OW_op rfl (lt_some (by decide)) (fun K hK r => ?_)
  simp (disch := (first | omega | decide)) only [x_bin, g_int, b_eql, dec_lt_t, dec_lt_f, dec_le_t, dec_le_f, dec_eq_t, dec_eq_f, Bool.not_true, Bool.not_false, ev, Env.get, Option.getD_some, ↓reduceIte, Nat.reduceEqDiff, NextH, Env.putO, Env.put, ↓reduceIte, Nat.reduceEqDiff, upd_upd, Int.reduceToNat]
  refine hK _ _ ?_; clear hK K
  refine OW_op rfl (lt_some (by decide)) (fun K hK r => ?_)
  simp only [x_assign, ev, Env.get, Option.getD_some, ↓reduceIte, Nat.reduceEqDiff, NextH, Env.putO, Env.put, ↓reduceIte, Nat.reduceEqDiff, upd_upd, Int.reduceToNat]
  refine hK _ _ ?_; clear hK K
  refine OW_nil ?_
  try simp only [Ex.thnH, Ex.inBlockH, ↓reduceIte, Nat.reduceEqDiff]
  refine hK4 _ _ ?_; try clear hK4 K4
  refine CW_cond (fun r => rfl) (fun c10 => ?_) (fun c10 => ?_)
  · first
    | (exfalso; exact cnA c10; done)
    | skip
      (try simp only [decide_eq_true_eq, decide_eq_false_iff_not, Bool.not_eq_true, Bool.not_eq_false, Bool.and_eq_true, Bool.or_eq_true, Bool.or_eq_false_iff, Bool.not_eq_true, Bool.not_eq_eq_eq_not, Bool.not_true, Bool.not_false] at c10)
      refine CW_seq (fun K5 hK5 => ?_)
      refine CW_region ?_
      refine OW_op rfl (lt_some (by decide)) (fun K hK r => ?_)
      simp only [x_move, ev, Env.get, Option.getD_some, ↓reduceIte, Nat.reduceEqDiff, NextH, Env.putO, Env.put, ↓reduceIte, Nat.reduceEqDiff, upd_upd, Int.reduceToNat]
      refine hK _ _ ?_; clear hK K
      refine OW_op rfl (lt_some (by decide)) (fun K hK r => ?_)
      simp only [x_callF _ bd29, List.map_toArray, List.map_cons, List.map_nil, ev, Env.get, Option.getD_some, ↓reduceIte, Nat.reduceEqDiff, NextH, Env.putO, Env.put, ↓reduceIte, Nat.reduceEqDiff, upd_upd, Int.reduceToNat]
      refine (rNum_all _ p a cap l bad hrd hB (by omega)).mono ?_
      rintro v13 H13 ⟨res, hres, rfl, a1, c1, hr1, ⟨o1, rfl⟩, hs1⟩
      try simp only [ev, Env.get, Option.getD_some, ↓reduceIte, Nat.reduceEqDiff, NextH, Env.putO, Env.put, ↓reduceIte, Nat.reduceEqDiff, upd_upd, Int.reduceToNat]
      refine hK _ _ ?_; clear hK K
      refine OW_op rfl (lt_some (by decide)) (fun K hK r => ?_)
      simp only [x_move, ev, Env.get, Option.getD_some, ↓reduceIte, Nat.reduceEqDiff, NextH, Env.putO, Env.put, ↓reduceIte, Nat.reduceEqDiff, upd_upd, Int.reduceToNat]
      refine hK _ _ ?_; clear hK K
      refine OW_op rfl (lt_some (by decide)) (fun K hK r => ?_)
      simp only [x_callF _ bd31, List.map_toArray, List.map_cons, List.map_nil, ev, Env.get, Option.getD_some, ↓reduceIte, Nat.reduceEqDiff, NextH, Env.putO, Env.put, ↓reduceIte, Nat.reduceEqDiff, upd_upd, Int.reduceToNat]
      refine (mNum_ok H0 _ pm l bad (hst.mid o1).1 (hst.mid o1).2 hm0 hB hl).mono ?_
      rintro v15 H15 ⟨res', hres', rfl, hm2, hk2⟩
      obtain rfl := hres.uniq hres'
      have hst2 := hst.step hsb hr1 hs1 hk2 hm2
      obtain ⟨np, hnp⟩ := hres.part
      try simp only [ev, Env.get, Option.getD_some, ↓reduceIte, Nat.reduceEqDiff, NextH, Env.putO, Env.put, ↓reduceIte, Nat.reduceEqDiff, upd_upd, Int.reduceToNat]
      refine hK _ _ ?_; clear hK K
      refine OW_op rfl (lt_some (by decide)) (fun K hK r => ?_)
      simp (disch := (first | omega | decide)) only [x_bin, g_int, b_eql, dec_lt_t, dec_lt_f, dec_le_t, dec_le_f, dec_eq_t, dec_eq_f, Bool.not_true, Bool.not_false, ev, Env.get, Option.getD_some, ↓reduceIte, Nat.reduceEqDiff, NextH, Env.putO, Env.put, ↓reduceIte, Nat.reduceEqDiff, upd_upd, Int.reduceToNat]
      refine hK _ _ ?_; clear hK K
      refine OW_op rfl (lt_some (by decide)) (fun K hK r => ?_)
      simp only [x_assign, ev, Env.get, Option.getD_some, ↓reduceIte, Nat.reduceEqDiff, NextH, Env.putO, Env.put, ↓reduceIte, Nat.reduceEqDiff, upd_upd, Int.reduceToNat]
      refine hK _ _ ?_; clear hK K
      refine OW_nil ?_
      try simp only [Ex.thnH, Ex.inBlockH, ↓reduceIte, Nat.reduceEqDiff]
      refine hK5 _ _ ?_; try clear hK5 K5
      refine CW_ret ?_
      try simp only [Ex.thnH, Ex.inBlockH, ↓reduceIte, Nat.reduceEqDiff]
      refine ⟨[_], ⟨rfl, trivial⟩, _, Le.refl _, by simp [retOf], _, _, ?_, hst2⟩
      exact .inr (.inr (.inr ⟨by omega, by omega, by omega, by omega, res, hres, rfl, rfl⟩))
  · first
    | (exfalso; exact cnA c10; done)
    | skip
      (try simp only [decide_eq_true_eq, decide_eq_false_iff_not, Bool.not_eq_true, Bool.not_eq_false, Bool.and_eq_true, Bool.or_eq_true, Bool.or_eq_false_iff, Bool.not_eq_true, Bool.not_eq_eq_eq_not, Bool.not_true, Bool.not_false] at c10)
      refine CW_seq (fun K6 hK6 => ?_)
      refine CW_region ?_
      refine OW_op rfl (lt_some (by decide)) (fun K hK r => ?_)
      simp (disch := (first | omega | decide)) only [x_bin, g_int, b_eql, dec_lt_t, dec_lt_f, dec_le_t, dec_le_f, dec_eq_t, dec_eq_f, Bool.not_true, Bool.not_false, ev, Env.get, Option.getD_some, ↓reduceIte, Nat.reduceEqDiff, NextH, Env.putO, Env.put, ↓reduceIte, Nat.reduceEqDiff, upd_upd, Int.reduceToNat]
      refine hK _ _ ?_; clear hK K
      refine OW_op rfl (lt_some (by decide)) (fun K hK r => ?_)
      simp only [x_assign, ev, Env.get, Option.getD_some, ↓reduceIte, Nat.reduceEqDiff, NextH, Env.putO, Env.put, ↓reduceIte, Nat.reduceEqDiff, upd_upd, Int.reduceToNat]
      refine hK _ _ ?_; clear hK K
      refine OW_nil ?_
      try simp only [Ex.thnH, Ex.inBlockH, ↓reduceIte, Nat.reduceEqDiff]
      refine hK6 _ _ ?_; try clear hK6 K6
      refine CW_cond (fun r => rfl) (fun c17 => ?_) (fun c17 => ?_)
      · first
        | (exfalso; exact cnA c17; done)
        | skip
          (try simp only [decide_eq_true_eq, decide_eq_false_iff_not, Bool.not_eq_true, Bool.not_eq_false, Bool.and_eq_true, Bool.or_eq_true, Bool.or_eq_false_iff, Bool.not_eq_true, Bool.not_eq_eq_eq_not, Bool.not_true, Bool.not_false] at c17)
          refine CW_seq (fun K7 hK7 => ?_)
          refine CW_region ?_
          refine OW_op rfl (lt_some (by decide)) (fun K hK r => ?_)
          simp only [x_move, ev, Env.get, Option.getD_some, ↓reduceIte, Nat.reduceEqDiff, NextH, Env.putO, Env.put, ↓reduceIte, Nat.reduceEqDiff, upd_upd, Int.reduceToNat]
          refine hK _ _ ?_; clear hK K
          refine OW_op rfl (lt_some (by decide)) (fun K hK r => ?_)
          simp only [x_callF _ bd32, List.map_toArray, List.map_cons, List.map_nil, ev, Env.get, Option.getD_some, ↓reduceIte, Nat.reduceEqDiff, NextH, Env.putO, Env.put, ↓reduceIte, Nat.reduceEqDiff, upd_upd, Int.reduceToNat]
          refine (rFlag_ok _ p a cap l bad hrd hB (by omega)).mono ?_
          rintro v20 H20 ⟨rfl, ⟨o1, rfl⟩, a1, c1, hr1, hs1⟩
          try simp only [ev, Env.get, Option.getD_some, ↓reduceIte, Nat.reduceEqDiff, NextH, Env.putO, Env.put, ↓reduceIte, Nat.reduceEqDiff, upd_upd, Int.reduceToNat]
          refine hK _ _ ?_; clear hK K
          refine OW_op rfl (lt_some (by decide)) (fun K hK r => ?_)
          simp only [x_move, ev, Env.get, Option.getD_some, ↓reduceIte, Nat.reduceEqDiff, NextH, Env.putO, Env.put, ↓reduceIte, Nat.reduceEqDiff, upd_upd, Int.reduceToNat]
          refine hK _ _ ?_; clear hK K
          refine OW_op rfl (lt_some (by decide)) (fun K hK r => ?_)
          simp only [x_callF _ bd33, List.map_toArray, List.map_cons, List.map_nil, ev, Env.get, Option.getD_some, ↓reduceIte, Nat.reduceEqDiff, NextH, Env.putO, Env.put, ↓reduceIte, Nat.reduceEqDiff, upd_upd, Int.reduceToNat]
          refine (mFlag_ok H0 _ pm l bad (hst.mid o1).1 (hst.mid o1).2 hm0 hB hl).mono ?_
          rintro v22 H22 ⟨rfl, hm2, hk2⟩
          have hst2 := hst.step hsb hr1 hs1 hk2 hm2
          obtain ⟨np, hnp⟩ := flL_part l
          try simp only [ev, Env.get, Option.getD_some, ↓reduceIte, Nat.reduceEqDiff, NextH, Env.putO, Env.put, ↓reduceIte, Nat.reduceEqDiff, upd_upd, Int.reduceToNat]
          refine hK _ _ ?_; clear hK K
          refine OW_op rfl (lt_some (by decide)) (fun K hK r => ?_)
          simp only [x_bin, g_int, g_bool, g_string, g_pointer, g_slice, g_map, g_func, g_nilFunc, g_iface, g_nil_iface, g_nil_r, g_nil_l, ev, Env.get, Option.getD_some, ↓reduceIte, Nat.reduceEqDiff, NextH, Env.putO, Env.put, ↓reduceIte, Nat.reduceEqDiff, upd_upd, Int.reduceToNat]
          rw [e_eql _ _ _ _ (by simp)]
          rw [q_equal, q_bool _ _ Try.underlying4]
          try simp only [ev, Env.get, Option.getD_some, ↓reduceIte, Nat.reduceEqDiff, NextH, Env.putO, Env.put, ↓reduceIte, Nat.reduceEqDiff, upd_upd, Int.reduceToNat]
          refine hK _ _ ?_; clear hK K
          refine OW_op rfl (lt_some (by decide)) (fun K hK r => ?_)
          simp only [x_assign, ev, Env.get, Option.getD_some, ↓reduceIte, Nat.reduceEqDiff, NextH, Env.putO, Env.put, ↓reduceIte, Nat.reduceEqDiff, upd_upd, Int.reduceToNat]
          refine hK _ _ ?_; clear hK K
          refine OW_nil ?_
          try simp only [Ex.thnH, Ex.inBlockH, ↓reduceIte, Nat.reduceEqDiff]
          refine hK7 _ _ ?_; try clear hK7 K7
          refine CW_ret ?_
          try simp only [Ex.thnH, Ex.inBlockH, ↓reduceIte, Nat.reduceEqDiff]
          refine ⟨[_], ⟨rfl, trivial⟩, _, Le.refl _, by simp [retOf], _, _, ?_, hst2⟩
          exact .inl ⟨by assumption, rfl, rfl⟩
      · first
        | (exfalso; exact cnA c17; done)
        | skip
          (try simp only [decide_eq_true_eq, decide_eq_false_iff_not, Bool.not_eq_true, Bool.not_eq_false, Bool.and_eq_true, Bool.or_eq_true, Bool.or_eq_false_iff, Bool.not_eq_true, Bool.not_eq_eq_eq_not, Bool.not_true, Bool.not_false] at c17)
          refine CW_seq (fun K8 hK8 => ?_)
          refine CW_region ?_
          refine OW_op rfl (lt_some (by decide)) (fun K hK r => ?_)
          simp (disch := (first | omega | decide)) only [x_bin, g_int, b_eql, dec_lt_t, dec_lt_f, dec_le_t, dec_le_f, dec_eq_t, dec_eq_f, Bool.not_true, Bool.not_false, ev, Env.get, Option.getD_some, ↓reduceIte, Nat.reduceEqDiff, NextH, Env.putO, Env.put, ↓reduceIte, Nat.reduceEqDiff, upd_upd, Int.reduceToNat]
          refine hK _ _ ?_; clear hK K
          refine OW_op rfl (lt_some (by decide)) (fun K hK r => ?_)
          simp only [x_assign, ev, Env.get, Option.getD_some, ↓reduceIte, Nat.reduceEqDiff, NextH, Env.putO, Env.put, ↓reduceIte, Nat.reduceEqDiff, upd_upd, Int.reduceToNat]
          refine hK _ _ ?_; clear hK K
          refine OW_nil ?_
          try simp only [Ex.thnH, Ex.inBlockH, ↓reduceIte, Nat.reduceEqDiff]
          refine hK8 _ _ ?_; try clear hK8 K8
          refine CW_cond (fun r => rfl) (fun c24 => ?_) (fun c24 => ?_)
          · first
            | (exfalso; exact cnA c24; done)
            | skip
              (try simp only [decide_eq_true_eq, decide_eq_false_iff_not, Bool.not_eq_true, Bool.not_eq_false, Bool.and_eq_true, Bool.or_eq_true, Bool.or_eq_false_iff, Bool.not_eq_true, Bool.not_eq_eq_eq_not, Bool.not_true, Bool.not_false] at c24)
              refine CW_seq (fun K9 hK9 => ?_)
              refine CW_region ?_
              refine OW_op rfl (lt_some (by decide)) (fun K hK r => ?_)
              simp only [x_move, ev, Env.get, Option.getD_some, ↓reduceIte, Nat.reduceEqDiff, NextH, Env.putO, Env.put, ↓reduceIte, Nat.reduceEqDiff, upd_upd, Int.reduceToNat]
              refine hK _ _ ?_; clear hK K
              refine OW_op rfl (lt_some (by decide)) (fun K hK r => ?_)
              simp only [x_callF _ bd34, List.map_toArray, List.map_cons, List.map_nil, ev, Env.get, Option.getD_some, ↓reduceIte, Nat.reduceEqDiff, NextH, Env.putO, Env.put, ↓reduceIte, Nat.reduceEqDiff, upd_upd, Int.reduceToNat]
              refine (rBytes_ok _ p a cap l bad hrd hB (by omega)).mono ?_
              rintro v27 H27 ⟨res, hres, ⟨o1, rfl⟩, a1, c1, a0, c0, hr1, hs1, rfl, hv1, hpos⟩
              obtain ⟨hbB, hbl⟩ := bsV_part hres hB
              try simp only [ev, Env.get, Option.getD_some, ↓reduceIte, Nat.reduceEqDiff, NextH, Env.putO, Env.put, ↓reduceIte, Nat.reduceEqDiff, upd_upd, Int.reduceToNat]
              refine hK _ _ ?_; clear hK K
              refine OW_op rfl (lt_some (by decide)) (fun K hK r => ?_)
              simp only [x_assign, ev, Env.get, Option.getD_some, ↓reduceIte, Nat.reduceEqDiff, NextH, Env.putO, Env.put, ↓reduceIte, Nat.reduceEqDiff, upd_upd, Int.reduceToNat]
              refine hK _ _ ?_; clear hK K
              refine OW_nil ?_
              try simp only [Ex.thnH, Ex.inBlockH, ↓reduceIte, Nat.reduceEqDiff]
              refine hK9 _ _ ?_; try clear hK9 K9
              refine CW_seq (fun K10 hK10 => ?_)
              refine CW_region ?_
              refine OW_op rfl (lt_some (by decide)) (fun K hK r => ?_)
              simp only [x_move, ev, Env.get, Option.getD_some, ↓reduceIte, Nat.reduceEqDiff, NextH, Env.putO, Env.put, ↓reduceIte, Nat.reduceEqDiff, upd_upd, Int.reduceToNat]
              refine hK _ _ ?_; clear hK K
              refine OW_op rfl (lt_some (by decide)) (fun K hK r => ?_)
              simp only [x_move, ev, Env.get, Option.getD_some, ↓reduceIte, Nat.reduceEqDiff, NextH, Env.putO, Env.put, ↓reduceIte, Nat.reduceEqDiff, upd_upd, Int.reduceToNat]
              refine hK _ _ ?_; clear hK K
              refine OW_op rfl (lt_some (by decide)) (fun K hK r => ?_)
              simp only [x_callF _ bd35, List.map_toArray, List.map_cons, List.map_nil, ev, Env.get, Option.getD_some, ↓reduceIte, Nat.reduceEqDiff, NextH, Env.putO, Env.put, ↓reduceIte, Nat.reduceEqDiff, upd_upd, Int.reduceToNat]
              refine (mBytes_ok H0 _ pm l bad (hst.mid o1).1 (hst.mid o1).2 hm0 hB hl).mono ?_
              rintro v30 H30 ⟨res', hres', hv2, hm2, hk2⟩
              obtain rfl := hres.uniq hres'
              have hst2 := hst.step hsb hr1 hs1 hk2 hm2
              obtain ⟨np, hnp⟩ := bsL_part hres
              have hv1' : Holds H30 1 (.slice a0 (bsV res).length c0) (bsV res).length (u8s (bsV res)) := by
                by_cases h0 : bsV res = []
                · rw [h0]; exact ⟨rfl, .inl ⟨_, _, rfl, rfl⟩⟩
                · exact hv1.keepA fun A o' hA ho => hk2 _ _ ho ((hsb.same (hpos h0).1) A hA).2.2.1
              try simp only [ev, Env.get, Option.getD_some, ↓reduceIte, Nat.reduceEqDiff, NextH, Env.putO, Env.put, ↓reduceIte, Nat.reduceEqDiff, upd_upd, Int.reduceToNat]
              refine hK _ _ ?_; clear hK K
              refine OW_op rfl (lt_some (by decide)) (fun K hK r => ?_)
              simp only [x_callF _ bd24, List.map_toArray, List.map_cons, List.map_nil, ev, Env.get, Option.getD_some, ↓reduceIte, Nat.reduceEqDiff, NextH, Env.putO, Env.put, ↓reduceIte, Nat.reduceEqDiff, upd_upd, Int.reduceToNat]
              refine (num_Same _ _ _ _ _ _ _ hv1' hv2 hbB hbB).mono ?_
              rintro v31 H31 ⟨rfl, hH31⟩
              have hH31 := hH31.symm; subst hH31
              try simp only [ev, Env.get, Option.getD_some, ↓reduceIte, Nat.reduceEqDiff, NextH, Env.putO, Env.put, ↓reduceIte, Nat.reduceEqDiff, upd_upd, Int.reduceToNat]
              refine hK _ _ ?_; clear hK K
              refine OW_op rfl (lt_some (by decide)) (fun K hK r => ?_)
              simp only [x_assign, ev, Env.get, Option.getD_some, ↓reduceIte, Nat.reduceEqDiff, NextH, Env.putO, Env.put, ↓reduceIte, Nat.reduceEqDiff, upd_upd, Int.reduceToNat]
              refine hK _ _ ?_; clear hK K
              refine OW_nil ?_
              try simp only [Ex.thnH, Ex.inBlockH, ↓reduceIte, Nat.reduceEqDiff]
              refine hK10 _ _ ?_; try clear hK10 K10
              refine CW_seq (fun K11 hK11 => ?_)
              refine CW_region ?_
              refine OW_op rfl (lt_some (by decide)) (fun K hK r => ?_)
              simp only [x_move, ev, Env.get, Option.getD_some, ↓reduceIte, Nat.reduceEqDiff, NextH, Env.putO, Env.put, ↓reduceIte, Nat.reduceEqDiff, upd_upd, Int.reduceToNat]
              refine hK _ _ ?_; clear hK K
              refine OW_op rfl (lt_some (by decide)) (fun K hK r => ?_)
              simp only [x_callF _ bd12, List.map_toArray, List.map_cons, List.map_nil, ev, Env.get, Option.getD_some, ↓reduceIte, Nat.reduceEqDiff, NextH, Env.putO, Env.put, ↓reduceIte, Nat.reduceEqDiff, upd_upd, Int.reduceToNat]
              have hblk : bsV res ≠ [] → ∃ B o c, a0 = some ⟨B, o, none⟩ ∧ H30 B = some (.cells c 5) := fun h0 => by
                obtain ⟨hs0, B, o, e0, _⟩ := hpos h0
                obtain ⟨h1, h2, h3, c, h4⟩ := (hsb.same hs0) _ e0
                exact ⟨B, o, c, e0, hk2 _ _ (by rw [upd_ne _ _ h2]; exact h4) h3⟩
              refine (over_part _ a0 c0 _ hv1' (by omega) hblk).mono ?_
              rintro v33 H33 hov
              have hst3 : ST H0 H33 p pm (bsL res) (bsB res) := by
                rcases hov with ⟨_, rfl⟩ | ⟨h0, B, o, c, c', e0, hB0, rfl, hsz, hout⟩
                · exact hst2
                · · obtain ⟨hs0, B', o', e0', hp2⟩ := hpos h0
                    have : B' = B ∧ o' = o := by rw [e0] at e0'; cases e0'; exact ⟨rfl, rfl⟩
                    obtain ⟨rfl, rfl⟩ := this
                    obtain ⟨h1, h2, h3, c2, h4⟩ := (hsb.same hs0) _ e0
                    have hr3 : RD H30 p a1 c1 (bsL res) (bsB res) := hr1.keep (fun o' ho => hk2 _ _ ho hne) (fun A o' hA ho => hk2 _ _ ho ((hsb.same hs1) A hA).2.2.1)
                    have hs3 : SBk H0 H30 p pm a1 := fun A hA => by
                      obtain ⟨g1, g2, g3, c3, g4⟩ := (hsb.same hs1) A hA
                      exact ⟨g1, g2, g3, c3, hk2 _ _ (by rw [upd_ne _ _ g2]; exact g4) g3⟩
                    exact hst2.over hB0 hsz hout h1 h2 h3 hr3 hs3 hp2
              try simp only [ev, Env.get, Option.getD_some, ↓reduceIte, Nat.reduceEqDiff, NextH, Env.putO, Env.put, ↓reduceIte, Nat.reduceEqDiff, upd_upd, Int.reduceToNat]
              refine hK _ _ ?_; clear hK K
              refine OW_nil ?_
              try simp only [Ex.thnH, Ex.inBlockH, ↓reduceIte, Nat.reduceEqDiff]
              refine hK11 _ _ ?_; try clear hK11 K11
              refine CW_seq (fun K12 hK12 => ?_)
              refine CW_region ?_
              refine OW_op rfl (lt_some (by decide)) (fun K hK r => ?_)
              simp only [x_move, ev, Env.get, Option.getD_some, ↓reduceIte, Nat.reduceEqDiff, NextH, Env.putO, Env.put, ↓reduceIte, Nat.reduceEqDiff, upd_upd, Int.reduceToNat]
              refine hK _ _ ?_; clear hK K
              refine OW_op rfl (lt_some (by decide)) (fun K hK r => ?_)
              simp only [x_assign, ev, Env.get, Option.getD_some, ↓reduceIte, Nat.reduceEqDiff, NextH, Env.putO, Env.put, ↓reduceIte, Nat.reduceEqDiff, upd_upd, Int.reduceToNat]
              refine hK _ _ ?_; clear hK K
              refine OW_nil ?_
              try simp only [Ex.thnH, Ex.inBlockH, ↓reduceIte, Nat.reduceEqDiff]
              refine hK12 _ _ ?_; try clear hK12 K12
              refine CW_ret ?_
              try simp only [Ex.thnH, Ex.inBlockH, ↓reduceIte, Nat.reduceEqDiff]
              refine ⟨[_], ⟨rfl, trivial⟩, _, Le.refl _, by simp [retOf], _, _, ?_, hst3⟩
              exact .inr (.inr (.inl ⟨.inl (by assumption), res, hres, rfl, rfl⟩))
          · first
            | (exfalso; exact cnA c24; done)
            | skip
              (try simp only [decide_eq_true_eq, decide_eq_false_iff_not, Bool.not_eq_true, Bool.not_eq_false, Bool.and_eq_true, Bool.or_eq_true, Bool.or_eq_false_iff, Bool.not_eq_true, Bool.not_eq_eq_eq_not, Bool.not_true, Bool.not_false] at c24)
              refine CW_seq (fun K13 hK13 => ?_)
              refine CW_region ?_
              refine OW_op rfl (lt_some (by decide)) (fun K hK r => ?_)
              simp (disch := (first | omega | decide)) only [x_bin, g_int, b_eql, dec_lt_t, dec_lt_f, dec_le_t, dec_le_f, dec_eq_t, dec_eq_f, Bool.not_true, Bool.not_false, ev, Env.get, Option.getD_some, ↓reduceIte, Nat.reduceEqDiff, NextH, Env.putO, Env.put, ↓reduceIte, Nat.reduceEqDiff, upd_upd, Int.reduceToNat]
              refine hK _ _ ?_; clear hK K
              refine OW_op rfl (lt_some (by decide)) (fun K hK r => ?_)
              simp only [x_assign, ev, Env.get, Option.getD_some, ↓reduceIte, Nat.reduceEqDiff, NextH, Env.putO, Env.put, ↓reduceIte, Nat.reduceEqDiff, upd_upd, Int.reduceToNat]
              refine hK _ _ ?_; clear hK K
              refine OW_nil ?_
              try simp only [Ex.thnH, Ex.inBlockH, ↓reduceIte, Nat.reduceEqDiff]
              refine hK13 _ _ ?_; try clear hK13 K13
              refine CW_cond (fun r => rfl) (fun c35 => ?_) (fun c35 => ?_)
              · first
                | (exfalso; exact cnA c35; done)
                | skip
                  (try simp only [decide_eq_true_eq, decide_eq_false_iff_not, Bool.not_eq_true, Bool.not_eq_false, Bool.and_eq_true, Bool.or_eq_true, Bool.or_eq_false_iff, Bool.not_eq_true, Bool.not_eq_eq_eq_not, Bool.not_true, Bool.not_false] at c35)
                  refine CW_seq (fun K14 hK14 => ?_)
                  refine CW_region ?_
                  refine OW_op rfl (lt_some (by decide)) (fun K hK r => ?_)
                  simp only [x_move, ev, Env.get, Option.getD_some, ↓reduceIte, Nat.reduceEqDiff, NextH, Env.putO, Env.put, ↓reduceIte, Nat.reduceEqDiff, upd_upd, Int.reduceToNat]
                  refine hK _ _ ?_; clear hK K
                  refine OW_op rfl (lt_some (by decide)) (fun K hK r => ?_)
                  simp only [x_callF _ bd36, List.map_toArray, List.map_cons, List.map_nil, ev, Env.get, Option.getD_some, ↓reduceIte, Nat.reduceEqDiff, NextH, Env.putO, Env.put, ↓reduceIte, Nat.reduceEqDiff, upd_upd, Int.reduceToNat]
                  refine (rText_ok _ p a cap l bad hrd hB (by omega)).mono ?_
                  rintro v38 H38 ⟨res, hres, ⟨o1, rfl⟩, rfl, a1, c1, hr1, hs1⟩
                  obtain ⟨hbB, hbl⟩ := bsV_part hres hB
                  try simp only [ev, Env.get, Option.getD_some, ↓reduceIte, Nat.reduceEqDiff, NextH, Env.putO, Env.put, ↓reduceIte, Nat.reduceEqDiff, upd_upd, Int.reduceToNat]
                  refine hK _ _ ?_; clear hK K
                  refine OW_op rfl (lt_some (by decide)) (fun K hK r => ?_)
                  simp only [x_move, ev, Env.get, Option.getD_some, ↓reduceIte, Nat.reduceEqDiff, NextH, Env.putO, Env.put, ↓reduceIte, Nat.reduceEqDiff, upd_upd, Int.reduceToNat]
                  refine hK _ _ ?_; clear hK K
                  refine OW_op rfl (lt_some (by decide)) (fun K hK r => ?_)
                  simp only [x_callF _ bd35, List.map_toArray, List.map_cons, List.map_nil, ev, Env.get, Option.getD_some, ↓reduceIte, Nat.reduceEqDiff, NextH, Env.putO, Env.put, ↓reduceIte, Nat.reduceEqDiff, upd_upd, Int.reduceToNat]
                  refine (mBytes_ok H0 _ pm l bad (hst.mid o1).1 (hst.mid o1).2 hm0 hB hl).mono ?_
                  rintro v40 H40 ⟨res', hres', hv2, hm2, hk2⟩
                  obtain rfl := hres.uniq hres'
                  have hst2 := hst.step hsb hr1 hs1 hk2 hm2
                  obtain ⟨np, hnp⟩ := bsL_part hres
                  try simp only [ev, Env.get, Option.getD_some, ↓reduceIte, Nat.reduceEqDiff, NextH, Env.putO, Env.put, ↓reduceIte, Nat.reduceEqDiff, upd_upd, Int.reduceToNat]
                  refine hK _ _ ?_; clear hK K
                  refine OW_op rfl (lt_some (by decide)) (fun K hK r => ?_)
                  simp only [x_convert, ev, Env.get, Option.getD_some, ↓reduceIte, Nat.reduceEqDiff, NextH, Env.putO, Env.put, ↓reduceIte, Nat.reduceEqDiff, upd_upd, Int.reduceToNat]
                  refine Lt_convBS Try.underlying27 Try.underlying5 Try.underlying9 hv2 ?_
                  refine hK _ _ ?_; clear hK K
                  refine OW_op rfl (lt_some (by decide)) (fun K hK r => ?_)
                  simp only [x_bin, g_string, b_seql, ev, Env.get, Option.getD_some, ↓reduceIte, Nat.reduceEqDiff, NextH, Env.putO, Env.put, ↓reduceIte, Nat.reduceEqDiff, upd_upd, Int.reduceToNat]
                  refine hK _ _ ?_; clear hK K
                  refine OW_op rfl (lt_some (by decide)) (fun K hK r => ?_)
                  simp only [x_assign, ev, Env.get, Option.getD_some, ↓reduceIte, Nat.reduceEqDiff, NextH, Env.putO, Env.put, ↓reduceIte, Nat.reduceEqDiff, upd_upd, Int.reduceToNat]
                  refine hK _ _ ?_; clear hK K
                  refine OW_nil ?_
                  try simp only [Ex.thnH, Ex.inBlockH, ↓reduceIte, Nat.reduceEqDiff]
                  refine hK14 _ _ ?_; try clear hK14 K14
                  refine CW_ret ?_
                  try simp only [Ex.thnH, Ex.inBlockH, ↓reduceIte, Nat.reduceEqDiff]
                  refine ⟨[_], ⟨rfl, trivial⟩, _, Le.refl _, by simp [retOf], _, _, ?_, hst2⟩
                  exact .inr (.inr (.inl ⟨.inr (by assumption), res, hres, rfl, rfl⟩))
              · first
                | (exfalso; exact cnA c35; done)
                | skip
                  (try simp only [decide_eq_true_eq, decide_eq_false_iff_not, Bool.not_eq_true, Bool.not_eq_false, Bool.and_eq_true, Bool.or_eq_true, Bool.or_eq_false_iff, Bool.not_eq_true, Bool.not_eq_eq_eq_not, Bool.not_true, Bool.not_false] at c35)
                  refine CW_seq (fun K15 hK15 => ?_)
                  refine CW_region ?_
                  refine OW_op rfl (lt_some (by decide)) (fun K hK r => ?_)
                  simp (disch := (first | omega | decide)) only [x_bin, g_int, b_eql, dec_lt_t, dec_lt_f, dec_le_t, dec_le_f, dec_eq_t, dec_eq_f, Bool.not_true, Bool.not_false, ev, Env.get, Option.getD_some, ↓reduceIte, Nat.reduceEqDiff, NextH, Env.putO, Env.put, ↓reduceIte, Nat.reduceEqDiff, upd_upd, Int.reduceToNat]
                  refine hK _ _ ?_; clear hK K
                  refine OW_op rfl (lt_some (by decide)) (fun K hK r => ?_)
                  simp only [x_assign, ev, Env.get, Option.getD_some, ↓reduceIte, Nat.reduceEqDiff, NextH, Env.putO, Env.put, ↓reduceIte, Nat.reduceEqDiff, upd_upd, Int.reduceToNat]
                  refine hK _ _ ?_; clear hK K
                  refine OW_nil ?_
                  try simp only [Ex.thnH, Ex.inBlockH, ↓reduceIte, Nat.reduceEqDiff]
                  refine hK15 _ _ ?_; try clear hK15 K15
                  refine CW_cond (fun r => rfl) (fun c43 => ?_) (fun c43 => ?_)
                  · first
                    | (exfalso; exact cnA c43; done)
                    | skip
                      (try simp only [decide_eq_true_eq, decide_eq_false_iff_not, Bool.not_eq_true, Bool.not_eq_false, Bool.and_eq_true, Bool.or_eq_true, Bool.or_eq_false_iff, Bool.not_eq_true, Bool.not_eq_eq_eq_not, Bool.not_true, Bool.not_false] at c43)
                      refine CW_seq (fun K16 hK16 => ?_)
                      refine CW_region ?_
                      refine OW_op rfl (lt_some (by decide)) (fun K hK r => ?_)
                      simp only [x_move, ev, Env.get, Option.getD_some, ↓reduceIte, Nat.reduceEqDiff, NextH, Env.putO, Env.put, ↓reduceIte, Nat.reduceEqDiff, upd_upd, Int.reduceToNat]
                      refine hK _ _ ?_; clear hK K
                      refine OW_op rfl (lt_some (by decide)) (fun K hK r => ?_)
                      simp only [x_callF _ bd37, List.map_toArray, List.map_cons, List.map_nil, ev, Env.get, Option.getD_some, ↓reduceIte, Nat.reduceEqDiff, NextH, Env.putO, Env.put, ↓reduceIte, Nat.reduceEqDiff, upd_upd, Int.reduceToNat]
                      refine (rByte_ok _ p a cap l bad hrd hB (by omega)).mono ?_
                      rintro v46 H46 ⟨rfl, ⟨o1, rfl⟩, a1, c1, hr1, hs1⟩
                      try simp only [ev, Env.get, Option.getD_some, ↓reduceIte, Nat.reduceEqDiff, NextH, Env.putO, Env.put, ↓reduceIte, Nat.reduceEqDiff, upd_upd, Int.reduceToNat]
                      refine hK _ _ ?_; clear hK K
                      refine OW_op rfl (lt_some (by decide)) (fun K hK r => ?_)
                      simp only [x_move, ev, Env.get, Option.getD_some, ↓reduceIte, Nat.reduceEqDiff, NextH, Env.putO, Env.put, ↓reduceIte, Nat.reduceEqDiff, upd_upd, Int.reduceToNat]
                      refine hK _ _ ?_; clear hK K
                      refine OW_op rfl (lt_some (by decide)) (fun K hK r => ?_)
                      simp only [x_callF _ bd38, List.map_toArray, List.map_cons, List.map_nil, ev, Env.get, Option.getD_some, ↓reduceIte, Nat.reduceEqDiff, NextH, Env.putO, Env.put, ↓reduceIte, Nat.reduceEqDiff, upd_upd, Int.reduceToNat]
                      refine (mByte_ok H0 _ pm l bad (hst.mid o1).1 (hst.mid o1).2 hm0 hB hl).mono ?_
                      rintro v48 H48 ⟨rfl, hm2, hk2⟩
                      have hst2 := hst.step hsb hr1 hs1 hk2 hm2
                      try simp only [ev, Env.get, Option.getD_some, ↓reduceIte, Nat.reduceEqDiff, NextH, Env.putO, Env.put, ↓reduceIte, Nat.reduceEqDiff, upd_upd, Int.reduceToNat]
                      refine hK _ _ ?_; clear hK K
                      refine OW_op rfl (lt_some (by decide)) (fun K hK r => ?_)
                      simp (disch := (first | omega | decide)) only [x_bin, g_int, b_eql, dec_lt_t, dec_lt_f, dec_le_t, dec_le_f, dec_eq_t, dec_eq_f, Bool.not_true, Bool.not_false, ev, Env.get, Option.getD_some, ↓reduceIte, Nat.reduceEqDiff, NextH, Env.putO, Env.put, ↓reduceIte, Nat.reduceEqDiff, upd_upd, Int.reduceToNat]
                      refine hK _ _ ?_; clear hK K
                      refine OW_op rfl (lt_some (by decide)) (fun K hK r => ?_)
                      simp only [x_assign, ev, Env.get, Option.getD_some, ↓reduceIte, Nat.reduceEqDiff, NextH, Env.putO, Env.put, ↓reduceIte, Nat.reduceEqDiff, upd_upd, Int.reduceToNat]
                      refine hK _ _ ?_; clear hK K
                      refine OW_nil ?_
                      try simp only [Ex.thnH, Ex.inBlockH, ↓reduceIte, Nat.reduceEqDiff]
                      refine hK16 _ _ ?_; try clear hK16 K16
                      refine CW_ret ?_
                      try simp only [Ex.thnH, Ex.inBlockH, ↓reduceIte, Nat.reduceEqDiff]
                      refine ⟨[_], ⟨rfl, trivial⟩, _, Le.refl _, by simp [retOf], _, _, ?_, hst2⟩
                      exact .inr (.inl ⟨by assumption, rfl, rfl⟩)
                  · first
                    | (exfalso; exact cnA c43; done)
                    | skip
                      (try simp only [decide_eq_true_eq, decide_eq_false_iff_not, Bool.not_eq_true, Bool.not_eq_false, Bool.and_eq_true, Bool.or_eq_true, Bool.or_eq_false_iff, Bool.not_eq_true, Bool.not_eq_eq_eq_not, Bool.not_true, Bool.not_false] at c43)
                      refine CW_skip ?_
                      try simp only [Ex.thnH, Ex.inBlockH, ↓reduceIte, Nat.reduceEqDiff]
                      refine hK2 _ _ ?_; try clear hK2 K2
                      refine CW_seq (fun K17 hK17 => ?_)
                      refine CW_region ?_
                      refine OW_op rfl (lt_some (by decide)) (fun K hK r => ?_)
                      simp only [x_move, ev, Env.get, Option.getD_some, ↓reduceIte, Nat.reduceEqDiff, NextH, Env.putO, Env.put, ↓reduceIte, Nat.reduceEqDiff, upd_upd, Int.reduceToNat]
                      refine hK _ _ ?_; clear hK K
                      refine OW_op rfl (lt_some (by decide)) (fun K hK r => ?_)
                      simp only [x_callF _ bd26, List.map_toArray, List.map_cons, List.map_nil, ev, Env.get, Option.getD_some, ↓reduceIte, Nat.reduceEqDiff, NextH, Env.putO, Env.put, ↓reduceIte, Nat.reduceEqDiff, upd_upd, Int.reduceToNat]
                      refine (rCount_all _ p a cap l bad hrd hB (by omega)).mono ?_
                      rintro v51 H51 ⟨res, hres, rfl, a1, c1, hr1, ⟨o1, rfl⟩, hs1⟩
                      try simp only [ev, Env.get, Option.getD_some, ↓reduceIte, Nat.reduceEqDiff, NextH, Env.putO, Env.put, ↓reduceIte, Nat.reduceEqDiff, upd_upd, Int.reduceToNat]
                      refine hK _ _ ?_; clear hK K
                      refine OW_op rfl (lt_some (by decide)) (fun K hK r => ?_)
                      simp only [x_move, ev, Env.get, Option.getD_some, ↓reduceIte, Nat.reduceEqDiff, NextH, Env.putO, Env.put, ↓reduceIte, Nat.reduceEqDiff, upd_upd, Int.reduceToNat]
                      refine hK _ _ ?_; clear hK K
                      refine OW_op rfl (lt_some (by decide)) (fun K hK r => ?_)
                      simp only [x_callF _ bd39, List.map_toArray, List.map_cons, List.map_nil, ev, Env.get, Option.getD_some, ↓reduceIte, Nat.reduceEqDiff, NextH, Env.putO, Env.put, ↓reduceIte, Nat.reduceEqDiff, upd_upd, Int.reduceToNat]
                      refine (mCount_ok H0 _ pm l bad (hst.mid o1).1 (hst.mid o1).2 hm0 hB hl).mono ?_
                      rintro v53 H53 ⟨res', hres', rfl, hm2, hk2⟩
                      obtain rfl := hres.uniq hres'
                      have hst2 := hst.step hsb hr1 hs1 hk2 hm2
                      obtain ⟨np, hnp⟩ := hres.part
                      try simp only [ev, Env.get, Option.getD_some, ↓reduceIte, Nat.reduceEqDiff, NextH, Env.putO, Env.put, ↓reduceIte, Nat.reduceEqDiff, upd_upd, Int.reduceToNat]
                      refine hK _ _ ?_; clear hK K
                      refine OW_op rfl (lt_some (by decide)) (fun K hK r => ?_)
                      simp (disch := (first | omega | decide)) only [x_bin, g_int, b_eql, dec_lt_t, dec_lt_f, dec_le_t, dec_le_f, dec_eq_t, dec_eq_f, Bool.not_true, Bool.not_false, ev, Env.get, Option.getD_some, ↓reduceIte, Nat.reduceEqDiff, NextH, Env.putO, Env.put, ↓reduceIte, Nat.reduceEqDiff, upd_upd, Int.reduceToNat]
                      refine hK _ _ ?_; clear hK K
                      refine OW_op rfl (lt_some (by decide)) (fun K hK r => ?_)
                      simp only [x_assign, ev, Env.get, Option.getD_some, ↓reduceIte, Nat.reduceEqDiff, NextH, Env.putO, Env.put, ↓reduceIte, Nat.reduceEqDiff, upd_upd, Int.reduceToNat]
                      refine hK _ _ ?_; clear hK K
                      refine OW_nil ?_
                      try simp only [Ex.thnH, Ex.inBlockH, ↓reduceIte, Nat.reduceEqDiff]
                      refine hK17 _ _ ?_; try clear hK17 K17
                      refine CW_ret ?_
                      try simp only [Ex.thnH, Ex.inBlockH, ↓reduceIte, Nat.reduceEqDiff]
                      refine ⟨[_], ⟨rfl, trivial⟩, _, Le.refl _, by simp [retOf], _, _, ?_, hst2⟩
                      exact .inr (.inr (.inr ⟨by omega, by omega, by omega, by omega, res, hres, rfl, rfl⟩))

end Go.Proofs.Ytlbdmoikmomedaa.HL
