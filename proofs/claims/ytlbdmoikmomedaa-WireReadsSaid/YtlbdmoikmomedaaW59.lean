/- A part of the proof. -/
import Derived.Test.YtlbdmoikmomedaaW58
namespace Go.Proofs.Ytlbdmoikmomedaa.HL
open Go Go.Proofs
set_option linter.unusedSimpArgs false
set_option linter.unusedVariables false
attribute [local irreducible] Lt Lq CW OW TW CallH


theorem done_end (bad : Bool) (l : List Int) : (!bad && decide (l = [])) = (endE bad l).isNone := by
  unfold endE; cases bad <;> by_cases h : l = [] <;> simp [h]
theorem endE_ok (bad : Bool) (l : List Int) : errOk (endE bad l) := by
  intro k h; unfold endE at h; split at h
  · cases h; decide
  · cases h
theorem endE_two {bad : Bool} {l : List Int} (h : (endE bad l).isSome = true) : (endE bad l).getD 0 = 2 := by
  unfold endE at *; split at h
  · rw [if_pos (by assumption)]; rfl
  · cases h

set_option maxRecDepth 100000 in
set_option maxHeartbeats 16000000 in
theorem lawReads (H : Hp) (a : Option Addr) (cap : Nat) (b : List Int) (hv : Holds H 1 (.slice a b.length cap) b.length (u8s b)) (hcap : b.length ≤ cap) (hB : ByteL b) (hbn : b.length ≤ 9223372036854775807) (vk : Value) (Ks : List Int) (hk : Holds H 1 vk Ks.length (i64s Ks)) (hkn : Ks.length ≤ 9223372036854775807) : CallH Try.prog 4 #[.slice a b.length cap, vk] H (fun v H' => v = .bool true ∧ Le H H') := by
  refine CallH_enter (l := [_, _]) (rl := [.tmp 4]) (n := 76) Try.func4 rfl rfl rfl rfl rfl ?_
  simp only [envOf, Nat.reduceAdd]
  obtain ⟨ak, capk, rfl⟩ := hk.form
  refine CW_seq (fun K1 hK1 => ?_)
  refine CW_region ?_
  refine OW_op rfl (lt_some (by decide)) (fun K hK r => ?_)
  simp only [x_assign, ev, Env.get, Option.getD_some, ↓reduceIte, Nat.reduceEqDiff, NextH, Env.putO, Env.put, ↓reduceIte, Nat.reduceEqDiff, upd_upd, Int.reduceToNat]
  refine hK _ _ ?_; clear hK K
  refine OW_nil ?_
  try simp only [Ex.thnH, Ex.inBlockH, ↓reduceIte, Nat.reduceEqDiff]
  refine hK1 _ _ ?_; try clear hK1 K1
  refine CW_seq (fun K2 hK2 => ?_)
  refine CW_seq (fun K3 hK3 => ?_)
  refine CW_region ?_
  refine OW_op rfl (lt_some (by decide)) (fun K hK r => ?_)
  simp only [x_callF _ bd9, List.map_toArray, List.map_cons, List.map_nil, ev, Env.get, Option.getD_some, ↓reduceIte, Nat.reduceEqDiff, NextH, Env.putO, Env.put, ↓reduceIte, Nat.reduceEqDiff, upd_upd, Int.reduceToNat]
  refine (alive3_ok _).mono ?_
  rintro v11 H11 ⟨rfl, hl11⟩
  try simp only [ev, Env.get, Option.getD_some, ↓reduceIte, Nat.reduceEqDiff, NextH, Env.putO, Env.put, ↓reduceIte, Nat.reduceEqDiff, upd_upd, Int.reduceToNat]
  refine hK _ _ ?_; clear hK K
  refine OW_op rfl (lt_some (by decide)) (fun K hK r => ?_)
  simp only [x_un, u_not, ev, Env.get, Option.getD_some, ↓reduceIte, Nat.reduceEqDiff, NextH, Env.putO, Env.put, ↓reduceIte, Nat.reduceEqDiff, upd_upd, Int.reduceToNat]
  refine hK _ _ ?_; clear hK K
  refine OW_nil ?_
  try simp only [Ex.thnH, Ex.inBlockH, ↓reduceIte, Nat.reduceEqDiff]
  refine hK3 _ _ ?_; try clear hK3 K3
  refine CW_cond (fun r => rfl) (fun c12 => ?_) (fun c12 => ?_)
  · first
    | (exfalso; exact cnA c12; done)
    | skip
      (try simp only [decide_eq_true_eq, decide_eq_false_iff_not, Bool.not_eq_true, Bool.not_eq_false, Bool.and_eq_true, Bool.or_eq_true, Bool.or_eq_false_iff, Bool.not_eq_true, Bool.not_eq_eq_eq_not, Bool.not_true, Bool.not_false] at c12)
      refine CW_seq (fun K4 hK4 => ?_)
      refine CW_region ?_
      refine OW_op rfl (lt_some (by decide)) (fun K hK r => ?_)
      simp only [x_assign, ev, Env.get, Option.getD_some, ↓reduceIte, Nat.reduceEqDiff, NextH, Env.putO, Env.put, ↓reduceIte, Nat.reduceEqDiff, upd_upd, Int.reduceToNat]
      refine hK _ _ ?_; clear hK K
      refine OW_nil ?_
      try simp only [Ex.thnH, Ex.inBlockH, ↓reduceIte, Nat.reduceEqDiff]
      refine hK4 _ _ ?_; try clear hK4 K4
      refine CW_ret ?_
      try simp only [Ex.thnH, Ex.inBlockH, ↓reduceIte, Nat.reduceEqDiff]
      exfalso; simp_all
  · first
    | (exfalso; exact cnA c12; done)
    | skip
      (try simp only [decide_eq_true_eq, decide_eq_false_iff_not, Bool.not_eq_true, Bool.not_eq_false, Bool.and_eq_true, Bool.or_eq_true, Bool.or_eq_false_iff, Bool.not_eq_true, Bool.not_eq_eq_eq_not, Bool.not_true, Bool.not_false] at c12)
      refine CW_skip ?_
      try simp only [Ex.thnH, Ex.inBlockH, ↓reduceIte, Nat.reduceEqDiff]
      refine hK2 _ _ ?_; try clear hK2 K2
      refine CW_seq (fun K5 hK5 => ?_)
      refine CW_seq (fun K6 hK6 => ?_)
      refine CW_region ?_
      refine OW_op rfl (lt_some (by decide)) (fun K hK r => ?_)
      simp only [x_move, ev, Env.get, Option.getD_some, ↓reduceIte, Nat.reduceEqDiff, NextH, Env.putO, Env.put, ↓reduceIte, Nat.reduceEqDiff, upd_upd, Int.reduceToNat]
      refine hK _ _ ?_; clear hK K
      refine OW_op rfl (lt_some (by decide)) (fun K hK r => ?_)
      simp only [x_builtin, l_len, List.map_toArray, List.map_cons, List.map_nil, i_len_slice _ _ Try.underlying27, ev, Env.get, Option.getD_some, ↓reduceIte, Nat.reduceEqDiff, NextH, Env.putO, Env.put, ↓reduceIte, Nat.reduceEqDiff, upd_upd, Int.reduceToNat]
      refine hK _ _ ?_; clear hK K
      refine OW_op rfl (lt_some (by decide)) (fun K hK r => ?_)
      simp (disch := (first | omega | decide)) only [x_bin, g_int, b_gtr, dec_lt_t, dec_lt_f, dec_le_t, dec_le_f, dec_eq_t, dec_eq_f, Bool.not_true, Bool.not_false, ev, Env.get, Option.getD_some, ↓reduceIte, Nat.reduceEqDiff, NextH, Env.putO, Env.put, ↓reduceIte, Nat.reduceEqDiff, upd_upd, Int.reduceToNat]
      refine hK _ _ ?_; clear hK K
      refine OW_op rfl (lt_some (by decide)) (fun K hK r => ?_)
      simp only [x_move, ev, Env.get, Option.getD_some, ↓reduceIte, Nat.reduceEqDiff, NextH, Env.putO, Env.put, ↓reduceIte, Nat.reduceEqDiff, upd_upd, Int.reduceToNat]
      refine hK _ _ ?_; clear hK K
      (first | refine OW_split (d := 16) rfl (fun g16 => ?_) (fun g16 => ?_) | skip)
      all_goals try (exfalso; exact cnA g16)
      all_goals (try simp only [decide_eq_true_eq, decide_eq_false_iff_not, Bool.not_eq_true, Bool.not_eq_false, Bool.and_eq_true, Bool.or_eq_true, Bool.or_eq_false_iff, Bool.not_eq_true, Bool.not_eq_eq_eq_not, Bool.not_true, Bool.not_false] at g16)
      all_goals
        try simp only [NextH, Env.putO, Env.put, ↓reduceIte, Nat.reduceEqDiff, upd_upd, Int.reduceToNat]
        first
        | refine OW_guardT rfl (lt_some (by decide)) rfl (fun K hK r => ?_)
          simp only [x_move, ev, Env.get, Option.getD_some, ↓reduceIte, Nat.reduceEqDiff, NextH, Env.putO, Env.put, ↓reduceIte, Nat.reduceEqDiff, upd_upd, Int.reduceToNat]
          refine hK _ _ ?_; clear hK K
        | refine OW_guardF rfl (lt_some (by decide)) rfl ?_
          simp only [NextH, Env.putO, Env.put, ↓reduceIte, Nat.reduceEqDiff, upd_upd, Int.reduceToNat]
        first
        | refine OW_guardT rfl (lt_some (by decide)) rfl (fun K hK r => ?_)
          simp only [x_builtin, l_len, List.map_toArray, List.map_cons, List.map_nil, i_len_slice _ _ Try.underlying28, ev, Env.get, Option.getD_some, ↓reduceIte, Nat.reduceEqDiff, NextH, Env.putO, Env.put, ↓reduceIte, Nat.reduceEqDiff, upd_upd, Int.reduceToNat]
          refine hK _ _ ?_; clear hK K
        | refine OW_guardF rfl (lt_some (by decide)) rfl ?_
          simp only [NextH, Env.putO, Env.put, ↓reduceIte, Nat.reduceEqDiff, upd_upd, Int.reduceToNat]
        first
        | refine OW_guardT rfl (lt_some (by decide)) rfl (fun K hK r => ?_)
          simp (disch := (first | omega | decide)) only [x_bin, g_int, b_gtr, dec_lt_t, dec_lt_f, dec_le_t, dec_le_f, dec_eq_t, dec_eq_f, Bool.not_true, Bool.not_false, ev, Env.get, Option.getD_some, ↓reduceIte, Nat.reduceEqDiff, NextH, Env.putO, Env.put, ↓reduceIte, Nat.reduceEqDiff, upd_upd, Int.reduceToNat]
          refine hK _ _ ?_; clear hK K
        | refine OW_guardF rfl (lt_some (by decide)) rfl ?_
          simp only [NextH, Env.putO, Env.put, ↓reduceIte, Nat.reduceEqDiff, upd_upd, Int.reduceToNat]
        refine OW_op rfl (lt_some (by decide)) (fun K hK r => ?_)
        simp only [x_pick, l_asBool, HL.ite_bool, if_true, if_false, Bool.false_eq_true, ev, Env.get, Option.getD_some, ↓reduceIte, Nat.reduceEqDiff, NextH, Env.putO, Env.put, ↓reduceIte, Nat.reduceEqDiff, upd_upd, Int.reduceToNat]
        refine hK _ _ ?_; clear hK K
        refine OW_nil ?_
        try simp only [Ex.thnH, Ex.inBlockH, ↓reduceIte, Nat.reduceEqDiff]
        refine hK6 _ _ ?_; try clear hK6 K6
        refine CW_cond (fun r => rfl) (fun c20 => ?_) (fun c20 => ?_)
        · first
          | (exfalso; exact cnA c20; done)
          | skip
            (try simp only [decide_eq_true_eq, decide_eq_false_iff_not, Bool.not_eq_true, Bool.not_eq_false, Bool.and_eq_true, Bool.or_eq_true, Bool.or_eq_false_iff, Bool.not_eq_true, Bool.not_eq_eq_eq_not, Bool.not_true, Bool.not_false] at c20)
            refine CW_seq (fun K7 hK7 => ?_)
            refine CW_region ?_
            refine OW_op rfl (lt_some (by decide)) (fun K hK r => ?_)
            simp only [x_assign, ev, Env.get, Option.getD_some, ↓reduceIte, Nat.reduceEqDiff, NextH, Env.putO, Env.put, ↓reduceIte, Nat.reduceEqDiff, upd_upd, Int.reduceToNat]
            refine hK _ _ ?_; clear hK K
            refine OW_nil ?_
            try simp only [Ex.thnH, Ex.inBlockH, ↓reduceIte, Nat.reduceEqDiff]
            refine hK7 _ _ ?_; try clear hK7 K7
            refine CW_ret ?_
            try simp only [Ex.thnH, Ex.inBlockH, ↓reduceIte, Nat.reduceEqDiff]
            exact ⟨[_], ⟨rfl, trivial⟩, _, Le.refl _, rfl, by first | exact hl11 | exact lhA⟩
        · first
          | (exfalso; exact cnA c20; done)
          | skip
            have h20 : b.length ≤ 3000 ∧ Ks.length ≤ 60 := by (try simp only [decide_eq_true_eq, decide_eq_false_iff_not, Bool.not_eq_true, Bool.not_eq_false, Bool.and_eq_true, Bool.or_eq_true, Bool.or_eq_false_iff, Bool.not_eq_true, Bool.not_eq_eq_eq_not, Bool.not_true, Bool.not_false] at c20); first | omega | (simp_all; done) | (simp_all; omega)
            refine CW_skip ?_
            try simp only [Ex.thnH, Ex.inBlockH, ↓reduceIte, Nat.reduceEqDiff]
            refine hK5 _ _ ?_; try clear hK5 K5
            refine CW_seq (fun K8 hK8 => ?_)
            refine CW_region ?_
            refine OW_op rfl (lt_some (by decide)) (fun K hK r => ?_)
            simp only [x_move, ev, Env.get, Option.getD_some, ↓reduceIte, Nat.reduceEqDiff, NextH, Env.putO, Env.put, ↓reduceIte, Nat.reduceEqDiff, upd_upd, Int.reduceToNat]
            refine hK _ _ ?_; clear hK K
            refine OW_op rfl (lt_some (by decide)) (fun K hK r => ?_)
            simp only [x_callF _ bd10, List.map_toArray, List.map_cons, List.map_nil, ev, Env.get, Option.getD_some, ↓reduceIte, Nat.reduceEqDiff, NextH, Env.putO, Env.put, ↓reduceIte, Nat.reduceEqDiff, upd_upd, Int.reduceToNat]
            refine (num_Copy _ _ b (hv.le hl11) (by omega)).mono ?_
            rintro v22 H22 ⟨r22, hr22, rfl, hH22⟩
            have f22_H : H r22 = none := none_of_le hl11 hr22
            have k22 : H22 r22 = some (.cells (u8s (b ++ [165, 90])).toArray 5) := by rw [hH22]; exact upd_same _ _ _
            have lH22_H : Le H H22 := by rw [hH22]; exact le_upd_of hl11 f22_H
            try simp only [ev, Env.get, Option.getD_some, ↓reduceIte, Nat.reduceEqDiff, NextH, Env.putO, Env.put, ↓reduceIte, Nat.reduceEqDiff, upd_upd, Int.reduceToNat]
            refine hK _ _ ?_; clear hK K
            refine OW_op rfl (lt_some (by decide)) (fun K hK r => ?_)
            simp only [x_assign, ev, Env.get, Option.getD_some, ↓reduceIte, Nat.reduceEqDiff, NextH, Env.putO, Env.put, ↓reduceIte, Nat.reduceEqDiff, upd_upd, Int.reduceToNat]
            refine hK _ _ ?_; clear hK K
            refine OW_nil ?_
            try simp only [Ex.thnH, Ex.inBlockH, ↓reduceIte, Nat.reduceEqDiff]
            refine hK8 _ _ ?_; try clear hK8 K8
            refine CW_seq (fun K9 hK9 => ?_)
            refine CW_region ?_
            refine OW_op rfl (lt_some (by decide)) (fun K hK r => ?_)
            simp only [x_move, ev, Env.get, Option.getD_some, ↓reduceIte, Nat.reduceEqDiff, NextH, Env.putO, Env.put, ↓reduceIte, Nat.reduceEqDiff, upd_upd, Int.reduceToNat]
            refine hK _ _ ?_; clear hK K
            refine OW_op rfl (lt_some (by decide)) (fun K hK r => ?_)
            simp only [x_callF _ bd11, List.map_toArray, List.map_cons, List.map_nil, ev, Env.get, Option.getD_some, ↓reduceIte, Nat.reduceEqDiff, NextH, Env.putO, Env.put, ↓reduceIte, Nat.reduceEqDiff, upd_upd, Int.reduceToNat]
            refine (newReader_ok _ _ b (copy_own k22).holds (by omega)).mono ?_
            rintro v24 H24 ⟨hl24, pr, ar, cr, rfl, hpr, hrd, har⟩
            have lH24_H : Le H H24 := Le.trans lH22_H hl24
            have k24 := hl24 r22 _ k22
            have npr : pr ≠ r22 := fun e => by rw [e, k22] at hpr; cases hpr
            have fpr : H pr = none := none_of_le lH22_H hpr
            try simp only [ev, Env.get, Option.getD_some, ↓reduceIte, Nat.reduceEqDiff, NextH, Env.putO, Env.put, ↓reduceIte, Nat.reduceEqDiff, upd_upd, Int.reduceToNat]
            refine hK _ _ ?_; clear hK K
            refine OW_op rfl (lt_some (by decide)) (fun K hK r => ?_)
            simp only [x_move, ev, Env.get, Option.getD_some, ↓reduceIte, Nat.reduceEqDiff, NextH, Env.putO, Env.put, ↓reduceIte, Nat.reduceEqDiff, upd_upd, Int.reduceToNat]
            refine hK _ _ ?_; clear hK K
            refine OW_op rfl (lt_some (by decide)) (fun K hK r => ?_)
            simp only [x_build, bp35, List.map_toArray, List.map_cons, List.map_nil, ev, Env.get, Option.getD_some, ↓reduceIte, Nat.reduceEqDiff, NextH, Env.putO, Env.put, ↓reduceIte, Nat.reduceEqDiff, upd_upd, Int.reduceToNat]
            rw [fill_one rfl clA bdA]
            simp only [fill_nil, orF_some, List.setIfInBounds_toArray, List.set_cons_zero, List.set_cons_succ]
            try simp only [ev, Env.get, Option.getD_some, ↓reduceIte, Nat.reduceEqDiff, NextH, Env.putO, Env.put, ↓reduceIte, Nat.reduceEqDiff, upd_upd, Int.reduceToNat]
            refine hK _ _ ?_; clear hK K
            refine OW_op rfl (lt_some (by decide)) (fun K hK r => ?_)
            simp only [x_box, Value.cells, ev, Env.get, Option.getD_some, ↓reduceIte, Nat.reduceEqDiff, NextH, Env.putO, Env.put, ↓reduceIte, Nat.reduceEqDiff, upd_upd, Int.reduceToNat]
            intro b27 hb27
            have f27_H : H b27 = none := none_of_le lhA hb27
            try simp only [ev, Env.get, Option.getD_some, ↓reduceIte, Nat.reduceEqDiff, NextH, Env.putO, Env.put, ↓reduceIte, Nat.reduceEqDiff, upd_upd, Int.reduceToNat]
            refine hK _ _ ?_; clear hK K
            refine OW_op rfl (lt_some (by decide)) (fun K hK r => ?_)
            simp only [x_assign, ev, Env.get, Option.getD_some, ↓reduceIte, Nat.reduceEqDiff, NextH, Env.putO, Env.put, ↓reduceIte, Nat.reduceEqDiff, upd_upd, Int.reduceToNat]
            refine hK _ _ ?_; clear hK K
            refine OW_op rfl (lt_some (by decide)) (fun K hK r => ?_)
            simp only [x_assign, ev, Env.get, Option.getD_some, ↓reduceIte, Nat.reduceEqDiff, NextH, Env.putO, Env.put, ↓reduceIte, Nat.reduceEqDiff, upd_upd, Int.reduceToNat]
            refine hK _ _ ?_; clear hK K
            refine OW_nil ?_
            try simp only [Ex.thnH, Ex.inBlockH, ↓reduceIte, Nat.reduceEqDiff]
            refine hK9 _ _ ?_; try clear hK9 K9
            refine CW_seq (fun K10 hK10 => ?_)
            refine CW_region ?_
            refine OW_op rfl (lt_some (by decide)) (fun K hK r => ?_)
            simp only [x_move, ev, Env.get, Option.getD_some, ↓reduceIte, Nat.reduceEqDiff, NextH, Env.putO, Env.put, ↓reduceIte, Nat.reduceEqDiff, upd_upd, Int.reduceToNat]
            refine hK _ _ ?_; clear hK K
            refine OW_op rfl (lt_some (by decide)) (fun K hK r => ?_)
            simp only [x_callF _ bd12, List.map_toArray, List.map_cons, List.map_nil, ev, Env.get, Option.getD_some, ↓reduceIte, Nat.reduceEqDiff, NextH, Env.putO, Env.put, ↓reduceIte, Nat.reduceEqDiff, upd_upd, Int.reduceToNat]
            have n27_pr : pr ≠ b27 := fun e => by have h := hrd.1; rw [e, hb27] at h; cases h
            have n27_r : r22 ≠ b27 := fun e => by rw [e, hb27] at k24; cases k24
            refine (over_own _ _ b (some r22) (copy_own (by rw [upd_ne _ _ n27_r]; exact k24)) (by omega)).mono ?_
            rintro v29 H29 hst29
            have hst0 : ST H H29 pr b27 (b.drop 0) false := by
              rw [List.drop_zero]
              have hkp : ∀ z o, H24 z = some o → z ≠ r22 → H29 z = some o := fun z o hz hn => hst29 z o (by rw [upd_ne _ _ (fun e => by rw [e, hb27] at hz; cases hz)]; exact hz) (fun e => hn (by cases e; rfl))
              have hAr : ∀ A, ar = some A → A.block ≠ r22 := fun A hA e => by have h := (har A hA).1; rw [e, k22] at h; cases h
              refine ⟨⟨ar, cr, hrd.keep (fun o ho => hkp _ o ho npr) (fun A o hA ho => hkp _ o ho (hAr A hA)), fun A hA => ?_⟩, RM.of (hst29 b27 _ (upd_same _ _ _) (fun e => n27_r (by cases e; rfl))) rfl hcap hv, fun z o hz => hkp z o (lH24_H z o hz) (fun e => by rw [e, f22_H] at hz; cases hz), fpr, f27_H, n27_pr⟩
              obtain ⟨g1, g2, c, g3, g4⟩ := har A hA
              exact ⟨none_of_le lH22_H g1, g2, (fun e => by rw [e, hb27] at g3; cases g3), c, hkp _ _ g3 (hAr A hA)⟩
            try simp only [ev, Env.get, Option.getD_some, ↓reduceIte, Nat.reduceEqDiff, NextH, Env.putO, Env.put, ↓reduceIte, Nat.reduceEqDiff, upd_upd, Int.reduceToNat]
            refine hK _ _ ?_; clear hK K
            refine OW_nil ?_
            try simp only [Ex.thnH, Ex.inBlockH, ↓reduceIte, Nat.reduceEqDiff]
            refine hK10 _ _ ?_; try clear hK10 K10
            refine CW_seq (fun K11 hK11 => ?_)
            refine CW_seq (fun K12 hK12 => ?_)
            refine CW_region ?_
            refine OW_op rfl (lt_some (by decide)) (fun K hK r => ?_)
            simp only [x_move, ev, Env.get, Option.getD_some, ↓reduceIte, Nat.reduceEqDiff, NextH, Env.putO, Env.put, ↓reduceIte, Nat.reduceEqDiff, upd_upd, Int.reduceToNat]
            refine hK _ _ ?_; clear hK K
            refine OW_op rfl (lt_some (by decide)) (fun K hK r => ?_)
            simp only [x_builtin, l_len, List.map_toArray, List.map_cons, List.map_nil, i_len_slice _ _ Try.underlying28, ev, Env.get, Option.getD_some, ↓reduceIte, Nat.reduceEqDiff, NextH, Env.putO, Env.put, ↓reduceIte, Nat.reduceEqDiff, upd_upd, Int.reduceToNat]
            refine hK _ _ ?_; clear hK K
            refine OW_op rfl (lt_some (by decide)) (fun K hK r => ?_)
            simp only [x_move, ev, Env.get, Option.getD_some, ↓reduceIte, Nat.reduceEqDiff, NextH, Env.putO, Env.put, ↓reduceIte, Nat.reduceEqDiff, upd_upd, Int.reduceToNat]
            refine hK _ _ ?_; clear hK K
            refine OW_nil ?_
            try simp only [Ex.thnH, Ex.inBlockH, ↓reduceIte, Nat.reduceEqDiff]
            refine hK12 _ _ ?_; try clear hK12 K12
            refine CW_block ?_
            refine CW_loop (fun m e H_ => ∃ (k n : Nat) (bad : Bool), k ≤ Ks.length ∧ m = Ks.length - k ∧ ST H H_ pr b27 (b.drop n) bad ∧ Env.has [(6, .pointer (some ⟨pr, 0, none⟩)), (7, .pointer (some ⟨b27, 0, none⟩)), (30, .slice ak Ks.length capk), (31, .int .i64 Ks.length), (32, .int .i64 k)] e) (Ks.length) ?_ ?_
            · skip
              exact ⟨0, 0, false, by omega, by omega, hst0, rfl, rfl, rfl, rfl, rfl, trivial⟩
            intro m_ e_ H_ hI_
            obtain ⟨k, n, bad, hk', rfl, hst, he⟩ := hI_
            have hle := hst.le
            have hbn' : (b.drop n).length ≤ 3000 := by simp; omega
            refine CW_env he.sub ?_; clear he e_
            refine CW_seq (fun K13 hK13 => ?_)
            refine CW_region ?_
            refine OW_op rfl (lt_some (by decide)) (fun K hK r => ?_)
            simp (disch := (first | omega | decide)) only [x_bin, g_int, b_lss, dec_lt_t, dec_lt_f, dec_le_t, dec_le_f, dec_eq_t, dec_eq_f, Bool.not_true, Bool.not_false, ev, Env.get, Option.getD_some, ↓reduceIte, Nat.reduceEqDiff, NextH, Env.putO, Env.put, ↓reduceIte, Nat.reduceEqDiff, upd_upd, Int.reduceToNat]
            refine hK _ _ ?_; clear hK K
            refine OW_nil ?_
            try simp only [Ex.thnH, Ex.inBlockH, ↓reduceIte, Nat.reduceEqDiff]
            refine hK13 _ _ ?_; try clear hK13 K13
            refine CW_seq (fun K14 hK14 => ?_)
            refine CW_cond (fun r => rfl) (fun c33 => ?_) (fun c33 => ?_)
            · first
              | (exfalso; exact cnA c33; done)
              | skip
                (try simp only [decide_eq_true_eq, decide_eq_false_iff_not, Bool.not_eq_true, Bool.not_eq_false, Bool.and_eq_true, Bool.or_eq_true, Bool.or_eq_false_iff, Bool.not_eq_true, Bool.not_eq_eq_eq_not, Bool.not_true, Bool.not_false] at c33)
                obtain ⟨bl, ol, ql, Tl, Fl, rfl, hbl, hsl, atl⟩ := hk.at (by omega)
                try have n_bl_b27 : bl ≠ b27 := ne_of_none hbl f27_H
                have hbl_ := hle bl _ hbl
                refine CW_skip ?_
                try simp only [Ex.thnH, Ex.inBlockH, ↓reduceIte, Nat.reduceEqDiff]
                refine hK14 _ _ ?_; try clear hK14 K14
                refine CW_seq (fun K15 hK15 => ?_)
                refine CW_block ?_
                refine CW_seq (fun K16 hK16 => ?_)
                refine CW_region ?_
                refine OW_op rfl (lt_some (by decide)) (fun K hK r => ?_)
                simp only [x_indexAddr, ev, Env.get, Option.getD_some, ↓reduceIte, Nat.reduceEqDiff, NextH, Env.putO, Env.put, ↓reduceIte, Nat.reduceEqDiff, upd_upd, Int.reduceToNat]
                refine Lt_indexS Try.underlying28 sz3 ixA ixA ?_
                try simp only [add_mk, Nat.mul_one, Nat.zero_add, Int.reduceToNat]
                try simp only [ev, Env.get, Option.getD_some, ↓reduceIte, Nat.reduceEqDiff, NextH, Env.putO, Env.put, ↓reduceIte, Nat.reduceEqDiff, upd_upd, Int.reduceToNat]
                refine hK _ _ ?_; clear hK K
                refine OW_op rfl (lt_some (by decide)) (fun K hK r => ?_)
                simp only [x_load, ev, Env.get, Option.getD_some, ↓reduceIte, Nat.reduceEqDiff, NextH, Env.putO, Env.put, ↓reduceIte, Nat.reduceEqDiff, upd_upd, Int.reduceToNat]
                refine Lt_loadAt1 Try.underlying3 rfl hbA (v := .int .i64 (Ks.getD k 0)) (by first | exact ints_at atl rfl _ (by omega) | (simp only [Int.toNat_natCast, Nat.mul_one]; exact ints_at atl rfl _ (by omega))) ?_
                refine hK _ _ ?_; clear hK K
                refine OW_op rfl (lt_some (by decide)) (fun K hK r => ?_)
                simp only [x_assign, ev, Env.get, Option.getD_some, ↓reduceIte, Nat.reduceEqDiff, NextH, Env.putO, Env.put, ↓reduceIte, Nat.reduceEqDiff, upd_upd, Int.reduceToNat]
                refine hK _ _ ?_; clear hK K
                refine OW_nil ?_
                try simp only [Ex.thnH, Ex.inBlockH, ↓reduceIte, Nat.reduceEqDiff]
                refine hK16 _ _ ?_; try clear hK16 K16
                refine CW_seq (fun K17 hK17 => ?_)
                refine CW_seq (fun K18 hK18 => ?_)
                refine CW_drawE [0, 0, 0, 5, 0, 0, 0, 2, 0, 0, 0, 1, 0, 0, 0] [0, 1, 2, 3, 4, 5, 6, 7, 8, 9, 10, 11, 12, 13, 14] (by kernel_rfl) (by kernel_rfl) (fun R11 hR11 => ?_)
                apply TW_pure rfl (lt_some (by decide)) rfl
                · intro r
                  simp only [x_move, ev, Env.get, Option.getD_some, ↓reduceIte, Nat.reduceEqDiff]
                  exact ⟨rfl, Le.refl _⟩
                simp only [NextH, Env.putO, Env.put, ↓reduceIte, Nat.reduceEqDiff, upd_upd, Int.reduceToNat]
                apply TW_pure rfl (lt_some (by decide)) rfl
                · intro r
                  simp only [x_move, ev, Env.get, Option.getD_some, ↓reduceIte, Nat.reduceEqDiff]
                  exact ⟨rfl, Le.refl _⟩
                simp only [NextH, Env.putO, Env.put, ↓reduceIte, Nat.reduceEqDiff, upd_upd, Int.reduceToNat]
                apply TW_pure rfl (lt_some (by decide)) rfl
                · intro r
                  simp only [x_move, ev, Env.get, Option.getD_some, ↓reduceIte, Nat.reduceEqDiff]
                  exact ⟨rfl, Le.refl _⟩
                simp only [NextH, Env.putO, Env.put, ↓reduceIte, Nat.reduceEqDiff, upd_upd, Int.reduceToNat]
                refine TW_fence rfl (lt_some (by decide)) rfl (fun K hK r => ?_)
                simp only [x_callF _ bd13, List.map_toArray, List.map_cons, List.map_nil, ev, Env.get, Option.getD_some, ↓reduceIte, Nat.reduceEqDiff, NextH, Env.putO, Env.put, ↓reduceIte, Nat.reduceEqDiff, upd_upd, Int.reduceToNat]
                refine (read_ok H _ pr b27 (b.drop n) bad hst (hB.drop n) (by omega) (Ks.getD k 0)).mono ?_
                rintro v39 H39 ⟨rfl, n', b', hst'⟩
                obtain ⟨ar', cr', hrd', _⟩ := hst'.rd
                obtain ⟨am', cm', hpm', _⟩ := hst'.rm
                have hle' := hst'.le
                try simp only [ev, Env.get, Option.getD_some, ↓reduceIte, Nat.reduceEqDiff, NextH, Env.putO, Env.put, ↓reduceIte, Nat.reduceEqDiff, upd_upd, Int.reduceToNat]
                refine hK _ _ (fun R39_ hR39_ => ?_); clear hK K
                apply TW_pure rfl (lt_some (by decide)) rfl
                · intro r
                  simp only [x_un, u_not, ev, Env.get, Option.getD_some, ↓reduceIte, Nat.reduceEqDiff]
                  exact ⟨rfl, Le.refl _⟩
                simp only [NextH, Env.putO, Env.put, ↓reduceIte, Nat.reduceEqDiff, upd_upd, Int.reduceToNat]
                apply TW_pure rfl (lt_some (by decide)) rfl
                · intro r
                  simp only [x_move, ev, Env.get, Option.getD_some, ↓reduceIte, Nat.reduceEqDiff]
                  exact ⟨rfl, Le.refl _⟩
                simp only [NextH, Env.putO, Env.put, ↓reduceIte, Nat.reduceEqDiff, upd_upd, Int.reduceToNat]
                (first | refine TW_split (d := 41) rfl (fun g41 => ?_) (fun g41 => ?_) | skip)
                all_goals try (exfalso; exact cnA g41)
                all_goals (try simp only [decide_eq_true_eq, decide_eq_false_iff_not, Bool.not_eq_true, Bool.not_eq_false, Bool.and_eq_true, Bool.or_eq_true, Bool.or_eq_false_iff, Bool.not_eq_true, Bool.not_eq_eq_eq_not, Bool.not_true, Bool.not_false] at g41)
                all_goals
                  try simp only [NextH, Env.putO, Env.put, ↓reduceIte, Nat.reduceEqDiff, upd_upd, Int.reduceToNat]
                  first
                  | apply TW_pureG rfl (lt_some (by decide)) rfl rfl
                    · intro r
                      simp only [x_move, ev, Env.get, Option.getD_some, ↓reduceIte, Nat.reduceEqDiff]
                      exact ⟨rfl, Le.refl _⟩
                    simp only [NextH, Env.putO, Env.put, ↓reduceIte, Nat.reduceEqDiff, upd_upd, Int.reduceToNat]
                  | refine TW_guardF rfl (lt_some (by decide)) rfl ?_
                    simp only [NextH, Env.putO, Env.put, ↓reduceIte, Nat.reduceEqDiff, upd_upd, Int.reduceToNat]
                  first
                  | refine TW_chainG rfl (lt_some (by decide)) rfl rfl (fun K hK r => ?_)
                    simp only [x_callF _ bd14, List.map_toArray, List.map_cons, List.map_nil, ev, Env.get, Option.getD_some, ↓reduceIte, Nat.reduceEqDiff, NextH, Env.putO, Env.put, ↓reduceIte, Nat.reduceEqDiff, upd_upd, Int.reduceToNat]
                    refine (rLeft_ok _ pr ar' cr' _ b' hrd').mono ?_
                    rintro v43 H43 ⟨rfl, hH43⟩
                    have hH43 := hH43.symm; subst hH43
                    try simp only [ev, Env.get, Option.getD_some, ↓reduceIte, Nat.reduceEqDiff, NextH, Env.putO, Env.put, ↓reduceIte, Nat.reduceEqDiff, upd_upd, Int.reduceToNat]
                    refine hK _ _ leA ?_; clear hK K
                  | refine TW_guardF rfl (lt_some (by decide)) rfl ?_
                    simp only [NextH, Env.putO, Env.put, ↓reduceIte, Nat.reduceEqDiff, upd_upd, Int.reduceToNat]
                  first
                  | apply TW_pureG rfl (lt_some (by decide)) rfl rfl
                    · intro r
                      simp only [x_move, ev, Env.get, Option.getD_some, ↓reduceIte, Nat.reduceEqDiff]
                      exact ⟨rfl, Le.refl _⟩
                    simp only [NextH, Env.putO, Env.put, ↓reduceIte, Nat.reduceEqDiff, upd_upd, Int.reduceToNat]
                  | refine TW_guardF rfl (lt_some (by decide)) rfl ?_
                    simp only [NextH, Env.putO, Env.put, ↓reduceIte, Nat.reduceEqDiff, upd_upd, Int.reduceToNat]
                  first
                  | apply TW_pureG rfl (lt_some (by decide)) rfl rfl
                    · intro r
                      rw [x_nilCheck _ _ rfl]
                      exact ⟨rfl, Le.refl _⟩
                    simp only [NextH, Env.putO, Env.put, ↓reduceIte, Nat.reduceEqDiff, upd_upd, Int.reduceToNat]
                  | refine TW_guardF rfl (lt_some (by decide)) rfl ?_
                    simp only [NextH, Env.putO, Env.put, ↓reduceIte, Nat.reduceEqDiff, upd_upd, Int.reduceToNat]
                  first
                  | apply TW_pureG rfl (lt_some (by decide)) rfl rfl
                    · intro r
                      simp only [x_fieldAddr, fa35_0, add_mk, Nat.reduceAdd, Nat.zero_add, ev, Env.get, Option.getD_some, ↓reduceIte, Nat.reduceEqDiff]
                      exact ⟨rfl, Le.refl _⟩
                    simp only [NextH, Env.putO, Env.put, ↓reduceIte, Nat.reduceEqDiff, upd_upd, Int.reduceToNat]
                  | refine TW_guardF rfl (lt_some (by decide)) rfl ?_
                    simp only [NextH, Env.putO, Env.put, ↓reduceIte, Nat.reduceEqDiff, upd_upd, Int.reduceToNat]
                  first
                  | apply TW_lookG rfl (lt_some (by decide)) rfl rfl
                    · intro r
                      simp only [x_load, ev, Env.get, Option.getD_some, ↓reduceIte, Nat.reduceEqDiff]
                      refine Lt_loadAt1 Try.underlying27 rfl hbA ldA ?_
                      exact ⟨rfl, Le.refl _⟩
                    simp only [NextH, Env.putO, Env.put, ↓reduceIte, Nat.reduceEqDiff, upd_upd, Int.reduceToNat]
                  | refine TW_guardF rfl (lt_some (by decide)) rfl ?_
                    simp only [NextH, Env.putO, Env.put, ↓reduceIte, Nat.reduceEqDiff, upd_upd, Int.reduceToNat]
                  first
                  | apply TW_pureG rfl (lt_some (by decide)) rfl rfl
                    · intro r
                      simp only [x_builtin, l_len, List.map_toArray, List.map_cons, List.map_nil, i_len_slice _ _ Try.underlying27, ev, Env.get, Option.getD_some, ↓reduceIte, Nat.reduceEqDiff]
                      exact ⟨rfl, Le.refl _⟩
                    simp only [NextH, Env.putO, Env.put, ↓reduceIte, Nat.reduceEqDiff, upd_upd, Int.reduceToNat]
                  | refine TW_guardF rfl (lt_some (by decide)) rfl ?_
                    simp only [NextH, Env.putO, Env.put, ↓reduceIte, Nat.reduceEqDiff, upd_upd, Int.reduceToNat]
                  first
                  | apply TW_pureG rfl (lt_some (by decide)) rfl rfl
                    · intro r
                      simp (disch := (first | omega | decide)) only [x_bin, g_int, b_neq, dec_lt_t, dec_lt_f, dec_le_t, dec_le_f, dec_eq_t, dec_eq_f, Bool.not_true, Bool.not_false, ev, Env.get, Option.getD_some, ↓reduceIte, Nat.reduceEqDiff]
                      exact ⟨rfl, Le.refl _⟩
                    simp only [NextH, Env.putO, Env.put, ↓reduceIte, Nat.reduceEqDiff, upd_upd, Int.reduceToNat]
                  | refine TW_guardF rfl (lt_some (by decide)) rfl ?_
                    simp only [NextH, Env.putO, Env.put, ↓reduceIte, Nat.reduceEqDiff, upd_upd, Int.reduceToNat]
                  apply TW_pure rfl (lt_some (by decide)) rfl
                  · intro r
                    simp only [x_pick, l_asBool, HL.ite_bool, if_true, if_false, Bool.false_eq_true, ev, Env.get, Option.getD_some, ↓reduceIte, Nat.reduceEqDiff]
                    exact ⟨rfl, Le.refl _⟩
                  simp only [NextH, Env.putO, Env.put, ↓reduceIte, Nat.reduceEqDiff, upd_upd, Int.reduceToNat]
                  refine TW_nil ?_
                  try simp only [Ex.thnH, Ex.inBlockH, ↓reduceIte, Nat.reduceEqDiff]
                  refine hK18 _ _ ?_; try clear hK18 K18
                  refine CW_cond (fun r => rfl) (fun c50 => ?_) (fun c50 => ?_)
                  · first
                    | (exfalso; exact cnA c50; done)
                    | skip
                      (try simp only [decide_eq_true_eq, decide_eq_false_iff_not, Bool.not_eq_true, Bool.not_eq_false, Bool.and_eq_true, Bool.or_eq_true, Bool.or_eq_false_iff, Bool.not_eq_true, Bool.not_eq_eq_eq_not, Bool.not_true, Bool.not_false] at c50)
                      refine CW_seq (fun K19 hK19 => ?_)
                      refine CW_region ?_
                      refine OW_op rfl (lt_some (by decide)) (fun K hK r => ?_)
                      simp only [x_assign, ev, Env.get, Option.getD_some, ↓reduceIte, Nat.reduceEqDiff, NextH, Env.putO, Env.put, ↓reduceIte, Nat.reduceEqDiff, upd_upd, Int.reduceToNat]
                      refine hK _ _ ?_; clear hK K
                      refine OW_nil ?_
                      try simp only [Ex.thnH, Ex.inBlockH, ↓reduceIte, Nat.reduceEqDiff]
                      refine hK19 _ _ ?_; try clear hK19 K19
                      refine CW_ret ?_
                      try simp only [Ex.thnH, Ex.inBlockH, ↓reduceIte, Nat.reduceEqDiff]
                      exfalso; first | exact absurd (endE_two (by assumption)) (by assumption) | (simp_all; done)
                  · first
                    | (exfalso; exact cnA c50; done)
                    | skip
                      (try simp only [decide_eq_true_eq, decide_eq_false_iff_not, Bool.not_eq_true, Bool.not_eq_false, Bool.and_eq_true, Bool.or_eq_true, Bool.or_eq_false_iff, Bool.not_eq_true, Bool.not_eq_eq_eq_not, Bool.not_true, Bool.not_false] at c50)
                      refine CW_skip ?_
                      try simp only [Ex.thnH, Ex.inBlockH, ↓reduceIte, Nat.reduceEqDiff]
                      refine hK17 _ _ ?_; try clear hK17 K17
                      refine CW_seq (fun K20 hK20 => ?_)
                      refine CW_region ?_
                      refine OW_op rfl (lt_some (by decide)) (fun K hK r => ?_)
                      simp only [x_move, ev, Env.get, Option.getD_some, ↓reduceIte, Nat.reduceEqDiff, NextH, Env.putO, Env.put, ↓reduceIte, Nat.reduceEqDiff, upd_upd, Int.reduceToNat]
                      refine hK _ _ ?_; clear hK K
                      refine OW_op rfl (lt_some (by decide)) (fun K hK r => ?_)
                      simp only [x_callF _ bd15, List.map_toArray, List.map_cons, List.map_nil, ev, Env.get, Option.getD_some, ↓reduceIte, Nat.reduceEqDiff, NextH, Env.putO, Env.put, ↓reduceIte, Nat.reduceEqDiff, upd_upd, Int.reduceToNat]
                      refine (rEnd_ok _ pr ar' cr' _ b' hrd').mono ?_
                      rintro v52 H52 ⟨rfl, hH52⟩
                      have hH52 := hH52.symm; subst hH52
                      try simp only [ev, Env.get, Option.getD_some, ↓reduceIte, Nat.reduceEqDiff, NextH, Env.putO, Env.put, ↓reduceIte, Nat.reduceEqDiff, upd_upd, Int.reduceToNat]
                      refine hK _ _ ?_; clear hK K
                      refine OW_op rfl (lt_some (by decide)) (fun K hK r => ?_)
                      simp only [x_assign, ev, Env.get, Option.getD_some, ↓reduceIte, Nat.reduceEqDiff, NextH, Env.putO, Env.put, ↓reduceIte, Nat.reduceEqDiff, upd_upd, Int.reduceToNat]
                      refine hK _ _ ?_; clear hK K
                      refine OW_nil ?_
                      try simp only [Ex.thnH, Ex.inBlockH, ↓reduceIte, Nat.reduceEqDiff]
                      refine hK20 _ _ ?_; try clear hK20 K20
                      refine CW_seq (fun K21 hK21 => ?_)
                      refine CW_drawO [0, 3, 0, 0, 0, 0, 0, 0, 0, 0, 2, 0, 0, 0] [0, 1, 2, 3, 4, 5, 6, 7, 8, 9, 10, 11, 12, 13] emptyHp (by kernel_rfl) (by kernel_rfl) (le_empty _) ?_
                      apply TW_pure rfl (lt_some (by decide)) rfl
                      · intro r
                        simp only [x_move, ev, Env.get, Option.getD_some, ↓reduceIte, Nat.reduceEqDiff]
                        exact ⟨rfl, Le.refl _⟩
                      simp only [NextH, Env.putO, Env.put, ↓reduceIte, Nat.reduceEqDiff, upd_upd, Int.reduceToNat]
                      refine TW_last rfl (lt_some (by decide)) rfl (fun K hK r => ?_)
                      simp only [x_callF _ bd16, List.map_toArray, List.map_cons, List.map_nil, ev, Env.get, Option.getD_some, ↓reduceIte, Nat.reduceEqDiff, NextH, Env.putO, Env.put, ↓reduceIte, Nat.reduceEqDiff, upd_upd, Int.reduceToNat]
                      refine (mDone_ok H _ b27 _ b' hst'.rm).mono ?_
                      rintro v54 H54 ⟨rfl, hH54⟩
                      have hH54 := hH54.symm; subst hH54
                      rw [done_end]
                      try simp only [ev, Env.get, Option.getD_some, ↓reduceIte, Nat.reduceEqDiff, NextH, Env.putO, Env.put, ↓reduceIte, Nat.reduceEqDiff, upd_upd, Int.reduceToNat]
                      refine hK _ _ ?_; clear hK K
                      apply TW_pure rfl (lt_some (by decide)) rfl
                      · intro r
                        simp only [x_move, ev, Env.get, Option.getD_some, ↓reduceIte, Nat.reduceEqDiff]
                        exact ⟨rfl, Le.refl _⟩
                      simp only [NextH, Env.putO, Env.put, ↓reduceIte, Nat.reduceEqDiff, upd_upd, Int.reduceToNat]
                      apply TW_pure rfl (lt_some (by decide)) rfl
                      · intro r
                        simp only [x_bin, g_int, g_bool, g_string, g_pointer, g_slice, g_map, g_func, g_nilFunc, g_err, g_iface, g_nil_iface, g_nil_r, g_nil_l, ev, Env.get, Option.getD_some, ↓reduceIte, Nat.reduceEqDiff]
                        first | rw [b_err_eql _ _ Try.underlying40] | (rw [e_eql _ _ _ _ (by simp), q_equal]; first | rw [q_iface_nil _ _ _ Try.underlying40] | rw [q_nil_iface _ _ _ Try.underlying40] | rw [q_nil_nil _ _ _ Try.underlying40])
                        exact ⟨rfl, Le.refl _⟩
                      simp only [NextH, Env.putO, Env.put, ↓reduceIte, Nat.reduceEqDiff, upd_upd, Int.reduceToNat]
                      apply TW_pure rfl (lt_some (by decide)) rfl
                      · intro r
                        simp only [x_bin, g_int, g_bool, g_string, g_pointer, g_slice, g_map, g_func, g_nilFunc, g_iface, g_nil_iface, g_nil_r, g_nil_l, ev, Env.get, Option.getD_some, ↓reduceIte, Nat.reduceEqDiff]
                        rw [e_neq _ _ _ _ (by simp)]
                        rw [q_equal, q_bool _ _ Try.underlying4]
                        rw [beq_self_eq_true, Bool.not_true]
                        exact ⟨rfl, Le.refl _⟩
                      simp only [NextH, Env.putO, Env.put, ↓reduceIte, Nat.reduceEqDiff, upd_upd, Int.reduceToNat]
                      apply TW_pure rfl (lt_some (by decide)) rfl
                      · intro r
                        simp only [x_move, ev, Env.get, Option.getD_some, ↓reduceIte, Nat.reduceEqDiff]
                        exact ⟨rfl, Le.refl _⟩
                      simp only [NextH, Env.putO, Env.put, ↓reduceIte, Nat.reduceEqDiff, upd_upd, Int.reduceToNat]
                      (first | refine TW_split (d := 58) rfl (fun g58 => ?_) (fun g58 => ?_) | skip)
                      all_goals try (exfalso; exact cnA g58)
                      all_goals (try simp only [decide_eq_true_eq, decide_eq_false_iff_not, Bool.not_eq_true, Bool.not_eq_false, Bool.and_eq_true, Bool.or_eq_true, Bool.or_eq_false_iff, Bool.not_eq_true, Bool.not_eq_eq_eq_not, Bool.not_true, Bool.not_false] at g58)
                      all_goals
                        try simp only [NextH, Env.putO, Env.put, ↓reduceIte, Nat.reduceEqDiff, upd_upd, Int.reduceToNat]
                        first
                        | apply TW_pureG rfl (lt_some (by decide)) rfl rfl
                          · intro r
                            simp only [x_move, ev, Env.get, Option.getD_some, ↓reduceIte, Nat.reduceEqDiff]
                            exact ⟨rfl, Le.refl _⟩
                          simp only [NextH, Env.putO, Env.put, ↓reduceIte, Nat.reduceEqDiff, upd_upd, Int.reduceToNat]
                        | refine TW_guardF rfl (lt_some (by decide)) rfl ?_
                          simp only [NextH, Env.putO, Env.put, ↓reduceIte, Nat.reduceEqDiff, upd_upd, Int.reduceToNat]
                        first
                        | apply TW_pureG rfl (lt_some (by decide)) rfl rfl
                          · intro r
                            simp only [x_bin, g_int, g_bool, g_string, g_pointer, g_slice, g_map, g_func, g_nilFunc, g_err, g_iface, g_nil_iface, g_nil_r, g_nil_l, ev, Env.get, Option.getD_some, ↓reduceIte, Nat.reduceEqDiff]
                            first | rw [b_err_neq _ _ Try.underlying40] | (rw [e_neq _ _ _ _ (by simp), q_equal]; first | rw [q_iface_nil _ _ _ Try.underlying40] | rw [q_nil_iface _ _ _ Try.underlying40] | rw [q_nil_nil _ _ _ Try.underlying40])
                            exact ⟨rfl, Le.refl _⟩
                          simp only [NextH, Env.putO, Env.put, ↓reduceIte, Nat.reduceEqDiff, upd_upd, Int.reduceToNat]
                        | refine TW_guardF rfl (lt_some (by decide)) rfl ?_
                          simp only [NextH, Env.putO, Env.put, ↓reduceIte, Nat.reduceEqDiff, upd_upd, Int.reduceToNat]
                        first
                        | apply TW_pureG rfl (lt_some (by decide)) rfl rfl
                          · intro r
                            simp only [x_move, ev, Env.get, Option.getD_some, ↓reduceIte, Nat.reduceEqDiff]
                            exact ⟨rfl, Le.refl _⟩
                          simp only [NextH, Env.putO, Env.put, ↓reduceIte, Nat.reduceEqDiff, upd_upd, Int.reduceToNat]
                        | refine TW_guardF rfl (lt_some (by decide)) rfl ?_
                          simp only [NextH, Env.putO, Env.put, ↓reduceIte, Nat.reduceEqDiff, upd_upd, Int.reduceToNat]
                        (first | refine TW_split (d := 61) rfl (fun g61 => ?_) (fun g61 => ?_) | skip)
                        all_goals try (exfalso; exact cnA g61)
                        all_goals (try simp only [decide_eq_true_eq, decide_eq_false_iff_not, Bool.not_eq_true, Bool.not_eq_false, Bool.and_eq_true, Bool.or_eq_true, Bool.or_eq_false_iff, Bool.not_eq_true, Bool.not_eq_eq_eq_not, Bool.not_true, Bool.not_false] at g61)
                        all_goals
                          try simp only [NextH, Env.putO, Env.put, ↓reduceIte, Nat.reduceEqDiff, upd_upd, Int.reduceToNat]
                          first
                          | apply TW_pureG rfl (lt_some (by decide)) rfl rfl
                            · intro r
                              simp only [x_move, ev, Env.get, Option.getD_some, ↓reduceIte, Nat.reduceEqDiff]
                              exact ⟨rfl, Le.refl _⟩
                            simp only [NextH, Env.putO, Env.put, ↓reduceIte, Nat.reduceEqDiff, upd_upd, Int.reduceToNat]
                          | refine TW_guardF rfl (lt_some (by decide)) rfl ?_
                            simp only [NextH, Env.putO, Env.put, ↓reduceIte, Nat.reduceEqDiff, upd_upd, Int.reduceToNat]
                          first
                          | refine TW_chainG rfl (lt_some (by decide)) rfl rfl (fun K hK r => ?_)
                            simp only [x_callF _ bd17, List.map_toArray, List.map_cons, List.map_nil, ev, Env.get, Option.getD_some, ↓reduceIte, Nat.reduceEqDiff, NextH, Env.putO, Env.put, ↓reduceIte, Nat.reduceEqDiff, upd_upd, Int.reduceToNat]
                            refine (num_Is _ _ (endE_ok _ _) 2 (by decide) (by decide)).mono ?_
                            rintro v63 H63 ⟨rfl, hH63⟩
                            have hH63 := hH63.symm; subst hH63
                            try simp only [ev, Env.get, Option.getD_some, ↓reduceIte, Nat.reduceEqDiff, NextH, Env.putO, Env.put, ↓reduceIte, Nat.reduceEqDiff, upd_upd, Int.reduceToNat]
                            refine hK _ _ leA ?_; clear hK K
                          | refine TW_guardF rfl (lt_some (by decide)) rfl ?_
                            simp only [NextH, Env.putO, Env.put, ↓reduceIte, Nat.reduceEqDiff, upd_upd, Int.reduceToNat]
                          first
                          | apply TW_pureG rfl (lt_some (by decide)) rfl rfl
                            · intro r
                              simp only [x_un, u_not, ev, Env.get, Option.getD_some, ↓reduceIte, Nat.reduceEqDiff]
                              exact ⟨rfl, Le.refl _⟩
                            simp only [NextH, Env.putO, Env.put, ↓reduceIte, Nat.reduceEqDiff, upd_upd, Int.reduceToNat]
                          | refine TW_guardF rfl (lt_some (by decide)) rfl ?_
                            simp only [NextH, Env.putO, Env.put, ↓reduceIte, Nat.reduceEqDiff, upd_upd, Int.reduceToNat]
                          first
                          | apply TW_pureG rfl (lt_some (by decide)) rfl rfl
                            · intro r
                              simp only [x_pick, l_asBool, HL.ite_bool, if_true, if_false, Bool.false_eq_true, ev, Env.get, Option.getD_some, ↓reduceIte, Nat.reduceEqDiff]
                              exact ⟨rfl, Le.refl _⟩
                            simp only [NextH, Env.putO, Env.put, ↓reduceIte, Nat.reduceEqDiff, upd_upd, Int.reduceToNat]
                          | refine TW_guardF rfl (lt_some (by decide)) rfl ?_
                            simp only [NextH, Env.putO, Env.put, ↓reduceIte, Nat.reduceEqDiff, upd_upd, Int.reduceToNat]
                          apply TW_pure rfl (lt_some (by decide)) rfl
                          · intro r
                            simp only [x_pick, l_asBool, HL.ite_bool, if_true, if_false, Bool.false_eq_true, ev, Env.get, Option.getD_some, ↓reduceIte, Nat.reduceEqDiff]
                            exact ⟨rfl, Le.refl _⟩
                          simp only [NextH, Env.putO, Env.put, ↓reduceIte, Nat.reduceEqDiff, upd_upd, Int.reduceToNat]
                          refine TW_nil ?_
                          try simp only [Ex.thnH, Ex.inBlockH, ↓reduceIte, Nat.reduceEqDiff]
                          refine hK21 _ _ ?_; try clear hK21 K21
                          refine CW_cond (fun r => rfl) (fun c66 => ?_) (fun c66 => ?_)
                          · first
                            | (exfalso; exact cnA c66; done)
                            | skip
                              (try simp only [decide_eq_true_eq, decide_eq_false_iff_not, Bool.not_eq_true, Bool.not_eq_false, Bool.and_eq_true, Bool.or_eq_true, Bool.or_eq_false_iff, Bool.not_eq_true, Bool.not_eq_eq_eq_not, Bool.not_true, Bool.not_false] at c66)
                              refine CW_seq (fun K22 hK22 => ?_)
                              refine CW_region ?_
                              refine OW_op rfl (lt_some (by decide)) (fun K hK r => ?_)
                              simp only [x_assign, ev, Env.get, Option.getD_some, ↓reduceIte, Nat.reduceEqDiff, NextH, Env.putO, Env.put, ↓reduceIte, Nat.reduceEqDiff, upd_upd, Int.reduceToNat]
                              refine hK _ _ ?_; clear hK K
                              refine OW_nil ?_
                              try simp only [Ex.thnH, Ex.inBlockH, ↓reduceIte, Nat.reduceEqDiff]
                              refine hK22 _ _ ?_; try clear hK22 K22
                              refine CW_ret ?_
                              try simp only [Ex.thnH, Ex.inBlockH, ↓reduceIte, Nat.reduceEqDiff]
                              exfalso; first | exact absurd (endE_two (by assumption)) (by assumption) | (simp_all; done)
                          · first
                            | (exfalso; exact cnA c66; done)
                            | skip
                              (try simp only [decide_eq_true_eq, decide_eq_false_iff_not, Bool.not_eq_true, Bool.not_eq_false, Bool.and_eq_true, Bool.or_eq_true, Bool.or_eq_false_iff, Bool.not_eq_true, Bool.not_eq_eq_eq_not, Bool.not_true, Bool.not_false] at c66)
                              refine CW_skip ?_
                              try simp only [Ex.thnH, Ex.inBlockH, ↓reduceIte, Nat.reduceEqDiff]
                              refine hK15 _ _ ?_; try clear hK15 K15
                              refine CW_region ?_
                              refine OW_op rfl (lt_some (by decide)) (fun K hK r => ?_)
                              simp (disch := (first | omega | decide)) only [x_bin, g_int, b_add, wrap_i64, wrap_u64, wrap_u32, wrap_u8, ev, Env.get, Option.getD_some, ↓reduceIte, Nat.reduceEqDiff, NextH, Env.putO, Env.put, ↓reduceIte, Nat.reduceEqDiff, upd_upd, Int.reduceToNat]
                              refine hK _ _ ?_; clear hK K
                              refine OW_op rfl (lt_some (by decide)) (fun K hK r => ?_)
                              simp only [x_move, ev, Env.get, Option.getD_some, ↓reduceIte, Nat.reduceEqDiff, NextH, Env.putO, Env.put, ↓reduceIte, Nat.reduceEqDiff, upd_upd, Int.reduceToNat]
                              refine hK _ _ ?_; clear hK K
                              refine OW_nil ?_
                              try simp only [Ex.thnH, Ex.inBlockH, ↓reduceIte, Nat.reduceEqDiff]
                              refine ⟨Ks.length - (k + 1), by omega, k + 1, n + n', b', by omega, rfl, ?_, rfl, rfl, rfl, rfl, rfl, trivial⟩
                              rw [← List.drop_drop]; exact hst'
            · first
              | (exfalso; exact cnA c33; done)
              | skip
                (try simp only [decide_eq_true_eq, decide_eq_false_iff_not, Bool.not_eq_true, Bool.not_eq_false, Bool.and_eq_true, Bool.or_eq_true, Bool.or_eq_false_iff, Bool.not_eq_true, Bool.not_eq_eq_eq_not, Bool.not_true, Bool.not_false] at c33)
                obtain ⟨ar', cr', hrd', _⟩ := hst.rd
                obtain ⟨am', cm', hpm', _⟩ := hst.rm
                refine CW_exit ?_
                try simp only [Ex.thnH, Ex.inBlockH, ↓reduceIte, Nat.reduceEqDiff]
                refine hK11 _ _ ?_; try clear hK11 K11
                refine CW_seq (fun K23 hK23 => ?_)
                refine CW_drawE [0, 2, 0, 0, 0, 1, 0, 0, 0] [0, 1, 2, 3, 4, 5, 6, 7, 8] (by kernel_rfl) (by kernel_rfl) (fun R17 hR17 => ?_)
                apply TW_pure rfl (lt_some (by decide)) rfl
                · intro r
                  simp only [x_move, ev, Env.get, Option.getD_some, ↓reduceIte, Nat.reduceEqDiff]
                  exact ⟨rfl, Le.refl _⟩
                simp only [NextH, Env.putO, Env.put, ↓reduceIte, Nat.reduceEqDiff, upd_upd, Int.reduceToNat]
                refine TW_chain rfl (lt_some (by decide)) rfl (fun K hK r => ?_)
                simp only [x_callF _ bd14, List.map_toArray, List.map_cons, List.map_nil, ev, Env.get, Option.getD_some, ↓reduceIte, Nat.reduceEqDiff, NextH, Env.putO, Env.put, ↓reduceIte, Nat.reduceEqDiff, upd_upd, Int.reduceToNat]
                refine (rLeft_ok _ pr ar' cr' _ bad hrd').mono ?_
                rintro v69 H69 ⟨rfl, hH69⟩
                have hH69 := hH69.symm; subst hH69
                try simp only [ev, Env.get, Option.getD_some, ↓reduceIte, Nat.reduceEqDiff, NextH, Env.putO, Env.put, ↓reduceIte, Nat.reduceEqDiff, upd_upd, Int.reduceToNat]
                refine hK _ _ leA ?_; clear hK K
                apply TW_pure rfl (lt_some (by decide)) rfl
                · intro r
                  simp only [x_move, ev, Env.get, Option.getD_some, ↓reduceIte, Nat.reduceEqDiff]
                  exact ⟨rfl, Le.refl _⟩
                simp only [NextH, Env.putO, Env.put, ↓reduceIte, Nat.reduceEqDiff, upd_upd, Int.reduceToNat]
                apply TW_pure rfl (lt_some (by decide)) rfl
                · intro r
                  rw [x_nilCheck _ _ rfl]
                  exact ⟨rfl, Le.refl _⟩
                simp only [NextH, Env.putO, Env.put, ↓reduceIte, Nat.reduceEqDiff, upd_upd, Int.reduceToNat]
                apply TW_pure rfl (lt_some (by decide)) rfl
                · intro r
                  simp only [x_fieldAddr, fa35_0, add_mk, Nat.reduceAdd, Nat.zero_add, ev, Env.get, Option.getD_some, ↓reduceIte, Nat.reduceEqDiff]
                  exact ⟨rfl, Le.refl _⟩
                simp only [NextH, Env.putO, Env.put, ↓reduceIte, Nat.reduceEqDiff, upd_upd, Int.reduceToNat]
                apply TW_look rfl (lt_some (by decide)) rfl
                · intro r
                  simp only [x_load, ev, Env.get, Option.getD_some, ↓reduceIte, Nat.reduceEqDiff]
                  refine Lt_loadAt1 Try.underlying27 rfl hbA ldA ?_
                  exact ⟨rfl, Le.refl _⟩
                simp only [NextH, Env.putO, Env.put, ↓reduceIte, Nat.reduceEqDiff, upd_upd, Int.reduceToNat]
                apply TW_pure rfl (lt_some (by decide)) rfl
                · intro r
                  simp only [x_builtin, l_len, List.map_toArray, List.map_cons, List.map_nil, i_len_slice _ _ Try.underlying27, ev, Env.get, Option.getD_some, ↓reduceIte, Nat.reduceEqDiff]
                  exact ⟨rfl, Le.refl _⟩
                simp only [NextH, Env.putO, Env.put, ↓reduceIte, Nat.reduceEqDiff, upd_upd, Int.reduceToNat]
                apply TW_pure rfl (lt_some (by decide)) rfl
                · intro r
                  simp (disch := (first | omega | decide)) only [x_bin, g_int, b_eql, dec_lt_t, dec_lt_f, dec_le_t, dec_le_f, dec_eq_t, dec_eq_f, Bool.not_true, Bool.not_false, ev, Env.get, Option.getD_some, ↓reduceIte, Nat.reduceEqDiff]
                  exact ⟨rfl, Le.refl _⟩
                simp only [NextH, Env.putO, Env.put, ↓reduceIte, Nat.reduceEqDiff, upd_upd, Int.reduceToNat]
                apply TW_pure rfl (lt_some (by decide)) rfl
                · intro r
                  simp only [x_assign, ev, Env.get, Option.getD_some, ↓reduceIte, Nat.reduceEqDiff]
                  exact ⟨rfl, Le.refl _⟩
                simp only [NextH, Env.putO, Env.put, ↓reduceIte, Nat.reduceEqDiff, upd_upd, Int.reduceToNat]
                refine TW_nil ?_
                try simp only [Ex.thnH, Ex.inBlockH, ↓reduceIte, Nat.reduceEqDiff]
                refine hK23 _ _ ?_; try clear hK23 K23
                refine CW_ret ?_
                try simp only [Ex.thnH, Ex.inBlockH, ↓reduceIte, Nat.reduceEqDiff]
                exact ⟨[_], ⟨rfl, trivial⟩, _, Le.refl _, (by simp [retOf]), hle⟩

end Go.Proofs.Ytlbdmoikmomedaa.HL
