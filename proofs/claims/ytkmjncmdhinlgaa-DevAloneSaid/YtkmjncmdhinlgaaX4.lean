/- Parts of the proof, one behind the other: D26. -/
import Derived.Test.YtkmjncmdhinlgaaX3
set_option linter.unusedSimpArgs false
set_option linter.unusedVariables false
section
namespace Go.Proofs.Ytkmjncmdhinlgaa.HL
open Go Go.Proofs
set_option linter.unusedSimpArgs false
set_option linter.unusedVariables false
attribute [local irreducible] Lt Lq CW OW TW CallH


theorem one_mod (x : Int) : ∃ o : Int, IntKind.i64.wrap ((IntKind.u64.wrap x).tmod 3) = o ∧ (IntKind.u64.wrap x).tmod 3 = o ∧ 0 ≤ o ∧ o ≤ 2 := by
  have h0 : 0 ≤ IntKind.u64.wrap x := by rw [u64_def]; omega
  have e : (IntKind.u64.wrap x).tmod 3 = (IntKind.u64.wrap x) % 3 := Int.tmod_eq_emod_of_nonneg h0
  have h1 : 0 ≤ (IntKind.u64.wrap x).tmod 3 ∧ (IntKind.u64.wrap x).tmod 3 ≤ 2 := by rw [e]; omega
  exact ⟨_, wrap_i64 _ (by omega) (by omega), rfl, h1.1, h1.2⟩
theorem q_sel {HB H F1 F2 : Hp} {p q : Nat} {s t : St} (hT : Two HB H F1 F2 p q s t) (d j : Nat) (K : Bool → Hp → Prop) (h : K (!decide (j = 0)) H) : Lt Try.prog (Op.equalIn (d + 1) 26 (.pointer (some ⟨if j = 0 then p else q, 0, none⟩)) (.pointer (some ⟨q, 0, none⟩))) H K := by
  obtain ⟨c1, h1⟩ := hT.a.set.hd
  obtain ⟨c2, h2⟩ := hT.b.set.hd
  by_cases e : j = 0
  · subst e
    simp only [if_true]
    exact q_ptr_ne _ _ Try.underlying26 sz77 (by decide) hT.ne (hT.a.le _ _ h1) (hT.b.le _ _ h2) K (by simpa using h)
  · simp only [if_neg e]
    exact q_ptr_same _ _ Try.underlying26 sz77 (by decide) _ K (by simpa [e] using h)
theorem al_new (o : Int) (h : 0 ≤ o ∧ o ≤ 2) : Al o (newSt [4, 4, 4]) (newSt [4, 4, 4]) := ⟨⟨rfl, rfl⟩, ⟨rfl, rfl⟩, rfl, rfl, rfl, by
  rcases (show o = 0 ∨ o = 1 ∨ o = 2 by omega) with rfl | rfl | rfl <;> rfl⟩

set_option maxRecDepth 100000 in
set_option maxHeartbeats 8000000 in
theorem lawAlone (H : Hp) (one : Int) (a : Option Addr) (cap : Nat) (l : List Op1) (hv : Holds H 5 (.slice a l.length cap) l.length (ops l)) : CallH Try.prog 4 #[.slice a l.length cap, .int .i64 one] H (fun v H' => v = .bool true ∧ Le H H') := by
  refine CallH_enter (l := [_, _]) (rl := [.tmp 4]) (n := 148) Try.func4 rfl rfl rfl rfl rfl ?_
  simp only [envOf, Nat.reduceAdd]
  obtain ⟨o, ho1, ho2, ho3, ho4⟩ := one_mod one
  refine CW_seq (fun K1 hK1 => ?_)
  refine CW_region ?_
  refine OW_as rfl ?_
  refine OW_nil ?_
  try simp only [Ex.thnH, Ex.inBlockH, ↓reduceIte, Nat.reduceEqDiff]
  refine hK1 _ _ ?_; try clear hK1 K1
  refine CW_seq (fun K2 hK2 => ?_)
  refine CW_seq (fun K3 hK3 => ?_)
  refine CW_region ?_
  refine OW_opS (fun K hK r => ?_)
  simp only [x_callF _ bd8, List.map_toArray, List.map_cons, List.map_nil, eX, ↓reduceIte, Nat.reduceEqDiff, Int.reduceToNat]
  refine (alive_ok _).mono ?_
  rintro v18 H' ⟨rfl, hq⟩
  have hq := hq.symm
  subst hq
  try simp only [eX, ↓reduceIte, Nat.reduceEqDiff, Int.reduceToNat]
  refine hK _ _ ?_; clear hK K
  refine OW_opS (fun K hK r => ?_)
  simp only [x_un, u_not, eX, ↓reduceIte, Nat.reduceEqDiff, Int.reduceToNat]
  refine hK _ _ ?_; clear hK K
  refine OW_nil ?_
  try simp only [Ex.thnH, Ex.inBlockH, ↓reduceIte, Nat.reduceEqDiff]
  refine hK3 _ _ ?_; try clear hK3 K3
  refine CW_cond (fun r => rfl) (fun c19 => ?_) (fun c19 => ?_)
  · first
    | (exfalso; exact cnA c19; done)
    | skip
      (try simp only [decide_eq_true_eq, decide_eq_false_iff_not, Bool.not_eq_true, Bool.not_eq_false, Bool.and_eq_true, Bool.or_eq_true, Bool.or_eq_false_iff, Bool.not_eq_true, Bool.not_eq_eq_eq_not, Bool.not_true, Bool.not_false] at c19)
      refine CW_seq (fun K4 hK4 => ?_)
      refine CW_region ?_
      refine OW_as rfl ?_
      refine OW_nil ?_
      try simp only [Ex.thnH, Ex.inBlockH, ↓reduceIte, Nat.reduceEqDiff]
      refine hK4 _ _ ?_; try clear hK4 K4
      refine CW_ret ?_
      try simp only [Ex.thnH, Ex.inBlockH, ↓reduceIte, Nat.reduceEqDiff]
      skip
  · first
    | (exfalso; exact cnA c19; done)
    | skip
      (try simp only [decide_eq_true_eq, decide_eq_false_iff_not, Bool.not_eq_true, Bool.not_eq_false, Bool.and_eq_true, Bool.or_eq_true, Bool.or_eq_false_iff, Bool.not_eq_true, Bool.not_eq_eq_eq_not, Bool.not_true, Bool.not_false] at c19)
      refine CW_skip ?_
      try simp only [Ex.thnH, Ex.inBlockH, ↓reduceIte, Nat.reduceEqDiff]
      refine hK2 _ _ ?_; try clear hK2 K2
      refine CW_seq (fun K5 hK5 => ?_)
      refine CW_seq (fun K6 hK6 => ?_)
      refine CW_region ?_
      refine OW_mv rfl ?_
      refine OW_opS (fun K hK r => ?_)
      simp only [x_callF _ bd9, List.map_toArray, List.map_cons, List.map_nil, eX, ↓reduceIte, Nat.reduceEqDiff, Int.reduceToNat]
      refine (long_ok _ a cap l hv).mono ?_
      rintro v21 H' ⟨t, rfl, hsh, hq⟩
      have hq := hq.symm
      subst hq
      try simp only [eX, ↓reduceIte, Nat.reduceEqDiff, Int.reduceToNat]
      refine hK _ _ ?_; clear hK K
      refine OW_nil ?_
      try simp only [Ex.thnH, Ex.inBlockH, ↓reduceIte, Nat.reduceEqDiff]
      refine hK6 _ _ ?_; try clear hK6 K6
      refine CW_cond (fun r => rfl) (fun c21 => ?_) (fun c21 => ?_)
      · first
        | (exfalso; exact cnA c21; done)
        | skip
          skip
          refine CW_seq (fun K7 hK7 => ?_)
          refine CW_region ?_
          refine OW_as rfl ?_
          refine OW_nil ?_
          try simp only [Ex.thnH, Ex.inBlockH, ↓reduceIte, Nat.reduceEqDiff]
          refine hK7 _ _ ?_; try clear hK7 K7
          refine CW_ret ?_
          try simp only [Ex.thnH, Ex.inBlockH, ↓reduceIte, Nat.reduceEqDiff]
          exact ⟨[_], ⟨rfl, trivial⟩, H, lhA, rfl, Le.refl _⟩
      · first
        | (exfalso; exact cnA c21; done)
        | skip
          (try simp only [decide_eq_true_eq, decide_eq_false_iff_not, Bool.not_eq_true, Bool.not_eq_false, Bool.and_eq_true, Bool.or_eq_true, Bool.or_eq_false_iff, Bool.not_eq_true, Bool.not_eq_eq_eq_not, Bool.not_true, Bool.not_false] at c21)
          have hl81 := (hsh (by first | assumption | simp_all)).1
          refine CW_skip ?_
          try simp only [Ex.thnH, Ex.inBlockH, ↓reduceIte, Nat.reduceEqDiff]
          refine hK5 _ _ ?_; try clear hK5 K5
          refine CW_seq (fun K8 hK8 => ?_)
          refine CW_region ?_
          refine OW_opS (fun K hK r => ?_)
          simp only [x_buildSlice, List.map_toArray, List.map_cons, List.map_nil, eX, ↓reduceIte, Nat.reduceEqDiff, Int.reduceToNat]
          refine Lt_buildSlice (vs := [_, _, _]) Try.underlying56 sz3 zr3 rfl bsA (by first | decide | (simp; done)) ?_
          simp only [List.flatMap_cons, List.flatMap_nil, Value.cells, List.append_nil, List.cons_append, List.nil_append, List.length_cons, List.length_nil, Nat.zero_add, Nat.reduceAdd]
          intro b23 hb23
          have f23_H : H b23 = none := none_of_le lhA hb23
          try simp only [eX, ↓reduceIte, Nat.reduceEqDiff, Int.reduceToNat]
          refine hK _ _ ?_; clear hK K
          refine OW_opS (fun K hK r => ?_)
          simp only [x_callF _ bd10, List.map_toArray, List.map_cons, List.map_nil, eX, ↓reduceIte, Nat.reduceEqDiff, Int.reduceToNat]
          refine (newL _ _ _ [4, 4, 4] ⟨rfl, .inr ⟨b23, 0, 3, _, _, _, rfl, hbA, by simp, by simp⟩⟩ rfl (by decide)).mono ?_
          rintro v24 H24 ⟨p, F24, rfl, hA24'⟩
          have hA24 : Stn H H24 F24 p (newSt [4, 4, 4]) := hA24'.less lhA
          have hO24 := hA24.old
          clear hA24'
          try simp only [eX, ↓reduceIte, Nat.reduceEqDiff, Int.reduceToNat]
          refine hK _ _ ?_; clear hK K
          refine OW_mv rfl ?_
          refine OW_opS (fun K hK r => ?_)
          simp only [x_extract, i_extract, List.getElem?_toArray, List.getElem?_cons_zero, List.getElem?_cons_succ, orF_some, eX, ↓reduceIte, Nat.reduceEqDiff, Int.reduceToNat]
          refine hK _ _ ?_; clear hK K
          refine OW_opS (fun K hK r => ?_)
          simp only [x_extract, i_extract, List.getElem?_toArray, List.getElem?_cons_zero, List.getElem?_cons_succ, orF_some, eX, ↓reduceIte, Nat.reduceEqDiff, Int.reduceToNat]
          refine hK _ _ ?_; clear hK K
          refine OW_as rfl ?_
          refine OW_as rfl ?_
          refine OW_nil ?_
          try simp only [Ex.thnH, Ex.inBlockH, ↓reduceIte, Nat.reduceEqDiff]
          refine hK8 _ _ ?_; try clear hK8 K8
          refine CW_seq (fun K9 hK9 => ?_)
          refine CW_region ?_
          refine OW_opS (fun K hK r => ?_)
          simp only [x_buildSlice, List.map_toArray, List.map_cons, List.map_nil, eX, ↓reduceIte, Nat.reduceEqDiff, Int.reduceToNat]
          refine Lt_buildSlice (vs := [_, _, _]) Try.underlying56 sz3 zr3 rfl bsA (by first | decide | (simp; done)) ?_
          simp only [List.flatMap_cons, List.flatMap_nil, Value.cells, List.append_nil, List.cons_append, List.nil_append, List.length_cons, List.length_nil, Nat.zero_add, Nat.reduceAdd]
          intro b28 hb28
          try have n28_b23 : b23 ≠ b28 := ne_of_none hbA hb28
          have f28_H : H b28 = none := none_of_le lhA hb28
          try simp only [eX, ↓reduceIte, Nat.reduceEqDiff, Int.reduceToNat]
          refine hK _ _ ?_; clear hK K
          refine OW_opS (fun K hK r => ?_)
          simp only [x_callF _ bd10, List.map_toArray, List.map_cons, List.map_nil, eX, ↓reduceIte, Nat.reduceEqDiff, Int.reduceToNat]
          refine (newL _ _ _ [4, 4, 4] ⟨rfl, .inr ⟨b28, 0, 3, _, _, _, rfl, hbA, by simp, by simp⟩⟩ rfl (by decide)).mono ?_
          rintro v29 H29 ⟨q, F29, rfl, hA29⟩
          have hT := Two.new (hA24.more (le_upd _ _ _ hb28)) hA29
          have hO29 := hT.old
          try simp only [eX, ↓reduceIte, Nat.reduceEqDiff, Int.reduceToNat]
          refine hK _ _ ?_; clear hK K
          refine OW_mv rfl ?_
          refine OW_opS (fun K hK r => ?_)
          simp only [x_extract, i_extract, List.getElem?_toArray, List.getElem?_cons_zero, List.getElem?_cons_succ, orF_some, eX, ↓reduceIte, Nat.reduceEqDiff, Int.reduceToNat]
          refine hK _ _ ?_; clear hK K
          refine OW_opS (fun K hK r => ?_)
          simp only [x_extract, i_extract, List.getElem?_toArray, List.getElem?_cons_zero, List.getElem?_cons_succ, orF_some, eX, ↓reduceIte, Nat.reduceEqDiff, Int.reduceToNat]
          refine hK _ _ ?_; clear hK K
          refine OW_as rfl ?_
          refine OW_as rfl ?_
          refine OW_nil ?_
          try simp only [Ex.thnH, Ex.inBlockH, ↓reduceIte, Nat.reduceEqDiff]
          refine hK9 _ _ ?_; try clear hK9 K9
          refine CW_seq (fun K10 hK10 => ?_)
          refine CW_seq (fun K11 hK11 => ?_)
          refine CW_region ?_
          refine OW_mv rfl ?_
          refine OW_opS (fun K hK r => ?_)
          simp only [x_bin, g_int, g_bool, g_string, g_pointer, g_slice, g_map, g_func, g_nilFunc, g_err, g_iface, g_nil_iface, g_nil_r, g_nil_l, eX, ↓reduceIte, Nat.reduceEqDiff, Int.reduceToNat]
          first | rw [b_err_neq _ _ Try.underlying28] | (rw [e_neq _ _ _ _ (by simp), q_equal]; first | rw [q_iface_nil _ _ _ Try.underlying28] | rw [q_nil_iface _ _ _ Try.underlying28] | rw [q_nil_nil _ _ _ Try.underlying28])
          try simp only [eX, ↓reduceIte, Nat.reduceEqDiff, Int.reduceToNat]
          refine hK _ _ ?_; clear hK K
          refine OW_mv rfl ?_
          (first | refine OW_split (d := 34) rfl (fun g34 => ?_) (fun g34 => ?_) | skip)
          all_goals try (exfalso; exact cnA g34)
          all_goals (try simp only [decide_eq_true_eq, decide_eq_false_iff_not, Bool.not_eq_true, Bool.not_eq_false, Bool.and_eq_true, Bool.or_eq_true, Bool.or_eq_false_iff, Bool.not_eq_true, Bool.not_eq_eq_eq_not, Bool.not_true, Bool.not_false] at g34)
          all_goals
            try simp only [eX, ↓reduceIte, Nat.reduceEqDiff, Int.reduceToNat]
            first
            | refine OW_guardT rfl (lt_some (by decide)) rfl (fun K hK r => ?_)
              simp only [x_move, eX, ↓reduceIte, Nat.reduceEqDiff, Int.reduceToNat]
              refine hK _ _ ?_; clear hK K
            | refine OW_guardF rfl (lt_some (by decide)) rfl ?_
              simp only [eX, ↓reduceIte, Nat.reduceEqDiff, Int.reduceToNat]
            first
            | refine OW_guardT rfl (lt_some (by decide)) rfl (fun K hK r => ?_)
              simp only [x_bin, g_int, g_bool, g_string, g_pointer, g_slice, g_map, g_func, g_nilFunc, g_err, g_iface, g_nil_iface, g_nil_r, g_nil_l, eX, ↓reduceIte, Nat.reduceEqDiff, Int.reduceToNat]
              first | rw [b_err_neq _ _ Try.underlying28] | (rw [e_neq _ _ _ _ (by simp), q_equal]; first | rw [q_iface_nil _ _ _ Try.underlying28] | rw [q_nil_iface _ _ _ Try.underlying28] | rw [q_nil_nil _ _ _ Try.underlying28])
              try simp only [eX, ↓reduceIte, Nat.reduceEqDiff, Int.reduceToNat]
              refine hK _ _ ?_; clear hK K
            | refine OW_guardF rfl (lt_some (by decide)) rfl ?_
              simp only [eX, ↓reduceIte, Nat.reduceEqDiff, Int.reduceToNat]
            refine OW_opS (fun K hK r => ?_)
            simp only [x_pick, l_asBool, HL.ite_bool, if_true, if_false, Bool.false_eq_true, eX, ↓reduceIte, Nat.reduceEqDiff, Int.reduceToNat]
            refine hK _ _ ?_; clear hK K
            refine OW_nil ?_
            try simp only [Ex.thnH, Ex.inBlockH, ↓reduceIte, Nat.reduceEqDiff]
            refine hK11 _ _ ?_; try clear hK11 K11
            refine CW_cond (fun r => rfl) (fun c37 => ?_) (fun c37 => ?_)
            · first
              | (exfalso; exact cnA c37; done)
              | skip
                (try simp only [decide_eq_true_eq, decide_eq_false_iff_not, Bool.not_eq_true, Bool.not_eq_false, Bool.and_eq_true, Bool.or_eq_true, Bool.or_eq_false_iff, Bool.not_eq_true, Bool.not_eq_eq_eq_not, Bool.not_true, Bool.not_false] at c37)
                refine CW_seq (fun K12 hK12 => ?_)
                refine CW_region ?_
                refine OW_as rfl ?_
                refine OW_nil ?_
                try simp only [Ex.thnH, Ex.inBlockH, ↓reduceIte, Nat.reduceEqDiff]
                refine hK12 _ _ ?_; try clear hK12 K12
                refine CW_ret ?_
                try simp only [Ex.thnH, Ex.inBlockH, ↓reduceIte, Nat.reduceEqDiff]
                skip
            · first
              | (exfalso; exact cnA c37; done)
              | skip
                (try simp only [decide_eq_true_eq, decide_eq_false_iff_not, Bool.not_eq_true, Bool.not_eq_false, Bool.and_eq_true, Bool.or_eq_true, Bool.or_eq_false_iff, Bool.not_eq_true, Bool.not_eq_eq_eq_not, Bool.not_true, Bool.not_false] at c37)
                refine CW_skip ?_
                try simp only [Ex.thnH, Ex.inBlockH, ↓reduceIte, Nat.reduceEqDiff]
                refine hK10 _ _ ?_; try clear hK10 K10
                refine CW_seq (fun K13 hK13 => ?_)
                refine CW_region ?_
                refine OW_mv rfl ?_
                refine OW_opS (fun K hK r => ?_)
                simp (disch := (first | omega | decide)) only [x_convert, c_int _ _ _ _ Try.underlying3 Try.underlying51, wrap_i64, wrap_u64, wrap_u32, wrap_u8, eX, ↓reduceIte, Nat.reduceEqDiff, Int.reduceToNat]
                refine hK _ _ ?_; clear hK K
                refine OW_opS (fun K hK r => ?_)
                simp (disch := (first | omega | decide)) only [x_bin, g_int, b_rem, wrap_i64, wrap_u64, wrap_u32, wrap_u8, eX, ↓reduceIte, Nat.reduceEqDiff, Int.reduceToNat]
                refine hK _ _ ?_; clear hK K
                refine OW_opS (fun K hK r => ?_)
                simp (disch := (first | omega | decide)) only [x_convert, c_int _ _ _ _ Try.underlying51 Try.underlying3, wrap_i64, wrap_u64, wrap_u32, wrap_u8, eX, ↓reduceIte, Nat.reduceEqDiff, Int.reduceToNat]
                refine hK _ _ ?_; clear hK K
                refine OW_as rfl ?_
                refine OW_nil ?_
                try simp only [Ex.thnH, Ex.inBlockH, ↓reduceIte, Nat.reduceEqDiff]
                refine hK13 _ _ ?_; try clear hK13 K13
                refine CW_seq (fun K14 hK14 => ?_)
                refine CW_seq (fun K15 hK15 => ?_)
                refine CW_region ?_
                refine OW_mv rfl ?_
                refine OW_opS (fun K hK r => ?_)
                simp only [x_builtin, l_len, List.map_toArray, List.map_cons, List.map_nil, i_len_slice _ _ Try.underlying22, eX, ↓reduceIte, Nat.reduceEqDiff, Int.reduceToNat]
                refine hK _ _ ?_; clear hK K
                refine OW_mv rfl ?_
                refine OW_nil ?_
                try simp only [Ex.thnH, Ex.inBlockH, ↓reduceIte, Nat.reduceEqDiff]
                refine hK15 _ _ ?_; try clear hK15 K15
                refine CW_block ?_
                refine CW_loop (fun m e H_ => ∃ (k : Nat) (F1 F2 : Hp) (s t : St), k ≤ l.length ∧ m = l.length - k ∧ Two H H_ F1 F2 p q s t ∧ Al o s t ∧ Sm k s ∧ Sm k t ∧ Env.has [(1, .int .i64 o), (5, .pointer (some ⟨p, 0, none⟩)), (7, .pointer (some ⟨q, 0, none⟩)), (42, .slice a l.length cap), (43, .int .i64 l.length), (44, .int .i64 k)] e) (l.length) ?_ ?_
                · skip
                  refine ⟨0, _, _, _, _, by omega, by omega, hT, al_new _ ⟨ho3, ho4⟩, Sm.new (by decide), Sm.new (by decide), ?_, rfl, rfl, rfl, rfl, rfl, trivial⟩
                  first | (rw [← ho1]; rfl) | (rw [← ho2]; rfl)
                intro m_ e_ H_ hI_
                obtain ⟨k, F1, F2, s, t, hk, rfl, hT, hAl, hSs, hSt, he⟩ := hI_
                have hO := hT.old
                refine CW_env he.sub ?_; clear he e_
                refine CW_seq (fun K16 hK16 => ?_)
                refine CW_region ?_
                refine OW_opS (fun K hK r => ?_)
                simp (disch := (first | omega | decide)) only [x_bin, g_int, b_lss, dec_lt_t, dec_lt_f, dec_le_t, dec_le_f, dec_eq_t, dec_eq_f, Bool.not_true, Bool.not_false, eX, ↓reduceIte, Nat.reduceEqDiff, Int.reduceToNat]
                refine hK _ _ ?_; clear hK K
                refine OW_nil ?_
                try simp only [Ex.thnH, Ex.inBlockH, ↓reduceIte, Nat.reduceEqDiff]
                refine hK16 _ _ ?_; try clear hK16 K16
                refine CW_seq (fun K17 hK17 => ?_)
                refine CW_cond (fun r => rfl) (fun c45 => ?_) (fun c45 => ?_)
                · first
                  | (exfalso; exact cnA c45; done)
                  | skip
                    (try simp only [decide_eq_true_eq, decide_eq_false_iff_not, Bool.not_eq_true, Bool.not_eq_false, Bool.and_eq_true, Bool.or_eq_true, Bool.or_eq_false_iff, Bool.not_eq_true, Bool.not_eq_eq_eq_not, Bool.not_true, Bool.not_false] at c45)
                    obtain ⟨bw, ow, cw, Tw, Fw, ew, hbw, hsw, atw⟩ := (hv.le hO).at (by omega)
                    refine CW_skip ?_
                    try simp only [Ex.thnH, Ex.inBlockH, ↓reduceIte, Nat.reduceEqDiff]
                    refine hK17 _ _ ?_; try clear hK17 K17
                    refine CW_seq (fun K18 hK18 => ?_)
                    refine CW_block ?_
                    refine CW_seq (fun K19 hK19 => ?_)
                    refine CW_region ?_
                    refine OW_opS (fun K hK r => ?_)
                    simp only [x_indexAddr, eX, ↓reduceIte, Nat.reduceEqDiff, Int.reduceToNat]
                    refine Lt_indexSof Try.underlying22 sz35 ew ixA ixA ?_
                    try simp only [Int.toNat_natCast]
                    refine hK _ _ ?_; clear hK K
                    refine OW_opS (fun K hK r => ?_)
                    simp only [x_load, eX, ↓reduceIte, Nat.reduceEqDiff, Int.reduceToNat]
                    refine Lt_loadAtA Try.underlying35 rfl sz35 hbw (by omega) ?_
                    rw [ext_at Op1.len atw rfl k (by omega) hsw]
                    refine hK _ _ ?_; clear hK K
                    refine OW_opS (fun K hK r => ?_)
                    simp only [x_alloc, zr35, orF_some, Value.cells, eX, ↓reduceIte, Nat.reduceEqDiff, Int.reduceToNat]
                    intro b10 hb10
                    try have n10_b23 : b23 ≠ b10 := ne_of_none hbA hb10
                    try have n10_b28 : b28 ≠ b10 := ne_of_none hbA hb10
                    have f10_H : H b10 = none := none_of_le lhA hb10
                    try simp only [eX, ↓reduceIte, Nat.reduceEqDiff, Int.reduceToNat]
                    refine hK _ _ ?_; clear hK K
                    refine OW_op rfl (lt_none) (fun K hK r => ?_)
                    simp only [x_store, eX, ↓reduceIte, Nat.reduceEqDiff, Int.reduceToNat]
                    refine Lt_storeAll sz35 (by simp) hbA (by simp) (Op1.plain _) (by decide) ?_
                    refine hK _ _ ?_; clear hK K
                    refine OW_nil ?_
                    try simp only [Ex.thnH, Ex.inBlockH, ↓reduceIte, Nat.reduceEqDiff]
                    refine hK19 _ _ ?_; try clear hK19 K19
                    refine CW_seq (fun K20 hK20 => ?_)
                    refine CW_seq (fun K21 hK21 => ?_)
                    refine CW_region ?_
                    refine OW_opS (fun K hK r => ?_)
                    simp only [x_fieldAddr, fa35_0, add_mk, Nat.reduceAdd, Nat.zero_add, eX, ↓reduceIte, Nat.reduceEqDiff, Int.reduceToNat]
                    refine hK _ _ ?_; clear hK K
                    refine OW_opS (fun K hK r => ?_)
                    simp only [x_load, eX, ↓reduceIte, Nat.reduceEqDiff, Int.reduceToNat]
                    refine Lt_loadAt1 Try.underlying3 rfl hbA ldA ?_
                    try simp only [eX, ↓reduceIte, Nat.reduceEqDiff, Int.reduceToNat]
                    refine hK _ _ ?_; clear hK K
                    refine OW_opS (fun K hK r => ?_)
                    simp (disch := (first | omega | decide)) only [x_bin, g_int, b_neq, dec_lt_t, dec_lt_f, dec_le_t, dec_le_f, dec_eq_t, dec_eq_f, Bool.not_true, Bool.not_false, eX, ↓reduceIte, Nat.reduceEqDiff, Int.reduceToNat]
                    refine hK _ _ ?_; clear hK K
                    refine OW_mv rfl ?_
                    (first | refine OW_split (d := 51) rfl (fun g51 => ?_) (fun g51 => ?_) | skip)
                    all_goals try (exfalso; exact cnA g51)
                    all_goals (try simp only [decide_eq_true_eq, decide_eq_false_iff_not, Bool.not_eq_true, Bool.not_eq_false, Bool.and_eq_true, Bool.or_eq_true, Bool.or_eq_false_iff, Bool.not_eq_true, Bool.not_eq_eq_eq_not, Bool.not_true, Bool.not_false] at g51)
                    all_goals
                      try simp only [eX, ↓reduceIte, Nat.reduceEqDiff, Int.reduceToNat]
                      first
                      | refine OW_guardT rfl (lt_some (by decide)) rfl (fun K hK r => ?_)
                        simp only [x_fieldAddr, fa35_0, add_mk, Nat.reduceAdd, Nat.zero_add, eX, ↓reduceIte, Nat.reduceEqDiff, Int.reduceToNat]
                        refine hK _ _ ?_; clear hK K
                      | refine OW_guardF rfl (lt_some (by decide)) rfl ?_
                        simp only [eX, ↓reduceIte, Nat.reduceEqDiff, Int.reduceToNat]
                      first
                      | refine OW_guardT rfl (lt_some (by decide)) rfl (fun K hK r => ?_)
                        simp only [x_load, eX, ↓reduceIte, Nat.reduceEqDiff, Int.reduceToNat]
                        refine Lt_loadAt1 Try.underlying3 rfl hbA ldA ?_
                        try simp only [eX, ↓reduceIte, Nat.reduceEqDiff, Int.reduceToNat]
                        refine hK _ _ ?_; clear hK K
                      | refine OW_guardF rfl (lt_some (by decide)) rfl ?_
                        simp only [eX, ↓reduceIte, Nat.reduceEqDiff, Int.reduceToNat]
                      first
                      | refine OW_guardT rfl (lt_some (by decide)) rfl (fun K hK r => ?_)
                        simp (disch := (first | omega | decide)) only [x_bin, g_int, b_neq, dec_lt_t, dec_lt_f, dec_le_t, dec_le_f, dec_eq_t, dec_eq_f, Bool.not_true, Bool.not_false, eX, ↓reduceIte, Nat.reduceEqDiff, Int.reduceToNat]
                        refine hK _ _ ?_; clear hK K
                      | refine OW_guardF rfl (lt_some (by decide)) rfl ?_
                        simp only [eX, ↓reduceIte, Nat.reduceEqDiff, Int.reduceToNat]
                      refine OW_opS (fun K hK r => ?_)
                      simp only [x_pick, l_asBool, HL.ite_bool, if_true, if_false, Bool.false_eq_true, eX, ↓reduceIte, Nat.reduceEqDiff, Int.reduceToNat]
                      refine hK _ _ ?_; clear hK K
                      refine OW_mv rfl ?_
                      (first | refine OW_split (d := 56) rfl (fun g56 => ?_) (fun g56 => ?_) | skip)
                      all_goals try (exfalso; exact cnA g56)
                      all_goals (try simp only [decide_eq_true_eq, decide_eq_false_iff_not, Bool.not_eq_true, Bool.not_eq_false, Bool.and_eq_true, Bool.or_eq_true, Bool.or_eq_false_iff, Bool.not_eq_true, Bool.not_eq_eq_eq_not, Bool.not_true, Bool.not_false] at g56)
                      all_goals
                        try simp only [eX, ↓reduceIte, Nat.reduceEqDiff, Int.reduceToNat]
                        first
                        | refine OW_guardT rfl (lt_some (by decide)) rfl (fun K hK r => ?_)
                          simp only [x_fieldAddr, fa35_1, add_mk, Nat.reduceAdd, Nat.zero_add, eX, ↓reduceIte, Nat.reduceEqDiff, Int.reduceToNat]
                          refine hK _ _ ?_; clear hK K
                        | refine OW_guardF rfl (lt_some (by decide)) rfl ?_
                          simp only [eX, ↓reduceIte, Nat.reduceEqDiff, Int.reduceToNat]
                        first
                        | refine OW_guardT rfl (lt_some (by decide)) rfl (fun K hK r => ?_)
                          simp only [x_load, eX, ↓reduceIte, Nat.reduceEqDiff, Int.reduceToNat]
                          refine Lt_loadAt1 Try.underlying3 rfl hbA ldA ?_
                          try simp only [eX, ↓reduceIte, Nat.reduceEqDiff, Int.reduceToNat]
                          refine hK _ _ ?_; clear hK K
                        | refine OW_guardF rfl (lt_some (by decide)) rfl ?_
                          simp only [eX, ↓reduceIte, Nat.reduceEqDiff, Int.reduceToNat]
                        first
                        | refine OW_guardT rfl (lt_some (by decide)) rfl (fun K hK r => ?_)
                          simp (disch := (first | omega | decide)) only [x_bin, g_int, b_lss, dec_lt_t, dec_lt_f, dec_le_t, dec_le_f, dec_eq_t, dec_eq_f, Bool.not_true, Bool.not_false, eX, ↓reduceIte, Nat.reduceEqDiff, Int.reduceToNat]
                          refine hK _ _ ?_; clear hK K
                        | refine OW_guardF rfl (lt_some (by decide)) rfl ?_
                          simp only [eX, ↓reduceIte, Nat.reduceEqDiff, Int.reduceToNat]
                        refine OW_opS (fun K hK r => ?_)
                        simp only [x_pick, l_asBool, HL.ite_bool, if_true, if_false, Bool.false_eq_true, eX, ↓reduceIte, Nat.reduceEqDiff, Int.reduceToNat]
                        refine hK _ _ ?_; clear hK K
                        refine OW_mv rfl ?_
                        (first | refine OW_split (d := 61) rfl (fun g61 => ?_) (fun g61 => ?_) | skip)
                        all_goals try (exfalso; exact cnA g61)
                        all_goals (try simp only [decide_eq_true_eq, decide_eq_false_iff_not, Bool.not_eq_true, Bool.not_eq_false, Bool.and_eq_true, Bool.or_eq_true, Bool.or_eq_false_iff, Bool.not_eq_true, Bool.not_eq_eq_eq_not, Bool.not_true, Bool.not_false] at g61)
                        all_goals
                          try simp only [eX, ↓reduceIte, Nat.reduceEqDiff, Int.reduceToNat]
                          first
                          | refine OW_guardT rfl (lt_some (by decide)) rfl (fun K hK r => ?_)
                            simp only [x_fieldAddr, fa35_1, add_mk, Nat.reduceAdd, Nat.zero_add, eX, ↓reduceIte, Nat.reduceEqDiff, Int.reduceToNat]
                            refine hK _ _ ?_; clear hK K
                          | refine OW_guardF rfl (lt_some (by decide)) rfl ?_
                            simp only [eX, ↓reduceIte, Nat.reduceEqDiff, Int.reduceToNat]
                          first
                          | refine OW_guardT rfl (lt_some (by decide)) rfl (fun K hK r => ?_)
                            simp only [x_load, eX, ↓reduceIte, Nat.reduceEqDiff, Int.reduceToNat]
                            refine Lt_loadAt1 Try.underlying3 rfl hbA ldA ?_
                            try simp only [eX, ↓reduceIte, Nat.reduceEqDiff, Int.reduceToNat]
                            refine hK _ _ ?_; clear hK K
                          | refine OW_guardF rfl (lt_some (by decide)) rfl ?_
                            simp only [eX, ↓reduceIte, Nat.reduceEqDiff, Int.reduceToNat]
                          first
                          | refine OW_guardT rfl (lt_some (by decide)) rfl (fun K hK r => ?_)
                            simp (disch := (first | omega | decide)) only [x_bin, g_int, b_gtr, dec_lt_t, dec_lt_f, dec_le_t, dec_le_f, dec_eq_t, dec_eq_f, Bool.not_true, Bool.not_false, eX, ↓reduceIte, Nat.reduceEqDiff, Int.reduceToNat]
                            refine hK _ _ ?_; clear hK K
                          | refine OW_guardF rfl (lt_some (by decide)) rfl ?_
                            simp only [eX, ↓reduceIte, Nat.reduceEqDiff, Int.reduceToNat]
                          refine OW_opS (fun K hK r => ?_)
                          simp only [x_pick, l_asBool, HL.ite_bool, if_true, if_false, Bool.false_eq_true, eX, ↓reduceIte, Nat.reduceEqDiff, Int.reduceToNat]
                          refine hK _ _ ?_; clear hK K
                          refine OW_nil ?_
                          try simp only [Ex.thnH, Ex.inBlockH, ↓reduceIte, Nat.reduceEqDiff]
                          refine hK21 _ _ ?_; try clear hK21 K21
                          refine CW_cond (fun r => rfl) (fun c65 => ?_) (fun c65 => ?_)
                          · first
                            | (exfalso; exact cnA c65; done)
                            | skip
                              (try simp only [decide_eq_true_eq, decide_eq_false_iff_not, Bool.not_eq_true, Bool.not_eq_false, Bool.and_eq_true, Bool.or_eq_true, Bool.or_eq_false_iff, Bool.not_eq_true, Bool.not_eq_eq_eq_not, Bool.not_true, Bool.not_false] at c65)
                              refine CW_exit ?_
                              try simp only [Ex.thnH, Ex.inBlockH, ↓reduceIte, Nat.reduceEqDiff]
                              refine hK18 _ _ ?_; try clear hK18 K18
                              refine CW_region ?_
                              refine OW_opS (fun K hK r => ?_)
                              simp (disch := (first | omega | decide)) only [x_bin, g_int, b_add, wrap_i64, wrap_u64, wrap_u32, wrap_u8, eX, ↓reduceIte, Nat.reduceEqDiff, Int.reduceToNat]
                              refine hK _ _ ?_; clear hK K
                              refine OW_mv rfl ?_
                              refine OW_nil ?_
                              try simp only [Ex.thnH, Ex.inBlockH, ↓reduceIte, Nat.reduceEqDiff]
                              first
                              | exact ⟨l.length - (k + 1), by omega, k + 1, _, _, _, _, by omega, rfl, hT4, hAl4, hSs4, hSt4, rfl, rfl, rfl, rfl, rfl, rfl, trivial⟩
                              | exact ⟨l.length - (k + 1), by omega, k + 1, F1, F2, s, t, by omega, rfl, (hT.put hb10 _).less (le_upd _ _ _ f10_H), hAl, hSs.up (by omega), hSt.up (by omega), rfl, rfl, rfl, rfl, rfl, rfl, trivial⟩
                          · first
                            | (exfalso; exact cnA c65; done)
                            | skip
                              (try simp only [decide_eq_true_eq, decide_eq_false_iff_not, Bool.not_eq_true, Bool.not_eq_false, Bool.and_eq_true, Bool.or_eq_true, Bool.or_eq_false_iff, Bool.not_eq_true, Bool.not_eq_eq_eq_not, Bool.not_true, Bool.not_false] at c65)
                              refine CW_skip ?_
                              try simp only [Ex.thnH, Ex.inBlockH, ↓reduceIte, Nat.reduceEqDiff]
                              refine hK20 _ _ ?_; try clear hK20 K20
                              refine CW_seq (fun K22 hK22 => ?_)
                              refine CW_region ?_
                              refine OW_mv rfl ?_
                              refine OW_mv rfl ?_
                              refine OW_opS (fun K hK r => ?_)
                              simp only [x_buildSlice, List.map_toArray, List.map_cons, List.map_nil, eX, ↓reduceIte, Nat.reduceEqDiff, Int.reduceToNat]
                              refine Lt_buildSlice (vs := [_, _]) Try.underlying52 sz26 zr26 rfl bsA (by first | decide | (simp; done)) ?_
                              simp only [List.flatMap_cons, List.flatMap_nil, Value.cells, List.append_nil, List.cons_append, List.nil_append, List.length_cons, List.length_nil, Nat.zero_add, Nat.reduceAdd]
                              intro b68 hb68
                              try have n68_b23 : b23 ≠ b68 := ne_of_none hbA hb68
                              try have n68_b28 : b28 ≠ b68 := ne_of_none hbA hb68
                              try have n68_b10 : b10 ≠ b68 := ne_of_none hbA hb68
                              have f68_H : H b68 = none := none_of_le lhA hb68
                              try simp only [eX, ↓reduceIte, Nat.reduceEqDiff, Int.reduceToNat]
                              refine hK _ _ ?_; clear hK K
                              refine OW_opS (fun K hK r => ?_)
                              simp only [x_builtin, l_len, List.map_toArray, List.map_cons, List.map_nil, i_len_slice _ _ Try.underlying52, eX, ↓reduceIte, Nat.reduceEqDiff, Int.reduceToNat]
                              refine hK _ _ ?_; clear hK K
                              refine OW_mv rfl ?_
                              refine OW_nil ?_
                              try simp only [Ex.thnH, Ex.inBlockH, ↓reduceIte, Nat.reduceEqDiff]
                              refine hK22 _ _ ?_; try clear hK22 K22
                              refine CW_block ?_
                              refine CW_loop (fun m e H_ => ∃ (j : Nat) (F1 F2 : Hp), j ≤ 2 ∧ m = 2 - j ∧ Two ((H.upd b10 (.cells (l.getD k default).c.toArray 35)).upd b68 (.cells #[ptrV p, ptrV q] 26)) H_ F1 F2 p q (if j = 0 then s else actS (l.getD k default).kind (l.getD k default).dev (l.getD k default).n (fullS (l.getD k default).b) s) (if j = 2 ∧ (l.getD k default).dev = o then actS (l.getD k default).kind (l.getD k default).dev (l.getD k default).n (fullS (l.getD k default).b) t else t) ∧ Env.has [(1, .int .i64 o), (5, .pointer (some ⟨p, 0, none⟩)), (7, .pointer (some ⟨q, 0, none⟩)), (10, .pointer (some ⟨b10, 0, none⟩)), (42, .slice a l.length cap), (43, .int .i64 l.length), (44, .int .i64 k), (68, .slice (some ⟨b68, 0, none⟩) 2 2), (69, .int .i64 2), (70, .int .i64 j)] e) (2) ?_ ?_
                              · skip
                                exact ⟨0, F1, F2, by omega, by omega, (hT.put hb10 _).put hb68 _, rfl, rfl, rfl, rfl, rfl, rfl, rfl, rfl, rfl, rfl, trivial⟩
                              intro m_ e_ H_ hI_
                              obtain ⟨j, F1', F2', hj, rfl, hT2, he⟩ := hI_
                              have hO2 := hT2.old
                              have q10 : H_ b10 = some (.cells (l.getD k default).c.toArray 35) := hO2 _ _ ((upd_ne _ _ n68_b10).trans (upd_same _ _ _))
                              have hSs2 : Sm (k + 1) (if j = 0 then s else actS (l.getD k default).kind (l.getD k default).dev (l.getD k default).n (fullS (l.getD k default).b) s) := by
                                split
                                · exact hSs.up (by omega)
                                · exact hSs.act _ _ _ _
                              have hSt2 : Sm (k + 1) (if j = 2 ∧ (l.getD k default).dev = o then actS (l.getD k default).kind (l.getD k default).dev (l.getD k default).n (fullS (l.getD k default).b) t else t) := by
                                split
                                · exact hSt.act _ _ _ _
                                · exact hSt.up (by omega)
                              have hk1 : k + 1 ≤ 1000000 := by omega
                              refine CW_env he.sub ?_; clear he e_
                              refine CW_seq (fun K23 hK23 => ?_)
                              refine CW_region ?_
                              refine OW_opS (fun K hK r => ?_)
                              simp (disch := (first | omega | decide)) only [x_bin, g_int, b_lss, dec_lt_t, dec_lt_f, dec_le_t, dec_le_f, dec_eq_t, dec_eq_f, Bool.not_true, Bool.not_false, eX, ↓reduceIte, Nat.reduceEqDiff, Int.reduceToNat]
                              refine hK _ _ ?_; clear hK K
                              refine OW_nil ?_
                              try simp only [Ex.thnH, Ex.inBlockH, ↓reduceIte, Nat.reduceEqDiff]
                              refine hK23 _ _ ?_; try clear hK23 K23
                              refine CW_seq (fun K24 hK24 => ?_)
                              refine CW_cond (fun r => rfl) (fun c71 => ?_) (fun c71 => ?_)
                              · first
                                | (exfalso; exact cnA c71; done)
                                | skip
                                  (try simp only [decide_eq_true_eq, decide_eq_false_iff_not, Bool.not_eq_true, Bool.not_eq_false, Bool.and_eq_true, Bool.or_eq_true, Bool.or_eq_false_iff, Bool.not_eq_true, Bool.not_eq_eq_eq_not, Bool.not_true, Bool.not_false] at c71)
                                  refine CW_skip ?_
                                  try simp only [Ex.thnH, Ex.inBlockH, ↓reduceIte, Nat.reduceEqDiff]
                                  refine hK24 _ _ ?_; try clear hK24 K24
                                  refine CW_seq (fun K25 hK25 => ?_)
                                  refine CW_block ?_
                                  refine CW_seq (fun K26 hK26 => ?_)
                                  refine CW_region ?_
                                  refine OW_opS (fun K hK r => ?_)
                                  simp only [x_indexAddr, eX, ↓reduceIte, Nat.reduceEqDiff, Int.reduceToNat]
                                  refine Lt_indexS Try.underlying52 sz26 ixA ixA ?_
                                  try simp only [add_mk, Nat.mul_one, Nat.zero_add, Int.reduceToNat]
                                  try simp only [eX, ↓reduceIte, Nat.reduceEqDiff, Int.reduceToNat]
                                  refine hK _ _ ?_; clear hK K
                                  refine OW_opS (fun K hK r => ?_)
                                  simp only [x_load, eX, ↓reduceIte, Nat.reduceEqDiff, Int.reduceToNat]
                                  refine Lt_loadAt1 Try.underlying26 rfl (hO2 _ _ (upd_same _ _ _)) (v := ptrV (if j = 0 then p else q)) (by rcases (show j = 0 ∨ j = 1 by omega) with rfl | rfl <;> rfl) ?_
                                  refine hK _ _ ?_; clear hK K
                                  refine OW_as rfl ?_
                                  refine OW_nil ?_
                                  try simp only [Ex.thnH, Ex.inBlockH, ↓reduceIte, Nat.reduceEqDiff]
                                  refine hK26 _ _ ?_; try clear hK26 K26
                                  refine CW_seq (fun K27 hK27 => ?_)
                                  refine CW_seq (fun K28 hK28 => ?_)
                                  refine CW_region ?_
                                  refine OW_mv rfl ?_
                                  refine OW_mv rfl ?_
                                  refine OW_opS (fun K hK r => ?_)
                                  simp only [x_bin, g_int, g_bool, g_string, g_pointer, g_slice, g_map, g_func, g_nilFunc, g_iface, g_nil_iface, g_nil_r, g_nil_l, eX, ↓reduceIte, Nat.reduceEqDiff, Int.reduceToNat]
                                  rw [e_eql _ _ _ _ (by simp)]
                                  rw [q_equal]
                                  refine q_sel hT2 _ j _ ?_
                                  refine hK _ _ ?_; clear hK K
                                  refine OW_mv rfl ?_
                                  (first | refine OW_split (d := 77) rfl (fun g77 => ?_) (fun g77 => ?_) | skip)
                                  all_goals try (exfalso; exact cnA g77)
                                  all_goals (try simp only [decide_eq_true_eq, decide_eq_false_iff_not, Bool.not_eq_true, Bool.not_eq_false, Bool.and_eq_true, Bool.or_eq_true, Bool.or_eq_false_iff, Bool.not_eq_true, Bool.not_eq_eq_eq_not, Bool.not_true, Bool.not_false] at g77)
                                  all_goals
                                    try simp only [eX, ↓reduceIte, Nat.reduceEqDiff, Int.reduceToNat]
                                    first
                                    | refine OW_guardT rfl (lt_some (by decide)) rfl (fun K hK r => ?_)
                                      simp only [x_fieldAddr, fa35_1, add_mk, Nat.reduceAdd, Nat.zero_add, eX, ↓reduceIte, Nat.reduceEqDiff, Int.reduceToNat]
                                      refine hK _ _ ?_; clear hK K
                                    | refine OW_guardF rfl (lt_some (by decide)) rfl ?_
                                      simp only [eX, ↓reduceIte, Nat.reduceEqDiff, Int.reduceToNat]
                                    first
                                    | refine OW_guardT rfl (lt_some (by decide)) rfl (fun K hK r => ?_)
                                      simp only [x_load, eX, ↓reduceIte, Nat.reduceEqDiff, Int.reduceToNat]
                                      refine Lt_loadAt1 Try.underlying3 rfl hbA ldA ?_
                                      try simp only [eX, ↓reduceIte, Nat.reduceEqDiff, Int.reduceToNat]
                                      refine hK _ _ ?_; clear hK K
                                    | refine OW_guardF rfl (lt_some (by decide)) rfl ?_
                                      simp only [eX, ↓reduceIte, Nat.reduceEqDiff, Int.reduceToNat]
                                    first
                                    | refine OW_guardT rfl (lt_some (by decide)) rfl (fun K hK r => ?_)
                                      simp only [x_move, eX, ↓reduceIte, Nat.reduceEqDiff, Int.reduceToNat]
                                      refine hK _ _ ?_; clear hK K
                                    | refine OW_guardF rfl (lt_some (by decide)) rfl ?_
                                      simp only [eX, ↓reduceIte, Nat.reduceEqDiff, Int.reduceToNat]
                                    first
                                    | refine OW_guardT rfl (lt_some (by decide)) rfl (fun K hK r => ?_)
                                      simp (disch := (first | omega | decide)) only [x_bin, g_int, b_neq, dec_lt_t, dec_lt_f, dec_le_t, dec_le_f, dec_eq_t, dec_eq_f, Bool.not_true, Bool.not_false, eX, ↓reduceIte, Nat.reduceEqDiff, Int.reduceToNat]
                                      refine hK _ _ ?_; clear hK K
                                    | refine OW_guardF rfl (lt_some (by decide)) rfl ?_
                                      simp only [eX, ↓reduceIte, Nat.reduceEqDiff, Int.reduceToNat]
                                    refine OW_opS (fun K hK r => ?_)
                                    simp only [x_pick, l_asBool, HL.ite_bool, if_true, if_false, Bool.false_eq_true, eX, ↓reduceIte, Nat.reduceEqDiff, Int.reduceToNat]
                                    refine hK _ _ ?_; clear hK K
                                    refine OW_nil ?_
                                    try simp only [Ex.thnH, Ex.inBlockH, ↓reduceIte, Nat.reduceEqDiff]
                                    refine hK28 _ _ ?_; try clear hK28 K28
                                    refine CW_cond (fun r => rfl) (fun c82 => ?_) (fun c82 => ?_)
                                    · first
                                      | (exfalso; exact cnA c82; done)
                                      | skip
                                        (try simp only [decide_eq_true_eq, decide_eq_false_iff_not, Bool.not_eq_true, Bool.not_eq_false, Bool.and_eq_true, Bool.or_eq_true, Bool.or_eq_false_iff, Bool.not_eq_true, Bool.not_eq_eq_eq_not, Bool.not_true, Bool.not_false] at c82)
                                        refine CW_exit ?_
                                        try simp only [Ex.thnH, Ex.inBlockH, ↓reduceIte, Nat.reduceEqDiff]
                                        refine hK25 _ _ ?_; try clear hK25 K25
                                        refine CW_region ?_
                                        refine OW_opS (fun K hK r => ?_)
                                        simp (disch := (first | omega | decide)) only [x_bin, g_int, b_add, wrap_i64, wrap_u64, wrap_u32, wrap_u8, eX, ↓reduceIte, Nat.reduceEqDiff, Int.reduceToNat]
                                        refine hK _ _ ?_; clear hK K
                                        refine OW_mv rfl ?_
                                        refine OW_nil ?_
                                        try simp only [Ex.thnH, Ex.inBlockH, ↓reduceIte, Nat.reduceEqDiff]
                                        rcases (show j = 0 ∨ j = 1 by omega) with rfl | rfl
                                        · first
                                          | (exfalso; omega)
                                          | skip
                                            simp only [if_true] at hT3
                                            have e2 : (if (0 : Nat) = 2 ∧ (l.getD k default).dev = o then actS (l.getD k default).kind (l.getD k default).dev (l.getD k default).n (fullS (l.getD k default).b) t else t) = t := if_neg (fun h => absurd h.1 (by decide))
                                            have e3 : (if (1 : Nat) = 2 ∧ (l.getD k default).dev = o then actS (l.getD k default).kind (l.getD k default).dev (l.getD k default).n (fullS (l.getD k default).b) t else t) = t := if_neg (fun h => absurd h.1 (by decide))
                                            rw [e2] at hT3
                                            refine ⟨2 - (0 + 1), by omega, 1, F1', F2', by omega, rfl, ?_, rfl, rfl, rfl, rfl, rfl, rfl, rfl, rfl, rfl, rfl, trivial⟩
                                            first
                                            | (have e1 : actS (l.getD k default).kind (l.getD k default).dev (l.getD k default).n (fullS (l.getD k default).b) s = (s.wr (l.getD k default).dev (l.getD k default).n (fullS (l.getD k default).b)).1 := if_pos (show (l.getD k default).kind = 1 by omega)
                                               rw [e3, if_neg (show ¬ (1 : Nat) = 0 by decide), e1]; exact hT3)
                                            | (have e1 : actS (l.getD k default).kind (l.getD k default).dev (l.getD k default).n (fullS (l.getD k default).b) s = (s.fl (l.getD k default).dev).1 := if_neg (show ¬ (l.getD k default).kind = 1 by omega)
                                               rw [e3, if_neg (show ¬ (1 : Nat) = 0 by decide), e1]; exact hT3)
                                        · first
                                          | (exfalso; omega)
                                          | skip
                                            first
                                            | (have hod : (l.getD k default).dev = o := by first | assumption | omega
                                               simp only [show ¬ (1 : Nat) = 0 from by decide, if_false, show ¬ (1 : Nat) = 2 from by decide, false_and] at hT3
                                               refine ⟨2 - (1 + 1), by omega, 2, F1', F2', by omega, rfl, ?_, rfl, rfl, rfl, rfl, rfl, rfl, rfl, rfl, rfl, rfl, trivial⟩
                                               rw [if_neg (by decide), if_pos ⟨rfl, hod⟩]
                                               first
                                               | (have e1 : actS (l.getD k default).kind (l.getD k default).dev (l.getD k default).n (fullS (l.getD k default).b) t = (t.wr (l.getD k default).dev (l.getD k default).n (fullS (l.getD k default).b)).1 := if_pos (show (l.getD k default).kind = 1 by omega)
                                                  rw [e1]; exact hT3)
                                               | (have e1 : actS (l.getD k default).kind (l.getD k default).dev (l.getD k default).n (fullS (l.getD k default).b) t = (t.fl (l.getD k default).dev).1 := if_neg (show ¬ (l.getD k default).kind = 1 by omega)
                                                  rw [e1]; exact hT3))
                                            | (have hod : ¬ (l.getD k default).dev = o := by first | assumption | omega
                                               simp only [show ¬ (1 : Nat) = 0 from by decide, if_false, show ¬ (1 : Nat) = 2 from by decide, false_and] at hT2
                                               refine ⟨2 - (1 + 1), by omega, 2, F1', F2', by omega, rfl, ?_, rfl, rfl, rfl, rfl, rfl, rfl, rfl, rfl, rfl, rfl, trivial⟩
                                               rw [if_neg (by decide), if_neg (fun h => hod h.2)]; exact hT2)
                                    · first
                                      | (exfalso; exact cnA c82; done)
                                      | skip
                                        (try simp only [decide_eq_true_eq, decide_eq_false_iff_not, Bool.not_eq_true, Bool.not_eq_false, Bool.and_eq_true, Bool.or_eq_true, Bool.or_eq_false_iff, Bool.not_eq_true, Bool.not_eq_eq_eq_not, Bool.not_true, Bool.not_false] at c82)
                                        refine CW_skip ?_
                                        try simp only [Ex.thnH, Ex.inBlockH, ↓reduceIte, Nat.reduceEqDiff]
                                        refine hK27 _ _ ?_; try clear hK27 K27
                                        refine CW_seq (fun K29 hK29 => ?_)
                                        refine CW_region ?_
                                        refine OW_opS (fun K hK r => ?_)
                                        simp only [x_fieldAddr, fa35_0, add_mk, Nat.reduceAdd, Nat.zero_add, eX, ↓reduceIte, Nat.reduceEqDiff, Int.reduceToNat]
                                        refine hK _ _ ?_; clear hK K
                                        refine OW_opS (fun K hK r => ?_)
                                        simp only [x_load, eX, ↓reduceIte, Nat.reduceEqDiff, Int.reduceToNat]
                                        refine Lt_loadAt1 Try.underlying3 rfl hbA ldA ?_
                                        try simp only [eX, ↓reduceIte, Nat.reduceEqDiff, Int.reduceToNat]
                                        refine hK _ _ ?_; clear hK K
                                        refine OW_opS (fun K hK r => ?_)
                                        simp (disch := (first | omega | decide)) only [x_bin, g_int, b_eql, dec_lt_t, dec_lt_f, dec_le_t, dec_le_f, dec_eq_t, dec_eq_f, Bool.not_true, Bool.not_false, eX, ↓reduceIte, Nat.reduceEqDiff, Int.reduceToNat]
                                        refine hK _ _ ?_; clear hK K
                                        refine OW_nil ?_
                                        try simp only [Ex.thnH, Ex.inBlockH, ↓reduceIte, Nat.reduceEqDiff]
                                        refine hK29 _ _ ?_; try clear hK29 K29
                                        refine CW_cond (fun r => rfl) (fun c85 => ?_) (fun c85 => ?_)
                                        · first
                                          | (exfalso; exact cnA c85; done)
                                          | skip
                                            (try simp only [decide_eq_true_eq, decide_eq_false_iff_not, Bool.not_eq_true, Bool.not_eq_false, Bool.and_eq_true, Bool.or_eq_true, Bool.or_eq_false_iff, Bool.not_eq_true, Bool.not_eq_eq_eq_not, Bool.not_true, Bool.not_false] at c85)
                                            obtain ⟨R19, hR19⟩ : ∃ R : Hp, R = emptyHp.upd b10 (.cells (l.getD k default).c.toArray 35) := ⟨_, rfl⟩
                                            refine CW_drawR [0, 0, 1, 0, 1, 0, 1, 2, 2] [0, 1, 2, 3, 4, 5, 6, 7, 8] R19 (by kernel_rfl) (by kernel_rfl) (by subst hR19; exact le_put (le_empty _) hbA) (fun lR19 => ?_)
                                            apply TW_pure rfl (lt_some (by decide)) rfl
                                            · intro r
                                              simp only [x_move, eX, ↓reduceIte, Nat.reduceEqDiff]
                                              exact ⟨rfl, Le.refl _⟩
                                            simp only [eX, ↓reduceIte, Nat.reduceEqDiff, Int.reduceToNat]
                                            apply TW_pure rfl (lt_some (by decide)) rfl
                                            · intro r
                                              simp only [x_fieldAddr, fa35_1, add_mk, Nat.reduceAdd, Nat.zero_add, eX, ↓reduceIte, Nat.reduceEqDiff]
                                              exact ⟨rfl, Le.refl _⟩
                                            simp only [eX, ↓reduceIte, Nat.reduceEqDiff, Int.reduceToNat]
                                            apply TW_look rfl (lt_some (by decide)) rfl
                                            · intro r
                                              simp only [x_load, eX, ↓reduceIte, Nat.reduceEqDiff]
                                              refine Lt_loadAt1 Try.underlying3 rfl hbA ldA ?_
                                              exact ⟨rfl, Le.refl _⟩
                                            simp only [eX, ↓reduceIte, Nat.reduceEqDiff, Int.reduceToNat]
                                            apply TW_pure rfl (lt_some (by decide)) rfl
                                            · intro r
                                              simp only [x_fieldAddr, fa35_2, add_mk, Nat.reduceAdd, Nat.zero_add, eX, ↓reduceIte, Nat.reduceEqDiff]
                                              exact ⟨rfl, Le.refl _⟩
                                            simp only [eX, ↓reduceIte, Nat.reduceEqDiff, Int.reduceToNat]
                                            apply TW_look rfl (lt_some (by decide)) rfl
                                            · intro r
                                              simp only [x_load, eX, ↓reduceIte, Nat.reduceEqDiff]
                                              refine Lt_loadAt1 Try.underlying3 rfl hbA ldA ?_
                                              exact ⟨rfl, Le.refl _⟩
                                            simp only [eX, ↓reduceIte, Nat.reduceEqDiff, Int.reduceToNat]
                                            apply TW_pure rfl (lt_some (by decide)) rfl
                                            · intro r
                                              simp only [x_fieldAddr, fa35_3, add_mk, Nat.reduceAdd, Nat.zero_add, eX, ↓reduceIte, Nat.reduceEqDiff]
                                              exact ⟨rfl, Le.refl _⟩
                                            simp only [eX, ↓reduceIte, Nat.reduceEqDiff, Int.reduceToNat]
                                            apply TW_look rfl (lt_some (by decide)) rfl
                                            · intro r
                                              simp only [x_load, eX, ↓reduceIte, Nat.reduceEqDiff]
                                              refine Lt_loadAt1 Try.underlying5 rfl hbA ldA ?_
                                              exact ⟨rfl, Le.refl _⟩
                                            simp only [eX, ↓reduceIte, Nat.reduceEqDiff, Int.reduceToNat]
                                            refine TW_chain rfl (lt_some (by decide)) rfl (fun K hK r => ?_)
                                            simp only [x_callF _ bd12, List.map_toArray, List.map_cons, List.map_nil, eX, ↓reduceIte, Nat.reduceEqDiff, Int.reduceToNat]
                                            refine (full_ok _ _).mono ?_
                                            rintro v H' ⟨rfl, rfl⟩
                                            try simp only [eX, ↓reduceIte, Nat.reduceEqDiff, Int.reduceToNat]
                                            refine hK _ _ leA ?_; clear hK K
                                            refine TW_chain rfl (lt_some (by decide)) rfl (fun K hK r => ?_)
                                            simp only [x_callF _ bd11, List.map_toArray, List.map_cons, List.map_nil, eX, ↓reduceIte, Nat.reduceEqDiff, Int.reduceToNat]
                                            refine (hT2.write hSs2 hSt2 hk1 j (l.getD k default).dev (l.getD k default).n (fullS (l.getD k default).b)).mono ?_
                                            rintro v94 H94 ⟨rfl, F1', F2', hT3⟩
                                            have hO3 := hT3.old
                                            have lR94 : Le R19 H94 := by rw [hR19]; exact le_put (le_empty _) (hO3 _ _ ((upd_ne _ _ n68_b10).trans (upd_same _ _ _)))
                                            try simp only [eX, ↓reduceIte, Nat.reduceEqDiff, Int.reduceToNat]
                                            refine hK _ _ leA ?_; clear hK K
                                            refine TW_nil ?_
                                            try simp only [Ex.thnH, Ex.inBlockH, ↓reduceIte, Nat.reduceEqDiff]
                                            refine hK25 _ _ ?_; try clear hK25 K25
                                            refine CW_region ?_
                                            refine OW_opS (fun K hK r => ?_)
                                            simp (disch := (first | omega | decide)) only [x_bin, g_int, b_add, wrap_i64, wrap_u64, wrap_u32, wrap_u8, eX, ↓reduceIte, Nat.reduceEqDiff, Int.reduceToNat]
                                            refine hK _ _ ?_; clear hK K
                                            refine OW_mv rfl ?_
                                            refine OW_nil ?_
                                            try simp only [Ex.thnH, Ex.inBlockH, ↓reduceIte, Nat.reduceEqDiff]
                                            rcases (show j = 0 ∨ j = 1 by omega) with rfl | rfl
                                            · first
                                              | (exfalso; omega)
                                              | skip
                                                simp only [if_true] at hT3
                                                have e2 : (if (0 : Nat) = 2 ∧ (l.getD k default).dev = o then actS (l.getD k default).kind (l.getD k default).dev (l.getD k default).n (fullS (l.getD k default).b) t else t) = t := if_neg (fun h => absurd h.1 (by decide))
                                                have e3 : (if (1 : Nat) = 2 ∧ (l.getD k default).dev = o then actS (l.getD k default).kind (l.getD k default).dev (l.getD k default).n (fullS (l.getD k default).b) t else t) = t := if_neg (fun h => absurd h.1 (by decide))
                                                rw [e2] at hT3
                                                refine ⟨2 - (0 + 1), by omega, 1, F1', F2', by omega, rfl, ?_, rfl, rfl, rfl, rfl, rfl, rfl, rfl, rfl, rfl, rfl, trivial⟩
                                                first
                                                | (have e1 : actS (l.getD k default).kind (l.getD k default).dev (l.getD k default).n (fullS (l.getD k default).b) s = (s.wr (l.getD k default).dev (l.getD k default).n (fullS (l.getD k default).b)).1 := if_pos (show (l.getD k default).kind = 1 by omega)
                                                   rw [e3, if_neg (show ¬ (1 : Nat) = 0 by decide), e1]; exact hT3)
                                                | (have e1 : actS (l.getD k default).kind (l.getD k default).dev (l.getD k default).n (fullS (l.getD k default).b) s = (s.fl (l.getD k default).dev).1 := if_neg (show ¬ (l.getD k default).kind = 1 by omega)
                                                   rw [e3, if_neg (show ¬ (1 : Nat) = 0 by decide), e1]; exact hT3)
                                            · first
                                              | (exfalso; omega)
                                              | skip
                                                first
                                                | (have hod : (l.getD k default).dev = o := by first | assumption | omega
                                                   simp only [show ¬ (1 : Nat) = 0 from by decide, if_false, show ¬ (1 : Nat) = 2 from by decide, false_and] at hT3
                                                   refine ⟨2 - (1 + 1), by omega, 2, F1', F2', by omega, rfl, ?_, rfl, rfl, rfl, rfl, rfl, rfl, rfl, rfl, rfl, rfl, trivial⟩
                                                   rw [if_neg (by decide), if_pos ⟨rfl, hod⟩]
                                                   first
                                                   | (have e1 : actS (l.getD k default).kind (l.getD k default).dev (l.getD k default).n (fullS (l.getD k default).b) t = (t.wr (l.getD k default).dev (l.getD k default).n (fullS (l.getD k default).b)).1 := if_pos (show (l.getD k default).kind = 1 by omega)
                                                      rw [e1]; exact hT3)
                                                   | (have e1 : actS (l.getD k default).kind (l.getD k default).dev (l.getD k default).n (fullS (l.getD k default).b) t = (t.fl (l.getD k default).dev).1 := if_neg (show ¬ (l.getD k default).kind = 1 by omega)
                                                      rw [e1]; exact hT3))
                                                | (have hod : ¬ (l.getD k default).dev = o := by first | assumption | omega
                                                   simp only [show ¬ (1 : Nat) = 0 from by decide, if_false, show ¬ (1 : Nat) = 2 from by decide, false_and] at hT2
                                                   refine ⟨2 - (1 + 1), by omega, 2, F1', F2', by omega, rfl, ?_, rfl, rfl, rfl, rfl, rfl, rfl, rfl, rfl, rfl, rfl, trivial⟩
                                                   rw [if_neg (by decide), if_neg (fun h => hod h.2)]; exact hT2)
                                        · first
                                          | (exfalso; exact cnA c85; done)
                                          | skip
                                            (try simp only [decide_eq_true_eq, decide_eq_false_iff_not, Bool.not_eq_true, Bool.not_eq_false, Bool.and_eq_true, Bool.or_eq_true, Bool.or_eq_false_iff, Bool.not_eq_true, Bool.not_eq_eq_eq_not, Bool.not_true, Bool.not_false] at c85)
                                            refine CW_region ?_
                                            refine OW_mv rfl ?_
                                            refine OW_opS (fun K hK r => ?_)
                                            simp only [x_fieldAddr, fa35_1, add_mk, Nat.reduceAdd, Nat.zero_add, eX, ↓reduceIte, Nat.reduceEqDiff, Int.reduceToNat]
                                            refine hK _ _ ?_; clear hK K
                                            refine OW_opS (fun K hK r => ?_)
                                            simp only [x_load, eX, ↓reduceIte, Nat.reduceEqDiff, Int.reduceToNat]
                                            refine Lt_loadAt1 Try.underlying3 rfl hbA ldA ?_
                                            try simp only [eX, ↓reduceIte, Nat.reduceEqDiff, Int.reduceToNat]
                                            refine hK _ _ ?_; clear hK K
                                            refine OW_opS (fun K hK r => ?_)
                                            simp only [x_callF _ bd13, List.map_toArray, List.map_cons, List.map_nil, eX, ↓reduceIte, Nat.reduceEqDiff, Int.reduceToNat]
                                            refine (hT2.flush hSs2 hSt2 hk1 j (l.getD k default).dev).mono ?_
                                            rintro v98 H98 ⟨rfl, F1', F2', hT3⟩
                                            have hO3 := hT3.old
                                            try simp only [eX, ↓reduceIte, Nat.reduceEqDiff, Int.reduceToNat]
                                            refine hK _ _ ?_; clear hK K
                                            refine OW_nil ?_
                                            try simp only [Ex.thnH, Ex.inBlockH, ↓reduceIte, Nat.reduceEqDiff]
                                            refine hK25 _ _ ?_; try clear hK25 K25
                                            refine CW_region ?_
                                            refine OW_opS (fun K hK r => ?_)
                                            simp (disch := (first | omega | decide)) only [x_bin, g_int, b_add, wrap_i64, wrap_u64, wrap_u32, wrap_u8, eX, ↓reduceIte, Nat.reduceEqDiff, Int.reduceToNat]
                                            refine hK _ _ ?_; clear hK K
                                            refine OW_mv rfl ?_
                                            refine OW_nil ?_
                                            try simp only [Ex.thnH, Ex.inBlockH, ↓reduceIte, Nat.reduceEqDiff]
                                            rcases (show j = 0 ∨ j = 1 by omega) with rfl | rfl
                                            · first
                                              | (exfalso; omega)
                                              | skip
                                                simp only [if_true] at hT3
                                                have e2 : (if (0 : Nat) = 2 ∧ (l.getD k default).dev = o then actS (l.getD k default).kind (l.getD k default).dev (l.getD k default).n (fullS (l.getD k default).b) t else t) = t := if_neg (fun h => absurd h.1 (by decide))
                                                have e3 : (if (1 : Nat) = 2 ∧ (l.getD k default).dev = o then actS (l.getD k default).kind (l.getD k default).dev (l.getD k default).n (fullS (l.getD k default).b) t else t) = t := if_neg (fun h => absurd h.1 (by decide))
                                                rw [e2] at hT3
                                                refine ⟨2 - (0 + 1), by omega, 1, F1', F2', by omega, rfl, ?_, rfl, rfl, rfl, rfl, rfl, rfl, rfl, rfl, rfl, rfl, trivial⟩
                                                first
                                                | (have e1 : actS (l.getD k default).kind (l.getD k default).dev (l.getD k default).n (fullS (l.getD k default).b) s = (s.wr (l.getD k default).dev (l.getD k default).n (fullS (l.getD k default).b)).1 := if_pos (show (l.getD k default).kind = 1 by omega)
                                                   rw [e3, if_neg (show ¬ (1 : Nat) = 0 by decide), e1]; exact hT3)
                                                | (have e1 : actS (l.getD k default).kind (l.getD k default).dev (l.getD k default).n (fullS (l.getD k default).b) s = (s.fl (l.getD k default).dev).1 := if_neg (show ¬ (l.getD k default).kind = 1 by omega)
                                                   rw [e3, if_neg (show ¬ (1 : Nat) = 0 by decide), e1]; exact hT3)
                                            · first
                                              | (exfalso; omega)
                                              | skip
                                                first
                                                | (have hod : (l.getD k default).dev = o := by first | assumption | omega
                                                   simp only [show ¬ (1 : Nat) = 0 from by decide, if_false, show ¬ (1 : Nat) = 2 from by decide, false_and] at hT3
                                                   refine ⟨2 - (1 + 1), by omega, 2, F1', F2', by omega, rfl, ?_, rfl, rfl, rfl, rfl, rfl, rfl, rfl, rfl, rfl, rfl, trivial⟩
                                                   rw [if_neg (by decide), if_pos ⟨rfl, hod⟩]
                                                   first
                                                   | (have e1 : actS (l.getD k default).kind (l.getD k default).dev (l.getD k default).n (fullS (l.getD k default).b) t = (t.wr (l.getD k default).dev (l.getD k default).n (fullS (l.getD k default).b)).1 := if_pos (show (l.getD k default).kind = 1 by omega)
                                                      rw [e1]; exact hT3)
                                                   | (have e1 : actS (l.getD k default).kind (l.getD k default).dev (l.getD k default).n (fullS (l.getD k default).b) t = (t.fl (l.getD k default).dev).1 := if_neg (show ¬ (l.getD k default).kind = 1 by omega)
                                                      rw [e1]; exact hT3))
                                                | (have hod : ¬ (l.getD k default).dev = o := by first | assumption | omega
                                                   simp only [show ¬ (1 : Nat) = 0 from by decide, if_false, show ¬ (1 : Nat) = 2 from by decide, false_and] at hT2
                                                   refine ⟨2 - (1 + 1), by omega, 2, F1', F2', by omega, rfl, ?_, rfl, rfl, rfl, rfl, rfl, rfl, rfl, rfl, rfl, rfl, trivial⟩
                                                   rw [if_neg (by decide), if_neg (fun h => hod h.2)]; exact hT2)
                              · first
                                | (exfalso; exact cnA c71; done)
                                | skip
                                  (try simp only [decide_eq_true_eq, decide_eq_false_iff_not, Bool.not_eq_true, Bool.not_eq_false, Bool.and_eq_true, Bool.or_eq_true, Bool.or_eq_false_iff, Bool.not_eq_true, Bool.not_eq_eq_eq_not, Bool.not_true, Bool.not_false] at c71)
                                  have hj2 : j = 2 := by omega
                                  subst hj2
                                  have hT4 := hT2.less (show Le H _ from Le.trans (le_upd _ _ _ f10_H) (le_upd _ _ _ ((upd_ne _ _ (Ne.symm n68_b10)).trans f68_H)))
                                  simp only [show ¬ (2 : Nat) = 0 from by decide, if_false, true_and] at hT4
                                  have hAl4 := hAl.act ⟨ho3, ho4⟩ (dev := (l.getD k default).dev) ⟨by omega, by omega⟩ (l.getD k default).kind (l.getD k default).n (fullS (l.getD k default).b)
                                  have hSs4 := hSs.act (l.getD k default).kind (l.getD k default).dev (l.getD k default).n (fullS (l.getD k default).b)
                                  have hSt4 : Sm (k + 1) (if (l.getD k default).dev = o then actS (l.getD k default).kind (l.getD k default).dev (l.getD k default).n (fullS (l.getD k default).b) t else t) := by
                                    split
                                    · exact hSt.act _ _ _ _
                                    · exact hSt.up (by omega)
                                  refine CW_exit ?_
                                  try simp only [Ex.thnH, Ex.inBlockH, ↓reduceIte, Nat.reduceEqDiff]
                                  refine hK18 _ _ ?_; try clear hK18 K18
                                  refine CW_region ?_
                                  refine OW_opS (fun K hK r => ?_)
                                  simp (disch := (first | omega | decide)) only [x_bin, g_int, b_add, wrap_i64, wrap_u64, wrap_u32, wrap_u8, eX, ↓reduceIte, Nat.reduceEqDiff, Int.reduceToNat]
                                  refine hK _ _ ?_; clear hK K
                                  refine OW_mv rfl ?_
                                  refine OW_nil ?_
                                  try simp only [Ex.thnH, Ex.inBlockH, ↓reduceIte, Nat.reduceEqDiff]
                                  first
                                  | exact ⟨l.length - (k + 1), by omega, k + 1, _, _, _, _, by omega, rfl, hT4, hAl4, hSs4, hSt4, rfl, rfl, rfl, rfl, rfl, rfl, trivial⟩
                                  | exact ⟨l.length - (k + 1), by omega, k + 1, F1, F2, s, t, by omega, rfl, (hT.put hb10 _).less (le_upd _ _ _ f10_H), hAl, hSs.up (by omega), hSt.up (by omega), rfl, rfl, rfl, rfl, rfl, rfl, trivial⟩
                · first
                  | (exfalso; exact cnA c45; done)
                  | skip
                    (try simp only [decide_eq_true_eq, decide_eq_false_iff_not, Bool.not_eq_true, Bool.not_eq_false, Bool.and_eq_true, Bool.or_eq_true, Bool.or_eq_false_iff, Bool.not_eq_true, Bool.not_eq_eq_eq_not, Bool.not_true, Bool.not_false] at c45)
                    obtain ⟨HF, hHF⟩ : ∃ HF : Hp, HF = H_ := ⟨_, rfl⟩
                    subst hHF
                    refine CW_exit ?_
                    try simp only [Ex.thnH, Ex.inBlockH, ↓reduceIte, Nat.reduceEqDiff]
                    refine hK14 _ _ ?_; try clear hK14 K14
                    refine CW_seq (fun K30 hK30 => ?_)
                    refine CW_seq (fun K31 hK31 => ?_)
                    refine CW_region ?_
                    refine OW_mv rfl ?_
                    refine OW_nil ?_
                    try simp only [Ex.thnH, Ex.inBlockH, ↓reduceIte, Nat.reduceEqDiff]
                    refine hK31 _ _ ?_; try clear hK31 K31
                    refine CW_block ?_
                    refine CW_loop (fun m e H_ => ∃ i : Nat, i ≤ 4 ∧ m = 4 - i ∧ Le HF H_ ∧ Env.has [(1, .int .i64 o), (5, .pointer (some ⟨p, 0, none⟩)), (7, .pointer (some ⟨q, 0, none⟩)), (101, .int .i64 i)] e) (4) ?_ ?_
                    · skip
                      exact ⟨0, by omega, by omega, Le.refl _, rfl, rfl, rfl, rfl, trivial⟩
                    intro m_ e_ H_ hI_
                    obtain ⟨i, hi4, rfl, hlF, he⟩ := hI_
                    have hTi := hT.more hlF
                    have hOi := hTi.old
                    refine CW_env he.sub ?_; clear he e_
                    refine CW_seq (fun K32 hK32 => ?_)
                    refine CW_region ?_
                    refine OW_opS (fun K hK r => ?_)
                    simp (disch := (first | omega | decide)) only [x_bin, g_int, b_lss, dec_lt_t, dec_lt_f, dec_le_t, dec_le_f, dec_eq_t, dec_eq_f, Bool.not_true, Bool.not_false, eX, ↓reduceIte, Nat.reduceEqDiff, Int.reduceToNat]
                    refine hK _ _ ?_; clear hK K
                    refine OW_nil ?_
                    try simp only [Ex.thnH, Ex.inBlockH, ↓reduceIte, Nat.reduceEqDiff]
                    refine hK32 _ _ ?_; try clear hK32 K32
                    refine CW_seq (fun K33 hK33 => ?_)
                    refine CW_cond (fun r => rfl) (fun c102 => ?_) (fun c102 => ?_)
                    · first
                      | (exfalso; exact cnA c102; done)
                      | skip
                        (try simp only [decide_eq_true_eq, decide_eq_false_iff_not, Bool.not_eq_true, Bool.not_eq_false, Bool.and_eq_true, Bool.or_eq_true, Bool.or_eq_false_iff, Bool.not_eq_true, Bool.not_eq_eq_eq_not, Bool.not_true, Bool.not_false] at c102)
                        have hrd := hAl.rd ⟨ho3, ho4⟩ (i := (i : Int)) (by omega)
                        refine CW_skip ?_
                        try simp only [Ex.thnH, Ex.inBlockH, ↓reduceIte, Nat.reduceEqDiff]
                        refine hK33 _ _ ?_; try clear hK33 K33
                        refine CW_seq (fun K34 hK34 => ?_)
                        refine CW_block ?_
                        refine CW_seq (fun K35 hK35 => ?_)
                        refine CW_region ?_
                        refine OW_mv rfl ?_
                        refine OW_as rfl ?_
                        refine OW_nil ?_
                        try simp only [Ex.thnH, Ex.inBlockH, ↓reduceIte, Nat.reduceEqDiff]
                        refine hK35 _ _ ?_; try clear hK35 K35
                        refine CW_seq (fun K36 hK36 => ?_)
                        refine CW_region ?_
                        refine OW_mv rfl ?_
                        refine OW_mv rfl ?_
                        refine OW_mv rfl ?_
                        refine OW_opS (fun K hK r => ?_)
                        simp only [x_callF _ bd16, List.map_toArray, List.map_cons, List.map_nil, eX, ↓reduceIte, Nat.reduceEqDiff, Int.reduceToNat]
                        refine (readL hTi.a hSs (by omega) o (i : Int)).mono ?_
                        rintro v H' ⟨rfl, hq⟩
                        have hq := hq.symm
                        subst hq
                        rw [hrd.2.1]
                        try simp only [eX, ↓reduceIte, Nat.reduceEqDiff, Int.reduceToNat]
                        refine hK _ _ ?_; clear hK K
                        refine OW_mv rfl ?_
                        refine OW_opS (fun K hK r => ?_)
                        simp only [x_extract, i_extract, List.getElem?_toArray, List.getElem?_cons_zero, List.getElem?_cons_succ, orF_some, eX, ↓reduceIte, Nat.reduceEqDiff, Int.reduceToNat]
                        refine hK _ _ ?_; clear hK K
                        refine OW_opS (fun K hK r => ?_)
                        simp only [x_extract, i_extract, List.getElem?_toArray, List.getElem?_cons_zero, List.getElem?_cons_succ, orF_some, eX, ↓reduceIte, Nat.reduceEqDiff, Int.reduceToNat]
                        refine hK _ _ ?_; clear hK K
                        refine OW_opS (fun K hK r => ?_)
                        simp only [x_alloc, zr38, orF_some, Value.cells, eX, ↓reduceIte, Nat.reduceEqDiff, Int.reduceToNat]
                        intro b14 hb14
                        try have n14_b23 : b23 ≠ b14 := ne_of_none hbA hb14
                        try have n14_b28 : b28 ≠ b14 := ne_of_none hbA hb14
                        have f14_H : H b14 = none := none_of_le lhA hb14
                        have f14_F : HF b14 = none := none_of_le hlF hb14
                        have hx1 := (s.rd o (i : Int)).1.h
                        have hx2 := (s.su o (i : Int)).h
                        try simp only [eX, ↓reduceIte, Nat.reduceEqDiff, Int.reduceToNat]
                        refine hK _ _ ?_; clear hK K
                        refine OW_op rfl (lt_none) (fun K hK r => ?_)
                        simp only [x_store, eX, ↓reduceIte, Nat.reduceEqDiff, Int.reduceToNat]
                        first | refine Lt_storeAll sz38 bdA hbA bdA plA (by decide) ?_ | refine Lt_storeAtA sz38 bdA hbA bdA plA (by decide) ?_
                        try simp only [eX, ↓reduceIte, Nat.reduceEqDiff, Int.reduceToNat]
                        refine hK _ _ ?_; clear hK K
                        refine OW_as rfl ?_
                        refine OW_nil ?_
                        try simp only [Ex.thnH, Ex.inBlockH, ↓reduceIte, Nat.reduceEqDiff]
                        refine hK36 _ _ ?_; try clear hK36 K36
                        refine CW_seq (fun K37 hK37 => ?_)
                        refine CW_region ?_
                        refine OW_mv rfl ?_
                        refine OW_mv rfl ?_
                        refine OW_mv rfl ?_
                        refine OW_opS (fun K hK r => ?_)
                        simp only [x_callF _ bd16, List.map_toArray, List.map_cons, List.map_nil, eX, ↓reduceIte, Nat.reduceEqDiff, Int.reduceToNat]
                        refine (readL (hTi.b.more (le_upd _ _ _ hb14)) hSt (by omega) o (i : Int)).mono ?_
                        rintro v H' ⟨rfl, rfl⟩
                        rw [hrd.1, hrd.2.1]
                        try simp only [eX, ↓reduceIte, Nat.reduceEqDiff, Int.reduceToNat]
                        refine hK _ _ ?_; clear hK K
                        refine OW_mv rfl ?_
                        refine OW_opS (fun K hK r => ?_)
                        simp only [x_extract, i_extract, List.getElem?_toArray, List.getElem?_cons_zero, List.getElem?_cons_succ, orF_some, eX, ↓reduceIte, Nat.reduceEqDiff, Int.reduceToNat]
                        refine hK _ _ ?_; clear hK K
                        refine OW_opS (fun K hK r => ?_)
                        simp only [x_extract, i_extract, List.getElem?_toArray, List.getElem?_cons_zero, List.getElem?_cons_succ, orF_some, eX, ↓reduceIte, Nat.reduceEqDiff, Int.reduceToNat]
                        refine hK _ _ ?_; clear hK K
                        refine OW_opS (fun K hK r => ?_)
                        simp only [x_alloc, zr38, orF_some, Value.cells, eX, ↓reduceIte, Nat.reduceEqDiff, Int.reduceToNat]
                        intro b16 hb16
                        try have n16_b23 : b23 ≠ b16 := ne_of_none hbA hb16
                        try have n16_b28 : b28 ≠ b16 := ne_of_none hbA hb16
                        try have n16_b14 : b14 ≠ b16 := ne_of_none hbA hb16
                        have f16_H : H b16 = none := none_of_le lhA hb16
                        have f16_F : HF b16 = none := none_of_le (le_upd_of hlF f14_F) hb16
                        try simp only [eX, ↓reduceIte, Nat.reduceEqDiff, Int.reduceToNat]
                        refine hK _ _ ?_; clear hK K
                        refine OW_op rfl (lt_none) (fun K hK r => ?_)
                        simp only [x_store, eX, ↓reduceIte, Nat.reduceEqDiff, Int.reduceToNat]
                        first | refine Lt_storeAll sz38 bdA hbA bdA plA (by decide) ?_ | refine Lt_storeAtA sz38 bdA hbA bdA plA (by decide) ?_
                        try simp only [eX, ↓reduceIte, Nat.reduceEqDiff, Int.reduceToNat]
                        refine hK _ _ ?_; clear hK K
                        refine OW_as rfl ?_
                        refine OW_nil ?_
                        try simp only [Ex.thnH, Ex.inBlockH, ↓reduceIte, Nat.reduceEqDiff]
                        refine hK37 _ _ ?_; try clear hK37 K37
                        refine CW_seq (fun K38 hK38 => ?_)
                        refine CW_region ?_
                        refine OW_mv rfl ?_
                        refine OW_opS (fun K hK r => ?_)
                        simp only [x_bin, g_int, g_bool, g_string, g_pointer, g_slice, g_map, g_func, g_nilFunc, g_err, g_iface, g_nil_iface, g_nil_r, g_nil_l, eX, ↓reduceIte, Nat.reduceEqDiff, Int.reduceToNat]
                        first | rw [b_err_neq _ _ Try.underlying28] | (rw [e_neq _ _ _ _ (by simp), q_equal]; first | rw [q_iface_nil _ _ _ Try.underlying28] | rw [q_nil_iface _ _ _ Try.underlying28] | rw [q_nil_nil _ _ _ Try.underlying28])
                        try simp only [eX, ↓reduceIte, Nat.reduceEqDiff, Int.reduceToNat]
                        refine hK _ _ ?_; clear hK K
                        refine OW_mv rfl ?_
                        (first | refine OW_split (d := 120) rfl (fun g120 => ?_) (fun g120 => ?_) | skip)
                        all_goals try (exfalso; exact cnA g120)
                        all_goals (try simp only [decide_eq_true_eq, decide_eq_false_iff_not, Bool.not_eq_true, Bool.not_eq_false, Bool.and_eq_true, Bool.or_eq_true, Bool.or_eq_false_iff, Bool.not_eq_true, Bool.not_eq_eq_eq_not, Bool.not_true, Bool.not_false] at g120)
                        all_goals
                          try simp only [eX, ↓reduceIte, Nat.reduceEqDiff, Int.reduceToNat]
                          first
                          | refine OW_guardT rfl (lt_some (by decide)) rfl (fun K hK r => ?_)
                            simp only [x_move, eX, ↓reduceIte, Nat.reduceEqDiff, Int.reduceToNat]
                            refine hK _ _ ?_; clear hK K
                          | refine OW_guardF rfl (lt_some (by decide)) rfl ?_
                            simp only [eX, ↓reduceIte, Nat.reduceEqDiff, Int.reduceToNat]
                          first
                          | refine OW_guardT rfl (lt_some (by decide)) rfl (fun K hK r => ?_)
                            simp only [x_bin, g_int, g_bool, g_string, g_pointer, g_slice, g_map, g_func, g_nilFunc, g_err, g_iface, g_nil_iface, g_nil_r, g_nil_l, eX, ↓reduceIte, Nat.reduceEqDiff, Int.reduceToNat]
                            first | rw [b_err_neq _ _ Try.underlying28] | (rw [e_neq _ _ _ _ (by simp), q_equal]; first | rw [q_iface_nil _ _ _ Try.underlying28] | rw [q_nil_iface _ _ _ Try.underlying28] | rw [q_nil_nil _ _ _ Try.underlying28])
                            try simp only [eX, ↓reduceIte, Nat.reduceEqDiff, Int.reduceToNat]
                            refine hK _ _ ?_; clear hK K
                          | refine OW_guardF rfl (lt_some (by decide)) rfl ?_
                            simp only [eX, ↓reduceIte, Nat.reduceEqDiff, Int.reduceToNat]
                          refine OW_opS (fun K hK r => ?_)
                          simp only [x_pick, l_asBool, HL.ite_bool, if_true, if_false, Bool.false_eq_true, eX, ↓reduceIte, Nat.reduceEqDiff, Int.reduceToNat]
                          refine hK _ _ ?_; clear hK K
                          refine OW_mv rfl ?_
                          (first | refine OW_split (d := 124) rfl (fun g124 => ?_) (fun g124 => ?_) | skip)
                          all_goals try (exfalso; exact cnA g124)
                          all_goals (try simp only [decide_eq_true_eq, decide_eq_false_iff_not, Bool.not_eq_true, Bool.not_eq_false, Bool.and_eq_true, Bool.or_eq_true, Bool.or_eq_false_iff, Bool.not_eq_true, Bool.not_eq_eq_eq_not, Bool.not_true, Bool.not_false] at g124)
                          all_goals
                            try simp only [eX, ↓reduceIte, Nat.reduceEqDiff, Int.reduceToNat]
                            first
                            | refine OW_guardT rfl (lt_some (by decide)) rfl (fun K hK r => ?_)
                              simp only [x_load, eX, ↓reduceIte, Nat.reduceEqDiff, Int.reduceToNat]
                              first | refine Lt_loadAll Try.underlying38 rfl sz38 hbA bdA ?_ | refine Lt_loadAtA Try.underlying38 rfl sz38 hbA bdA ?_
                              try simp only [eX, ↓reduceIte, Nat.reduceEqDiff, Int.reduceToNat]
                              refine hK _ _ ?_; clear hK K
                            | refine OW_guardF rfl (lt_some (by decide)) rfl ?_
                              simp only [eX, ↓reduceIte, Nat.reduceEqDiff, Int.reduceToNat]
                            first
                            | refine OW_guardT rfl (lt_some (by decide)) rfl (fun K hK r => ?_)
                              simp only [x_load, eX, ↓reduceIte, Nat.reduceEqDiff, Int.reduceToNat]
                              first | refine Lt_loadAll Try.underlying38 rfl sz38 hbA bdA ?_ | refine Lt_loadAtA Try.underlying38 rfl sz38 hbA bdA ?_
                              try simp only [eX, ↓reduceIte, Nat.reduceEqDiff, Int.reduceToNat]
                              refine hK _ _ ?_; clear hK K
                            | refine OW_guardF rfl (lt_some (by decide)) rfl ?_
                              simp only [eX, ↓reduceIte, Nat.reduceEqDiff, Int.reduceToNat]
                            first
                            | refine OW_guardT rfl (lt_some (by decide)) rfl (fun K hK r => ?_)
                              simp only [x_bin, g_agg _ _ _ _ _ _ eqg38, eX, ↓reduceIte, Nat.reduceEqDiff, Int.reduceToNat]
                              rw [e_neq _ _ _ _ (by simp)]
                              rw [q_equal, q_array 9999 38 5 64 Try.underlying38 _ Try.underlying5 sz5 (fun x y K => q_int 9998 5 _ Try.underlying5 _ x y K) _ _ bdA bdA]
                              try simp only [eX, ↓reduceIte, Nat.reduceEqDiff, Int.reduceToNat]
                              refine hK _ _ ?_; clear hK K
                            | refine OW_guardF rfl (lt_some (by decide)) rfl ?_
                              simp only [eX, ↓reduceIte, Nat.reduceEqDiff, Int.reduceToNat]
                            refine OW_opS (fun K hK r => ?_)
                            simp only [x_pick, l_asBool, HL.ite_bool, if_true, if_false, Bool.false_eq_true, eX, ↓reduceIte, Nat.reduceEqDiff, Int.reduceToNat]
                            refine hK _ _ ?_; clear hK K
                            refine OW_mv rfl ?_
                            (first | refine OW_split (d := 129) rfl (fun g129 => ?_) (fun g129 => ?_) | skip)
                            all_goals try (exfalso; exact cnA g129)
                            all_goals (try simp only [decide_eq_true_eq, decide_eq_false_iff_not, Bool.not_eq_true, Bool.not_eq_false, Bool.and_eq_true, Bool.or_eq_true, Bool.or_eq_false_iff, Bool.not_eq_true, Bool.not_eq_eq_eq_not, Bool.not_true, Bool.not_false] at g129)
                            all_goals
                              try simp only [eX, ↓reduceIte, Nat.reduceEqDiff, Int.reduceToNat]
                              first
                              | refine OW_guardT rfl (lt_some (by decide)) rfl (fun K hK r => ?_)
                                simp only [x_move, eX, ↓reduceIte, Nat.reduceEqDiff, Int.reduceToNat]
                                refine hK _ _ ?_; clear hK K
                              | refine OW_guardF rfl (lt_some (by decide)) rfl ?_
                                simp only [eX, ↓reduceIte, Nat.reduceEqDiff, Int.reduceToNat]
                              first
                              | refine OW_guardT rfl (lt_some (by decide)) rfl (fun K hK r => ?_)
                                simp only [x_move, eX, ↓reduceIte, Nat.reduceEqDiff, Int.reduceToNat]
                                refine hK _ _ ?_; clear hK K
                              | refine OW_guardF rfl (lt_some (by decide)) rfl ?_
                                simp only [eX, ↓reduceIte, Nat.reduceEqDiff, Int.reduceToNat]
                              first
                              | refine OW_guardT rfl (lt_some (by decide)) rfl (fun K hK r => ?_)
                                simp only [x_move, eX, ↓reduceIte, Nat.reduceEqDiff, Int.reduceToNat]
                                refine hK _ _ ?_; clear hK K
                              | refine OW_guardF rfl (lt_some (by decide)) rfl ?_
                                simp only [eX, ↓reduceIte, Nat.reduceEqDiff, Int.reduceToNat]
                              first
                              | refine OW_guardT rfl (lt_some (by decide)) rfl (fun K hK r => ?_)
                                simp only [x_callF _ bd17, List.map_toArray, List.map_cons, List.map_nil, eX, ↓reduceIte, Nat.reduceEqDiff, Int.reduceToNat]
                                refine (sureL (hTi.a.more (Le.trans (le_upd _ _ _ hb14) (le_upd _ _ _ hb16))) hSs o (i : Int)).mono ?_
                                rintro v H' ⟨rfl, rfl⟩
                                try simp only [eX, ↓reduceIte, Nat.reduceEqDiff, Int.reduceToNat]
                                refine hK _ _ ?_; clear hK K
                              | refine OW_guardF rfl (lt_some (by decide)) rfl ?_
                                simp only [eX, ↓reduceIte, Nat.reduceEqDiff, Int.reduceToNat]
                              first
                              | refine OW_guardT rfl (lt_some (by decide)) rfl (fun K hK r => ?_)
                                simp only [x_move, eX, ↓reduceIte, Nat.reduceEqDiff, Int.reduceToNat]
                                refine hK _ _ ?_; clear hK K
                              | refine OW_guardF rfl (lt_some (by decide)) rfl ?_
                                simp only [eX, ↓reduceIte, Nat.reduceEqDiff, Int.reduceToNat]
                              first
                              | refine OW_guardT rfl (lt_some (by decide)) rfl (fun K hK r => ?_)
                                simp only [x_move, eX, ↓reduceIte, Nat.reduceEqDiff, Int.reduceToNat]
                                refine hK _ _ ?_; clear hK K
                              | refine OW_guardF rfl (lt_some (by decide)) rfl ?_
                                simp only [eX, ↓reduceIte, Nat.reduceEqDiff, Int.reduceToNat]
                              first
                              | refine OW_guardT rfl (lt_some (by decide)) rfl (fun K hK r => ?_)
                                simp only [x_move, eX, ↓reduceIte, Nat.reduceEqDiff, Int.reduceToNat]
                                refine hK _ _ ?_; clear hK K
                              | refine OW_guardF rfl (lt_some (by decide)) rfl ?_
                                simp only [eX, ↓reduceIte, Nat.reduceEqDiff, Int.reduceToNat]
                              first
                              | refine OW_guardT rfl (lt_some (by decide)) rfl (fun K hK r => ?_)
                                simp only [x_callF _ bd17, List.map_toArray, List.map_cons, List.map_nil, eX, ↓reduceIte, Nat.reduceEqDiff, Int.reduceToNat]
                                refine (sureL (hTi.b.more (Le.trans (le_upd _ _ _ hb14) (le_upd _ _ _ hb16))) hSt o (i : Int)).mono ?_
                                rintro v H' ⟨rfl, rfl⟩
                                rw [hrd.2.2.1]
                                try simp only [eX, ↓reduceIte, Nat.reduceEqDiff, Int.reduceToNat]
                                refine hK _ _ ?_; clear hK K
                              | refine OW_guardF rfl (lt_some (by decide)) rfl ?_
                                simp only [eX, ↓reduceIte, Nat.reduceEqDiff, Int.reduceToNat]
                              first
                              | refine OW_guardT rfl (lt_some (by decide)) rfl (fun K hK r => ?_)
                                simp only [x_bin, g_agg _ _ _ _ _ _ eqg38, eX, ↓reduceIte, Nat.reduceEqDiff, Int.reduceToNat]
                                rw [e_neq _ _ _ _ (by simp)]
                                rw [q_equal, q_array 9999 38 5 64 Try.underlying38 _ Try.underlying5 sz5 (fun x y K => q_int 9998 5 _ Try.underlying5 _ x y K) _ _ bdA bdA]
                                try simp only [eX, ↓reduceIte, Nat.reduceEqDiff, Int.reduceToNat]
                                refine hK _ _ ?_; clear hK K
                              | refine OW_guardF rfl (lt_some (by decide)) rfl ?_
                                simp only [eX, ↓reduceIte, Nat.reduceEqDiff, Int.reduceToNat]
                              refine OW_opS (fun K hK r => ?_)
                              simp only [x_pick, l_asBool, HL.ite_bool, if_true, if_false, Bool.false_eq_true, eX, ↓reduceIte, Nat.reduceEqDiff, Int.reduceToNat]
                              refine hK _ _ ?_; clear hK K
                              refine OW_nil ?_
                              try simp only [Ex.thnH, Ex.inBlockH, ↓reduceIte, Nat.reduceEqDiff]
                              refine hK38 _ _ ?_; try clear hK38 K38
                              refine CW_cond (fun r => rfl) (fun c139 => ?_) (fun c139 => ?_)
                              · first
                                | (exfalso; exact cnA c139; done)
                                | skip
                                  (try simp only [decide_eq_true_eq, decide_eq_false_iff_not, Bool.not_eq_true, Bool.not_eq_false, Bool.and_eq_true, Bool.or_eq_true, Bool.or_eq_false_iff, Bool.not_eq_true, Bool.not_eq_eq_eq_not, Bool.not_true, Bool.not_false] at c139)
                                  refine CW_seq (fun K39 hK39 => ?_)
                                  refine CW_region ?_
                                  refine OW_as rfl ?_
                                  refine OW_nil ?_
                                  try simp only [Ex.thnH, Ex.inBlockH, ↓reduceIte, Nat.reduceEqDiff]
                                  refine hK39 _ _ ?_; try clear hK39 K39
                                  refine CW_ret ?_
                                  try simp only [Ex.thnH, Ex.inBlockH, ↓reduceIte, Nat.reduceEqDiff]
                                  exfalso
                                  first | (exact cnA c139; done) | (simp at c139; done) | simp_all
                              · first
                                | (exfalso; exact cnA c139; done)
                                | skip
                                  (try simp only [decide_eq_true_eq, decide_eq_false_iff_not, Bool.not_eq_true, Bool.not_eq_false, Bool.and_eq_true, Bool.or_eq_true, Bool.or_eq_false_iff, Bool.not_eq_true, Bool.not_eq_eq_eq_not, Bool.not_true, Bool.not_false] at c139)
                                  refine CW_skip ?_
                                  try simp only [Ex.thnH, Ex.inBlockH, ↓reduceIte, Nat.reduceEqDiff]
                                  refine hK34 _ _ ?_; try clear hK34 K34
                                  refine CW_region ?_
                                  refine OW_opS (fun K hK r => ?_)
                                  simp (disch := (first | omega | decide)) only [x_bin, g_int, b_add, wrap_i64, wrap_u64, wrap_u32, wrap_u8, eX, ↓reduceIte, Nat.reduceEqDiff, Int.reduceToNat]
                                  refine hK _ _ ?_; clear hK K
                                  refine OW_mv rfl ?_
                                  refine OW_nil ?_
                                  try simp only [Ex.thnH, Ex.inBlockH, ↓reduceIte, Nat.reduceEqDiff]
                                  exact ⟨4 - (i + 1), by omega, i + 1, by omega, rfl, le_upd_of (le_upd_of hlF f14_F) f16_F, rfl, rfl, rfl, rfl, trivial⟩
                    · first
                      | (exfalso; exact cnA c102; done)
                      | skip
                        (try simp only [decide_eq_true_eq, decide_eq_false_iff_not, Bool.not_eq_true, Bool.not_eq_false, Bool.and_eq_true, Bool.or_eq_true, Bool.or_eq_false_iff, Bool.not_eq_true, Bool.not_eq_eq_eq_not, Bool.not_true, Bool.not_false] at c102)
                        refine CW_exit ?_
                        try simp only [Ex.thnH, Ex.inBlockH, ↓reduceIte, Nat.reduceEqDiff]
                        refine hK30 _ _ ?_; try clear hK30 K30
                        refine CW_seq (fun K40 hK40 => ?_)
                        refine CW_region ?_
                        refine OW_mv rfl ?_
                        refine OW_mv rfl ?_
                        refine OW_opS (fun K hK r => ?_)
                        simp only [x_callF _ bd18, List.map_toArray, List.map_cons, List.map_nil, eX, ↓reduceIte, Nat.reduceEqDiff, Int.reduceToNat]
                        refine (waitingL hTi.a hSs o).mono ?_
                        rintro v H' ⟨rfl, hq⟩
                        have hq := hq.symm
                        subst hq
                        try simp only [eX, ↓reduceIte, Nat.reduceEqDiff, Int.reduceToNat]
                        refine hK _ _ ?_; clear hK K
                        refine OW_mv rfl ?_
                        refine OW_mv rfl ?_
                        refine OW_opS (fun K hK r => ?_)
                        simp only [x_callF _ bd18, List.map_toArray, List.map_cons, List.map_nil, eX, ↓reduceIte, Nat.reduceEqDiff, Int.reduceToNat]
                        refine (waitingL hTi.b hSt o).mono ?_
                        rintro v H' ⟨rfl, hq⟩
                        have hq := hq.symm
                        subst hq
                        rw [(hAl.rd ⟨ho3, ho4⟩ (i := 0) (by decide)).2.2.2]
                        try simp only [eX, ↓reduceIte, Nat.reduceEqDiff, Int.reduceToNat]
                        refine hK _ _ ?_; clear hK K
                        refine OW_opS (fun K hK r => ?_)
                        simp (disch := (first | omega | decide)) only [x_bin, g_int, b_eql, dec_lt_t, dec_lt_f, dec_le_t, dec_le_f, dec_eq_t, dec_eq_f, Bool.not_true, Bool.not_false, eX, ↓reduceIte, Nat.reduceEqDiff, Int.reduceToNat]
                        refine hK _ _ ?_; clear hK K
                        refine OW_as rfl ?_
                        refine OW_nil ?_
                        try simp only [Ex.thnH, Ex.inBlockH, ↓reduceIte, Nat.reduceEqDiff]
                        refine hK40 _ _ ?_; try clear hK40 K40
                        refine CW_ret ?_
                        try simp only [Ex.thnH, Ex.inBlockH, ↓reduceIte, Nat.reduceEqDiff]
                        refine ⟨[_], ⟨rfl, trivial⟩, H, lhA, ?_, Le.refl _⟩
                        show Value.bool _ = _
                        simp

end Go.Proofs.Ytkmjncmdhinlgaa.HL
end
