/- Parts of the proof, one behind the other: D57. -/
import Derived.Test.YtkmjncmdhinlgaaX6
set_option linter.unusedSimpArgs false
set_option linter.unusedVariables false
section
namespace Go.Proofs.Ytkmjncmdhinlgaa.HL
open Go Go.Proofs
set_option linter.unusedSimpArgs false
set_option linter.unusedVariables false
attribute [local irreducible] Lt Lq CW OW TW CallH


theorem good43 : goodN [4, 3] = true := by decide
theorem err3 : errOk (some 3) := fun k hk => by cases hk; decide
theorem Both.copyOf {H0 Q K F : Hp} {p : Nat} {s : St} {a : Option Addr} {cap : Nat} {X : List RDX} {m : RSt} {n b : Nat} (h : Both H0 Q K F p s a cap X m n b) (hn : n ≤ 1000) (h1 : 1 ≤ s.dv.length) : CallH Try.prog 27 #[.pointer (some ⟨p, 0, none⟩)] K (fun v K' => ∃ q F', v = ptrV q ∧ Stn K K' F' q s) := by
  obtain ⟨r, c, bs, Fs, hX⟩ := h.st.set
  exact copy_ok K F p s r c bs Fs hX h.st.le h1 (Nat.le_trans h.pr.sm.1 (by omega)) (fun i => Nat.le_trans (h.pr.sm.2 i) (by omega))
theorem St.act_len (s : St) (o : Op1) : (s.act o).dv.length = s.dv.length := by
  unfold St.act
  split
  · rcases wr_cases s o.dev o.n (fullS o.b) with ⟨e, _⟩ | ⟨e, _⟩ | ⟨e, _⟩ <;> rw [e]
    · rw [step_dv]
    · simp
  split
  · rcases fl_cases s o.dev with ⟨e, _⟩ | ⟨e, _⟩ | ⟨e, _⟩ <;> rw [e]
    · rw [step_dv]
    · simp
  split
  · split <;> rfl
  split
  · simp [St.cr]
  · rfl

set_option maxRecDepth 100000 in
set_option maxHeartbeats 16000000 in
theorem lawCopies (H : Hp) (a1 : Option Addr) (cap1 : Nat) (l1 : List Op1) (hv1 : Holds H 5 (.slice a1 l1.length cap1) l1.length (ops l1)) (ho1 : ∀ x ∈ l1, x.ok H) (a2 : Option Addr) (cap2 : Nat) (l2 : List Op1) (hv2 : Holds H 5 (.slice a2 l2.length cap2) l2.length (ops l2)) (ho2 : ∀ x ∈ l2, x.ok H) (i : Int) : CallH Try.prog 7 #[.slice a1 l1.length cap1, .slice a2 l2.length cap2, .int .i64 i] H (fun v H' => v = .bool true ∧ Le H H') := by
  refine CallH_enter (l := [_, _, _]) (rl := [.tmp 6]) (n := 157) Try.func7 rfl rfl rfl rfl rfl ?_
  simp only [envOf, Nat.reduceAdd]
  refine CW_seq (fun K1 hK1 => ?_)
  refine CW_region ?_
  refine OW_as rfl ?_
  refine OW_nil ?_
  try simp only [Ex.thnH, Ex.inBlockH, ↓reduceIte, Nat.reduceEqDiff]
  refine hK1 _ _ ?_; try clear hK1 K1
  refine CW_seq (fun K2 hK2 => ?_)
  refine CW_seq (fun K3 hK3 => ?_)
  refine CW_region ?_
  refine OW_opS (fun K hK r => ?_)
  simp only [x_callF _ bd8, List.map_toArray, List.map_cons, List.map_nil, eX, ↓reduceIte, Nat.reduceEqDiff, Int.reduceToNat]
  refine (alive_ok _).mono ?_
  rintro v22 H' ⟨rfl, hq⟩
  have hq := hq.symm
  subst hq
  try simp only [eX, ↓reduceIte, Nat.reduceEqDiff, Int.reduceToNat]
  refine hK _ _ ?_; clear hK K
  refine OW_opS (fun K hK r => ?_)
  simp only [x_un, u_not, eX, ↓reduceIte, Nat.reduceEqDiff, Int.reduceToNat]
  refine hK _ _ ?_; clear hK K
  refine OW_nil ?_
  try simp only [Ex.thnH, Ex.inBlockH, ↓reduceIte, Nat.reduceEqDiff]
  refine hK3 _ _ ?_; try clear hK3 K3
  refine CW_cond (fun r => rfl) (fun c23 => ?_) (fun c23 => ?_)
  · first
    | (exfalso; exact cnA c23; done)
    | skip
      skip
      refine CW_seq (fun K4 hK4 => ?_)
      refine CW_region ?_
      refine OW_as rfl ?_
      refine OW_nil ?_
      try simp only [Ex.thnH, Ex.inBlockH, ↓reduceIte, Nat.reduceEqDiff]
      refine hK4 _ _ ?_; try clear hK4 K4
      refine CW_ret ?_
      try simp only [Ex.thnH, Ex.inBlockH, ↓reduceIte, Nat.reduceEqDiff]
      skip
  · first
    | (exfalso; exact cnA c23; done)
    | skip
      skip
      refine CW_skip ?_
      try simp only [Ex.thnH, Ex.inBlockH, ↓reduceIte, Nat.reduceEqDiff]
      refine hK2 _ _ ?_; try clear hK2 K2
      refine CW_seq (fun K5 hK5 => ?_)
      refine CW_seq (fun K6 hK6 => ?_)
      refine CW_region ?_
      refine OW_mv rfl ?_
      refine OW_opS (fun K hK r => ?_)
      simp only [x_callF _ bd9, List.map_toArray, List.map_cons, List.map_nil, eX, ↓reduceIte, Nat.reduceEqDiff, Int.reduceToNat]
      refine (long_ok _ a1 cap1 l1 hv1).mono ?_
      rintro v25 H' ⟨t1, rfl, hsh1, hq⟩
      have hq := hq.symm
      subst hq
      try simp only [eX, ↓reduceIte, Nat.reduceEqDiff, Int.reduceToNat]
      refine hK _ _ ?_; clear hK K
      refine OW_mv rfl ?_
      (first | refine OW_split (d := 26) rfl (fun g26 => ?_) (fun g26 => ?_) | skip)
      all_goals try (exfalso; exact cnA g26)
      all_goals (try simp only [decide_eq_true_eq, decide_eq_false_iff_not, Bool.not_eq_true, Bool.not_eq_false, Bool.and_eq_true, Bool.or_eq_true, Bool.or_eq_false_iff, Bool.not_eq_true, Bool.not_eq_eq_eq_not, Bool.not_true, Bool.not_false] at g26)
      all_goals
        try simp only [eX, ↓reduceIte, Nat.reduceEqDiff, Int.reduceToNat]
        first
        | refine OW_guardT rfl (lt_some (by decide)) rfl (fun K hK r => ?_)
          simp only [x_move, eX, ↓reduceIte, Nat.reduceEqDiff, Int.reduceToNat]
          refine hK _ _ ?_; clear hK K
        | refine OW_guardF rfl (lt_some (by decide)) rfl ?_
          simp only [eX, ↓reduceIte, Nat.reduceEqDiff, Int.reduceToNat]
        first
        | refine OW_guardT rfl (lt_some (by decide)) rfl (fun K hK r => ?_)
          simp only [x_callF _ bd9, List.map_toArray, List.map_cons, List.map_nil, eX, ↓reduceIte, Nat.reduceEqDiff, Int.reduceToNat]
          refine (long_ok _ a2 cap2 l2 hv2).mono ?_
          rintro v28 H' ⟨t2, rfl, hsh2, hq⟩
          have hq := hq.symm
          subst hq
          try simp only [eX, ↓reduceIte, Nat.reduceEqDiff, Int.reduceToNat]
          refine hK _ _ ?_; clear hK K
        | refine OW_guardF rfl (lt_some (by decide)) rfl ?_
          simp only [eX, ↓reduceIte, Nat.reduceEqDiff, Int.reduceToNat]
        refine OW_opS (fun K hK r => ?_)
        simp only [x_pick, l_asBool, HL.ite_bool, if_true, if_false, Bool.false_eq_true, eX, ↓reduceIte, Nat.reduceEqDiff, Int.reduceToNat]
        refine hK _ _ ?_; clear hK K
        refine OW_nil ?_
        try simp only [Ex.thnH, Ex.inBlockH, ↓reduceIte, Nat.reduceEqDiff]
        refine hK6 _ _ ?_; try clear hK6 K6
        refine CW_cond (fun r => rfl) (fun c29 => ?_) (fun c29 => ?_)
        · first
          | (exfalso; exact cnA c29; done)
          | skip
            (try simp only [decide_eq_true_eq, decide_eq_false_iff_not, Bool.not_eq_true, Bool.not_eq_false, Bool.and_eq_true, Bool.or_eq_true, Bool.or_eq_false_iff, Bool.not_eq_true, Bool.not_eq_eq_eq_not, Bool.not_true, Bool.not_false] at c29)
            refine CW_seq (fun K7 hK7 => ?_)
            refine CW_region ?_
            refine OW_as rfl ?_
            refine OW_nil ?_
            try simp only [Ex.thnH, Ex.inBlockH, ↓reduceIte, Nat.reduceEqDiff]
            refine hK7 _ _ ?_; try clear hK7 K7
            refine CW_ret ?_
            try simp only [Ex.thnH, Ex.inBlockH, ↓reduceIte, Nat.reduceEqDiff]
            exact ⟨[_], ⟨rfl, trivial⟩, H, lhA, rfl, Le.refl _⟩
        · first
          | (exfalso; exact cnA c29; done)
          | skip
            (try simp only [decide_eq_true_eq, decide_eq_false_iff_not, Bool.not_eq_true, Bool.not_eq_false, Bool.and_eq_true, Bool.or_eq_true, Bool.or_eq_false_iff, Bool.not_eq_true, Bool.not_eq_eq_eq_not, Bool.not_true, Bool.not_false] at c29)
            have hshA := hsh1 (by first | assumption | simp_all)
            have hshB := hsh2 (by first | assumption | simp_all)
            have hlA := hshA.1
            have hlB := hshB.1
            have hsA := hshA.2
            have hsB := hshB.2
            refine CW_skip ?_
            try simp only [Ex.thnH, Ex.inBlockH, ↓reduceIte, Nat.reduceEqDiff]
            refine hK5 _ _ ?_; try clear hK5 K5
            refine CW_seq (fun K8 hK8 => ?_)
            refine CW_region ?_
            refine OW_opS (fun K hK r => ?_)
            simp only [x_buildSlice, List.map_toArray, List.map_cons, List.map_nil, eX, ↓reduceIte, Nat.reduceEqDiff, Int.reduceToNat]
            refine Lt_buildSlice (vs := [_, _]) Try.underlying56 sz3 zr3 rfl bsA (by first | decide | (simp; done)) ?_
            simp only [List.flatMap_cons, List.flatMap_nil, Value.cells, List.append_nil, List.cons_append, List.nil_append, List.length_cons, List.length_nil, Nat.zero_add, Nat.reduceAdd]
            intro b31 hb31
            have f31_H : H b31 = none := none_of_le lhA hb31
            try simp only [eX, ↓reduceIte, Nat.reduceEqDiff, Int.reduceToNat]
            refine hK _ _ ?_; clear hK K
            refine OW_opS (fun K hK r => ?_)
            simp only [x_callF _ bd10, List.map_toArray, List.map_cons, List.map_nil, eX, ↓reduceIte, Nat.reduceEqDiff, Int.reduceToNat]
            refine (newL _ _ _ [4, 3] ⟨rfl, .inr ⟨b31, 0, 2, _, _, _, rfl, hbA, by simp, by simp⟩⟩ rfl (by decide)).mono ?_
            rintro v32 H32 ⟨p, F32, rfl, hA32⟩
            have hO32 := hA32.old
            have lH32 : Le H H32 := Le.trans (le_upd _ _ _ hb31) hO32
            try simp only [eX, ↓reduceIte, Nat.reduceEqDiff, Int.reduceToNat]
            refine hK _ _ ?_; clear hK K
            refine OW_mv rfl ?_
            refine OW_opS (fun K hK r => ?_)
            simp only [x_extract, i_extract, List.getElem?_toArray, List.getElem?_cons_zero, List.getElem?_cons_succ, orF_some, eX, ↓reduceIte, Nat.reduceEqDiff, Int.reduceToNat]
            refine hK _ _ ?_; clear hK K
            refine OW_opS (fun K hK r => ?_)
            simp only [x_extract, i_extract, List.getElem?_toArray, List.getElem?_cons_zero, List.getElem?_cons_succ, orF_some, eX, ↓reduceIte, Nat.reduceEqDiff, Int.reduceToNat]
            refine hK _ _ ?_; clear hK K
            refine OW_as rfl ?_
            refine OW_as rfl ?_
            refine OW_nil ?_
            try simp only [Ex.thnH, Ex.inBlockH, ↓reduceIte, Nat.reduceEqDiff]
            refine hK8 _ _ ?_; try clear hK8 K8
            refine CW_seq (fun K9 hK9 => ?_)
            refine CW_region ?_
            refine OW_opS (fun K hK r => ?_)
            simp only [x_buildSlice, List.map_toArray, List.map_cons, List.map_nil, eX, ↓reduceIte, Nat.reduceEqDiff, Int.reduceToNat]
            refine Lt_buildSlice (vs := [_, _]) Try.underlying56 sz3 zr3 rfl bsA (by first | decide | (simp; done)) ?_
            simp only [List.flatMap_cons, List.flatMap_nil, Value.cells, List.append_nil, List.cons_append, List.nil_append, List.length_cons, List.length_nil, Nat.zero_add, Nat.reduceAdd]
            intro b36 hb36
            try have n36_b31 : b31 ≠ b36 := ne_of_none hbA hb36
            have f36_H : H b36 = none := none_of_le lhA hb36
            try simp only [eX, ↓reduceIte, Nat.reduceEqDiff, Int.reduceToNat]
            refine hK _ _ ?_; clear hK K
            refine OW_opS (fun K hK r => ?_)
            simp only [x_callF _ bd22, List.map_toArray, List.map_cons, List.map_nil, eX, ↓reduceIte, Nat.reduceEqDiff, Int.reduceToNat]
            have hA36 := hA32.put (hA32.fresh hb36) (.cells #[.int .i64 4, .int .i64 3] 3)
            refine (CallH.use (rnew_ok _ _ _ [4, 3] ⟨rfl, .inr ⟨b36, 0, 2, _, _, _, rfl, hbA, by simp, by simp⟩⟩ (by decide)) hA36.old).mono ?_
            rintro v37 H37 ⟨G, hR37, lG, hkeep⟩
            obtain ⟨m0, a', cap', X0, rfl, hm0, hX0, hd0, lG0⟩ : ∃ (m0 : RSt) (a' : Option Addr) (cap' : Nat) (X0 : List RDX), v37 = .tuple #[m0.v (.slice a' X0.length cap'), .int .i64 0] ∧ m0 = newRs [4, 3] ∧ RX G a' cap' X0 ∧ m0.dv = rdv X0 ∧ Le _ G := by
              rcases hR37 with ⟨h1, _⟩ | ⟨h1, h2, a', cap', X, rfl, h3, h4⟩
              · rw [good43] at h1; cases h1
              · exact ⟨_, a', cap', X, rfl, rfl, h3, h4, h2⟩
            have hS37 := hA36.side lG hkeep
            have lHG : Le H G := Le.trans (le_upd _ _ _ hb31) (Le.trans (le_upd _ _ _ (none_of_le hO32 hb36)) lG0)
            have lH37 : Le H H37 := Le.trans lHG lG
            try simp only [eX, ↓reduceIte, Nat.reduceEqDiff, Int.reduceToNat]
            refine hK _ _ ?_; clear hK K
            refine OW_mv rfl ?_
            refine OW_opS (fun K hK r => ?_)
            simp only [x_extract, i_extract, List.getElem?_toArray, List.getElem?_cons_zero, List.getElem?_cons_succ, orF_some, eX, ↓reduceIte, Nat.reduceEqDiff, Int.reduceToNat]
            refine hK _ _ ?_; clear hK K
            refine OW_opS (fun K hK r => ?_)
            simp only [x_extract, i_extract, List.getElem?_toArray, List.getElem?_cons_zero, List.getElem?_cons_succ, orF_some, eX, ↓reduceIte, Nat.reduceEqDiff, Int.reduceToNat]
            refine hK _ _ ?_; clear hK K
            refine OW_opS (fun K hK r => ?_)
            simp only [x_alloc, zr59, orF_some, Value.cells, eX, ↓reduceIte, Nat.reduceEqDiff, Int.reduceToNat]
            intro b9 hb9
            try have n9_b31 : b31 ≠ b9 := ne_of_none hbA hb9
            try have n9_b36 : b36 ≠ b9 := ne_of_none hbA hb9
            have f9_H : H b9 = none := none_of_le lhA hb9
            try simp only [eX, ↓reduceIte, Nat.reduceEqDiff, Int.reduceToNat]
            refine hK _ _ ?_; clear hK K
            refine OW_op rfl (lt_none) (fun K hK r => ?_)
            simp only [x_store, eX, ↓reduceIte, Nat.reduceEqDiff, Int.reduceToNat]
            first | refine Lt_storeAll sz59 bdA hbA bdA plA (by decide) ?_ | refine Lt_storeAtA sz59 bdA hbA bdA plA (by decide) ?_
            try simp only [eX, ↓reduceIte, Nat.reduceEqDiff, Int.reduceToNat]
            refine hK _ _ ?_; clear hK K
            refine OW_as rfl ?_
            refine OW_nil ?_
            try simp only [Ex.thnH, Ex.inBlockH, ↓reduceIte, Nat.reduceEqDiff]
            refine hK9 _ _ ?_; try clear hK9 K9
            refine CW_seq (fun K10 hK10 => ?_)
            refine CW_seq (fun K11 hK11 => ?_)
            refine CW_region ?_
            refine OW_mv rfl ?_
            refine OW_opS (fun K hK r => ?_)
            simp only [x_bin, g_int, g_bool, g_string, g_pointer, g_slice, g_map, g_func, g_nilFunc, g_err, g_iface, g_nil_iface, g_nil_r, g_nil_l, eX, ↓reduceIte, Nat.reduceEqDiff, Int.reduceToNat]
            first | rw [b_err_neq _ _ Try.underlying28] | (rw [e_neq _ _ _ _ (by simp), q_equal]; first | rw [q_iface_nil _ _ _ Try.underlying28] | rw [q_nil_iface _ _ _ Try.underlying28] | rw [q_nil_nil _ _ _ Try.underlying28])
            try simp only [eX, ↓reduceIte, Nat.reduceEqDiff, Int.reduceToNat]
            refine hK _ _ ?_; clear hK K
            refine OW_mv rfl ?_
            (first | refine OW_split (d := 42) rfl (fun g42 => ?_) (fun g42 => ?_) | skip)
            all_goals try (exfalso; exact cnA g42)
            all_goals (try simp only [decide_eq_true_eq, decide_eq_false_iff_not, Bool.not_eq_true, Bool.not_eq_false, Bool.and_eq_true, Bool.or_eq_true, Bool.or_eq_false_iff, Bool.not_eq_true, Bool.not_eq_eq_eq_not, Bool.not_true, Bool.not_false] at g42)
            all_goals
              try simp only [eX, ↓reduceIte, Nat.reduceEqDiff, Int.reduceToNat]
              first
              | refine OW_guardT rfl (lt_some (by decide)) rfl (fun K hK r => ?_)
                simp only [x_move, eX, ↓reduceIte, Nat.reduceEqDiff, Int.reduceToNat]
                refine hK _ _ ?_; clear hK K
              | refine OW_guardF rfl (lt_some (by decide)) rfl ?_
                simp only [eX, ↓reduceIte, Nat.reduceEqDiff, Int.reduceToNat]
              first
              | refine OW_guardT rfl (lt_some (by decide)) rfl (fun K hK r => ?_)
                simp (disch := (first | omega | decide)) only [x_bin, g_int, b_neq, dec_lt_t, dec_lt_f, dec_le_t, dec_le_f, dec_eq_t, dec_eq_f, Bool.not_true, Bool.not_false, eX, ↓reduceIte, Nat.reduceEqDiff, Int.reduceToNat]
                refine hK _ _ ?_; clear hK K
              | refine OW_guardF rfl (lt_some (by decide)) rfl ?_
                simp only [eX, ↓reduceIte, Nat.reduceEqDiff, Int.reduceToNat]
              refine OW_opS (fun K hK r => ?_)
              simp only [x_pick, l_asBool, HL.ite_bool, if_true, if_false, Bool.false_eq_true, eX, ↓reduceIte, Nat.reduceEqDiff, Int.reduceToNat]
              refine hK _ _ ?_; clear hK K
              refine OW_nil ?_
              try simp only [Ex.thnH, Ex.inBlockH, ↓reduceIte, Nat.reduceEqDiff]
              refine hK11 _ _ ?_; try clear hK11 K11
              refine CW_cond (fun r => rfl) (fun c45 => ?_) (fun c45 => ?_)
              · first
                | (exfalso; exact cnA c45; done)
                | skip
                  skip
                  refine CW_seq (fun K12 hK12 => ?_)
                  refine CW_region ?_
                  refine OW_as rfl ?_
                  refine OW_nil ?_
                  try simp only [Ex.thnH, Ex.inBlockH, ↓reduceIte, Nat.reduceEqDiff]
                  refine hK12 _ _ ?_; try clear hK12 K12
                  refine CW_ret ?_
                  try simp only [Ex.thnH, Ex.inBlockH, ↓reduceIte, Nat.reduceEqDiff]
                  skip
              · first
                | (exfalso; exact cnA c45; done)
                | skip
                  skip
                  have hB0 := Both.of lHG hS37 hX0 hd0 (by rw [hm0]; exact PR.new good43) (none_of_le lG hb9) (hS37.fresh hb9)
                  refine CW_skip ?_
                  try simp only [Ex.thnH, Ex.inBlockH, ↓reduceIte, Nat.reduceEqDiff]
                  refine hK10 _ _ ?_; try clear hK10 K10
                  refine CW_seq (fun K13 hK13 => ?_)
                  refine CW_seq (fun K14 hK14 => ?_)
                  refine CW_region ?_
                  refine OW_mv rfl ?_
                  refine OW_opS (fun K hK r => ?_)
                  simp only [x_builtin, l_len, List.map_toArray, List.map_cons, List.map_nil, i_len_slice _ _ Try.underlying22, eX, ↓reduceIte, Nat.reduceEqDiff, Int.reduceToNat]
                  refine hK _ _ ?_; clear hK K
                  refine OW_mv rfl ?_
                  refine OW_nil ?_
                  try simp only [Ex.thnH, Ex.inBlockH, ↓reduceIte, Nat.reduceEqDiff]
                  refine hK14 _ _ ?_; try clear hK14 K14
                  refine CW_block ?_
                  refine CW_loop (fun m_ e H_ => ∃ (k : Nat) (Q F : Hp) (s : St) (ma : Option Addr) (mc : Nat) (X : List RDX) (m : RSt), k ≤ l1.length ∧ m_ = l1.length - k ∧ Both H Q H_ F p s ma mc X m k b9 ∧ s.dv.length = 2 ∧ Env.has [(1, .slice a2 l2.length cap2), (2, .int .i64 i), (7, .pointer (some ⟨p, 0, none⟩)), (9, .pointer (some ⟨b9, 0, none⟩)), (46, .slice a1 l1.length cap1), (47, .int .i64 l1.length), (48, .int .i64 k)] e) (l1.length) ?_ ?_
                  · skip
                    exact ⟨0, _, _, _, _, _, _, _, by omega, by omega, hB0, rfl, rfl, rfl, rfl, rfl, rfl, rfl, rfl, trivial⟩
                  intro m_ e_ H_ hI_
                  obtain ⟨k, Q, F, s, ma, mc, X, m, hk, rfl, hB, hdl, he⟩ := hI_
                  refine CW_env he.sub ?_; clear he e_
                  have kb9 := hB.box
                  have hHH : Le H H_ := Le.trans hB.old hB.st.old
                  refine CW_seq (fun K15 hK15 => ?_)
                  refine CW_region ?_
                  refine OW_opS (fun K hK r => ?_)
                  simp (disch := (first | omega | decide)) only [x_bin, g_int, b_lss, dec_lt_t, dec_lt_f, dec_le_t, dec_le_f, dec_eq_t, dec_eq_f, Bool.not_true, Bool.not_false, eX, ↓reduceIte, Nat.reduceEqDiff, Int.reduceToNat]
                  refine hK _ _ ?_; clear hK K
                  refine OW_nil ?_
                  try simp only [Ex.thnH, Ex.inBlockH, ↓reduceIte, Nat.reduceEqDiff]
                  refine hK15 _ _ ?_; try clear hK15 K15
                  refine CW_seq (fun K16 hK16 => ?_)
                  refine CW_cond (fun r => rfl) (fun c49 => ?_) (fun c49 => ?_)
                  · first
                    | (exfalso; exact cnA c49; done)
                    | skip
                      (try simp only [decide_eq_true_eq, decide_eq_false_iff_not, Bool.not_eq_true, Bool.not_eq_false, Bool.and_eq_true, Bool.or_eq_true, Bool.or_eq_false_iff, Bool.not_eq_true, Bool.not_eq_eq_eq_not, Bool.not_true, Bool.not_false] at c49)
                      obtain ⟨bw, ow, cw, Tw, Fw, ew, hbw, hsw, atw⟩ := (hv1.le hHH).at (by omega)
                      have hok0 := ho1 (l1.getD k default) (by rw [List.getD_eq_getElem?_getD, List.getElem?_eq_getElem (by omega)]; exact List.getElem_mem _)
                      have hok := hok0
                      refine CW_skip ?_
                      try simp only [Ex.thnH, Ex.inBlockH, ↓reduceIte, Nat.reduceEqDiff]
                      refine hK16 _ _ ?_; try clear hK16 K16
                      refine CW_seq (fun K17 hK17 => ?_)
                      refine CW_block ?_
                      refine CW_seq (fun K18 hK18 => ?_)
                      refine CW_region ?_
                      refine OW_opS (fun K hK r => ?_)
                      simp only [x_indexAddr, eX, ↓reduceIte, Nat.reduceEqDiff, Int.reduceToNat]
                      refine Lt_indexSof Try.underlying22 sz35 ew ixA ixA ?_
                      try simp only [Int.toNat_natCast]
                      refine hK _ _ ?_; clear hK K
                      refine OW_opS (fun K hK r => ?_)
                      simp only [x_load, eX, ↓reduceIte, Nat.reduceEqDiff, Int.reduceToNat]
                      refine Lt_loadAtA Try.underlying35 rfl sz35 hbw (by omega) ?_
                      rw [ext_at Op1.len atw rfl k (by omega) hsw]
                      refine hK _ _ ?_; clear hK K
                      refine OW_opS (fun K hK r => ?_)
                      simp only [x_alloc, zr35, orF_some, Value.cells, eX, ↓reduceIte, Nat.reduceEqDiff, Int.reduceToNat]
                      intro b12 hb12
                      try have n12_b31 : b31 ≠ b12 := ne_of_none hbA hb12
                      try have n12_b36 : b36 ≠ b12 := ne_of_none hbA hb12
                      try have n12_b9 : b9 ≠ b12 := ne_of_none hbA hb12
                      have f12_H : H b12 = none := none_of_le lhA hb12
                      try simp only [eX, ↓reduceIte, Nat.reduceEqDiff, Int.reduceToNat]
                      refine hK _ _ ?_; clear hK K
                      refine OW_op rfl (lt_none) (fun K hK r => ?_)
                      simp only [x_store, eX, ↓reduceIte, Nat.reduceEqDiff, Int.reduceToNat]
                      refine Lt_storeAll sz35 (by simp) hbA (by simp) (Op1.plain _) (by decide) ?_
                      refine hK _ _ ?_; clear hK K
                      refine OW_nil ?_
                      try simp only [Ex.thnH, Ex.inBlockH, ↓reduceIte, Nat.reduceEqDiff]
                      refine hK18 _ _ ?_; try clear hK18 K18
                      refine CW_region ?_
                      refine OW_mv rfl ?_
                      refine OW_opS (fun K hK r => ?_)
                      simp only [x_load, eX, ↓reduceIte, Nat.reduceEqDiff, Int.reduceToNat]
                      first | refine Lt_loadAll Try.underlying59 rfl sz59 hbA bdA ?_ | refine Lt_loadAtA Try.underlying59 rfl sz59 hbA bdA ?_
                      try simp only [List.extract_toArray, List.extract_eq_take_drop, Nat.zero_add, Nat.reduceAdd, Nat.reduceSub, Nat.sub_zero, List.drop_succ_cons, List.drop_zero, List.take_succ_cons, List.take_zero, List.take_nil, List.drop_nil]
                      try simp only [eX, ↓reduceIte, Nat.reduceEqDiff, Int.reduceToNat]
                      refine hK _ _ ?_; clear hK K
                      refine OW_opS (fun K hK r => ?_)
                      simp only [x_load, eX, ↓reduceIte, Nat.reduceEqDiff, Int.reduceToNat]
                      first | refine Lt_loadAll Try.underlying35 rfl sz35 hbA bdA ?_ | refine Lt_loadAtA Try.underlying35 rfl sz35 hbA bdA ?_
                      try simp only [List.extract_toArray, List.extract_eq_take_drop, Nat.zero_add, Nat.reduceAdd, Nat.reduceSub, Nat.sub_zero, List.drop_succ_cons, List.drop_zero, List.take_succ_cons, List.take_zero, List.take_nil, List.drop_nil]
                      try simp only [eX, ↓reduceIte, Nat.reduceEqDiff, Int.reduceToNat]
                      refine hK _ _ ?_; clear hK K
                      refine OW_opS (fun K hK r => ?_)
                      simp only [x_callF _ bd25, List.map_toArray, List.map_cons, List.map_nil, eX, ↓reduceIte, Nat.reduceEqDiff, Int.reduceToNat]
                      refine (doL (hB.more (le_upd _ _ _ hb12)) (by omega) (l1.getD k default) hok (hsA k (by omega))).mono ?_
                      rintro v56 H56 ⟨Q', F', a2', cap2', X', rfl, hQ', hS', hX', hd', hP', hq', hf', hk'⟩
                      have hH56 : Le H H56 := Le.trans hQ' hS'.old
                      try simp only [eX, ↓reduceIte, Nat.reduceEqDiff, Int.reduceToNat]
                      refine hK _ _ ?_; clear hK K
                      refine OW_mv rfl ?_
                      refine OW_opS (fun K hK r => ?_)
                      simp only [x_extract, i_extract, List.getElem?_toArray, List.getElem?_cons_zero, List.getElem?_cons_succ, orF_some, eX, ↓reduceIte, Nat.reduceEqDiff, Int.reduceToNat]
                      refine hK _ _ ?_; clear hK K
                      refine OW_opS (fun K hK r => ?_)
                      simp only [x_extract, i_extract, List.getElem?_toArray, List.getElem?_cons_zero, List.getElem?_cons_succ, orF_some, eX, ↓reduceIte, Nat.reduceEqDiff, Int.reduceToNat]
                      refine hK _ _ ?_; clear hK K
                      refine OW_op rfl (lt_none) (fun K hK r => ?_)
                      simp only [x_store, eX, ↓reduceIte, Nat.reduceEqDiff, Int.reduceToNat]
                      first | refine Lt_storeAll sz59 bdA hbA bdA plA (by decide) ?_ | refine Lt_storeAtA sz59 bdA hbA bdA plA (by decide) ?_
                      try simp only [eX, ↓reduceIte, Nat.reduceEqDiff, Int.reduceToNat]
                      refine hK _ _ ?_; clear hK K
                      refine OW_nil ?_
                      try simp only [Ex.thnH, Ex.inBlockH, ↓reduceIte, Nat.reduceEqDiff]
                      refine hK17 _ _ ?_; try clear hK17 K17
                      refine CW_region ?_
                      refine OW_opS (fun K hK r => ?_)
                      simp (disch := (first | omega | decide)) only [x_bin, g_int, b_add, wrap_i64, wrap_u64, wrap_u32, wrap_u8, eX, ↓reduceIte, Nat.reduceEqDiff, Int.reduceToNat]
                      refine hK _ _ ?_; clear hK K
                      refine OW_mv rfl ?_
                      refine OW_nil ?_
                      try simp only [Ex.thnH, Ex.inBlockH, ↓reduceIte, Nat.reduceEqDiff]
                      exact ⟨l1.length - (k + 1), by omega, k + 1, _, _, _, _, _, _, _, by omega, rfl, Both.of hQ' hS' hX' hd' hP' hq' hf', by rw [St.act_len]; exact hdl, rfl, rfl, rfl, rfl, rfl, rfl, rfl, trivial⟩
                  · first
                    | (exfalso; exact cnA c49; done)
                    | skip
                      (try simp only [decide_eq_true_eq, decide_eq_false_iff_not, Bool.not_eq_true, Bool.not_eq_false, Bool.and_eq_true, Bool.or_eq_true, Bool.or_eq_false_iff, Bool.not_eq_true, Bool.not_eq_eq_eq_not, Bool.not_true, Bool.not_false] at c49)
                      have hkn : k = l1.length := by omega
                      obtain ⟨HK, hHK_⟩ : ∃ G : Hp, G = H_ := ⟨_, rfl⟩
                      subst hHK_
                      refine CW_exit ?_
                      try simp only [Ex.thnH, Ex.inBlockH, ↓reduceIte, Nat.reduceEqDiff]
                      refine hK13 _ _ ?_; try clear hK13 K13
                      refine CW_seq (fun K19 hK19 => ?_)
                      obtain ⟨R14, hR14⟩ : ∃ R : Hp, R = emptyHp.upd b9 (.cells (m.c (.slice ma X.length mc)).toArray 59) := ⟨_, rfl⟩
                      refine CW_drawR [0, 2, 1, 4, 0, 3] [0, 1, 2, 3, 4, 5] R14 (by kernel_rfl) (by kernel_rfl) (by subst hR14; exact le_put (le_empty _) kb9) (fun lR14 => ?_)
                      apply TW_pure rfl (lt_some (by decide)) rfl
                      · intro r
                        simp only [x_move, eX, ↓reduceIte, Nat.reduceEqDiff]
                        exact ⟨rfl, Le.refl _⟩
                      simp only [eX, ↓reduceIte, Nat.reduceEqDiff, Int.reduceToNat]
                      refine TW_chain rfl (lt_some (by decide)) rfl (fun K hK r => ?_)
                      simp only [x_callF _ bd27, List.map_toArray, List.map_cons, List.map_nil, eX, ↓reduceIte, Nat.reduceEqDiff, Int.reduceToNat]
                      refine (hB.copyOf (by omega) (by omega)).mono ?_
                      rintro v61 H61 ⟨q, F61, rfl, hS61⟩
                      have hO61 := hS61.old
                      have lR61 : Le R14 H61 := by rw [hR14]; exact le_put (le_empty _) (hO61 _ _ kb9)
                      have hH61 : Le H H61 := Le.trans hHH hO61
                      try simp only [eX, ↓reduceIte, Nat.reduceEqDiff, Int.reduceToNat]
                      refine hK _ _ leA ?_; clear hK K
                      apply TW_look rfl (lt_some (by decide)) rfl
                      · intro r
                        simp only [x_load, eX, ↓reduceIte, Nat.reduceEqDiff]
                        first | refine Lt_loadAll Try.underlying59 rfl sz59 hbA bdA ?_ | refine Lt_loadAtA Try.underlying59 rfl sz59 hbA bdA ?_
                        try simp only [List.extract_toArray, List.extract_eq_take_drop, Nat.zero_add, Nat.reduceAdd, Nat.reduceSub, Nat.sub_zero, List.drop_succ_cons, List.drop_zero, List.take_succ_cons, List.take_zero, List.take_nil, List.drop_nil]
                        exact ⟨rfl, Le.refl _⟩
                      simp only [eX, ↓reduceIte, Nat.reduceEqDiff, Int.reduceToNat]
                      refine TW_make rfl (lt_some (by decide)) rfl (fun K hK r => ?_)
                      simp only [x_alloc, zr59, orF_some, Value.cells, eX, ↓reduceIte, Nat.reduceEqDiff, Int.reduceToNat]
                      intro b14 hb14
                      try have n14_b31 : b31 ≠ b14 := ne_of_none hbA hb14
                      try have n14_b36 : b36 ≠ b14 := ne_of_none hbA hb14
                      try have n14_b9 : b9 ≠ b14 := ne_of_none hbA hb14
                      have f14_H : H b14 = none := none_of_le lhA hb14
                      have f14_R14 : R14 b14 = none := none_of_le lhA hb14
                      try simp only [eX, ↓reduceIte, Nat.reduceEqDiff, Int.reduceToNat]
                      refine hK _ _ ?_; clear hK K
                      apply TW_pure rfl (lt_some (by decide)) rfl
                      · intro r
                        simp only [x_assign, eX, ↓reduceIte, Nat.reduceEqDiff]
                        exact ⟨rfl, Le.refl _⟩
                      simp only [eX, ↓reduceIte, Nat.reduceEqDiff, Int.reduceToNat]
                      refine TW_last rfl (lt_none) rfl (fun K hK r => ?_)
                      simp only [x_store, eX, ↓reduceIte, Nat.reduceEqDiff, Int.reduceToNat]
                      first | refine Lt_storeAll sz59 bdA hbA bdA plA (by decide) ?_ | refine Lt_storeAtA sz59 bdA hbA bdA plA (by decide) ?_
                      try simp only [eX, ↓reduceIte, Nat.reduceEqDiff, Int.reduceToNat]
                      refine hK _ _ ?_; clear hK K
                      refine TW_nil ?_
                      try simp only [Ex.thnH, Ex.inBlockH, ↓reduceIte, Nat.reduceEqDiff]
                      refine hK19 _ _ ?_; try clear hK19 K19
                      refine CW_seq (fun K20 hK20 => ?_)
                      refine CW_seq (fun K21 hK21 => ?_)
                      refine CW_region ?_
                      refine OW_mv rfl ?_
                      refine OW_opS (fun K hK r => ?_)
                      simp only [x_builtin, l_len, List.map_toArray, List.map_cons, List.map_nil, i_len_slice _ _ Try.underlying22, eX, ↓reduceIte, Nat.reduceEqDiff, Int.reduceToNat]
                      refine hK _ _ ?_; clear hK K
                      refine OW_mv rfl ?_
                      refine OW_nil ?_
                      try simp only [Ex.thnH, Ex.inBlockH, ↓reduceIte, Nat.reduceEqDiff]
                      refine hK21 _ _ ?_; try clear hK21 K21
                      refine CW_block ?_
                      refine CW_loop (fun m_ e H_ => ∃ (k : Nat) (Q2 F2 : Hp) (s2 : St) (ma2 : Option Addr) (mc2 : Nat) (X2 : List RDX) (m2 : RSt), k ≤ l2.length ∧ m_ = l2.length - k ∧ Both HK Q2 H_ F2 q s2 ma2 mc2 X2 m2 (81 + k) b14 ∧ Env.has [(2, .int .i64 i), (7, .pointer (some ⟨p, 0, none⟩)), (9, .pointer (some ⟨b9, 0, none⟩)), (13, .pointer (some ⟨q, 0, none⟩)), (14, .pointer (some ⟨b14, 0, none⟩)), (63, .slice a2 l2.length cap2), (64, .int .i64 l2.length), (65, .int .i64 k)] e) (l2.length) ?_ ?_
                      · skip
                        exact ⟨0, _, _, _, _, _, _, _, by omega, by omega, Both.of (Le.refl _) hS61 (hB.rx.le hB.st.old) hB.dv (hB.pr.up (by omega)) (none_of_le hO61 (by assumption)) (hS61.fresh (by assumption)), rfl, rfl, rfl, rfl, rfl, rfl, rfl, rfl, trivial⟩
                      intro m_ e_ H_ hI_
                      obtain ⟨k, Q2, F2, s2, ma2, mc2, X2, m2, hk, rfl, hB2, he⟩ := hI_
                      refine CW_env he.sub ?_; clear he e_
                      have kb14 := hB2.box
                      have hHK : Le H HK := hHH
                      have hHC : Le H H_ := Le.trans hHK (Le.trans hB2.old hB2.st.old)
                      refine CW_seq (fun K22 hK22 => ?_)
                      refine CW_region ?_
                      refine OW_opS (fun K hK r => ?_)
                      simp (disch := (first | omega | decide)) only [x_bin, g_int, b_lss, dec_lt_t, dec_lt_f, dec_le_t, dec_le_f, dec_eq_t, dec_eq_f, Bool.not_true, Bool.not_false, eX, ↓reduceIte, Nat.reduceEqDiff, Int.reduceToNat]
                      refine hK _ _ ?_; clear hK K
                      refine OW_nil ?_
                      try simp only [Ex.thnH, Ex.inBlockH, ↓reduceIte, Nat.reduceEqDiff]
                      refine hK22 _ _ ?_; try clear hK22 K22
                      refine CW_seq (fun K23 hK23 => ?_)
                      refine CW_cond (fun r => rfl) (fun c66 => ?_) (fun c66 => ?_)
                      · first
                        | (exfalso; exact cnA c66; done)
                        | skip
                          (try simp only [decide_eq_true_eq, decide_eq_false_iff_not, Bool.not_eq_true, Bool.not_eq_false, Bool.and_eq_true, Bool.or_eq_true, Bool.or_eq_false_iff, Bool.not_eq_true, Bool.not_eq_eq_eq_not, Bool.not_true, Bool.not_false] at c66)
                          obtain ⟨bw, ow, cw, Tw, Fw, ew, hbw, hsw, atw⟩ := (hv2.le hHC).at (by omega)
                          have hok0 := ho2 (l2.getD k default) (by rw [List.getD_eq_getElem?_getD, List.getElem?_eq_getElem (by omega)]; exact List.getElem_mem _)
                          have hok : Op1.ok HK (l2.getD k default) := ⟨hok0.hk.le hHK, hok0.d0, hok0.d1, hok0.n0, hok0.n1, hok0.b0, hok0.b1⟩
                          refine CW_skip ?_
                          try simp only [Ex.thnH, Ex.inBlockH, ↓reduceIte, Nat.reduceEqDiff]
                          refine hK23 _ _ ?_; try clear hK23 K23
                          refine CW_seq (fun K24 hK24 => ?_)
                          refine CW_block ?_
                          refine CW_seq (fun K25 hK25 => ?_)
                          refine CW_region ?_
                          refine OW_opS (fun K hK r => ?_)
                          simp only [x_indexAddr, eX, ↓reduceIte, Nat.reduceEqDiff, Int.reduceToNat]
                          refine Lt_indexSof Try.underlying22 sz35 ew ixA ixA ?_
                          try simp only [Int.toNat_natCast]
                          refine hK _ _ ?_; clear hK K
                          refine OW_opS (fun K hK r => ?_)
                          simp only [x_load, eX, ↓reduceIte, Nat.reduceEqDiff, Int.reduceToNat]
                          refine Lt_loadAtA Try.underlying35 rfl sz35 hbw (by omega) ?_
                          rw [ext_at Op1.len atw rfl k (by omega) hsw]
                          refine hK _ _ ?_; clear hK K
                          refine OW_opS (fun K hK r => ?_)
                          simp only [x_alloc, zr35, orF_some, Value.cells, eX, ↓reduceIte, Nat.reduceEqDiff, Int.reduceToNat]
                          intro b16 hb16
                          try have n16_b31 : b31 ≠ b16 := ne_of_none hbA hb16
                          try have n16_b36 : b36 ≠ b16 := ne_of_none hbA hb16
                          try have n16_b9 : b9 ≠ b16 := ne_of_none hbA hb16
                          try have n16_b14 : b14 ≠ b16 := ne_of_none hbA hb16
                          have f16_H : H b16 = none := none_of_le lhA hb16
                          try simp only [eX, ↓reduceIte, Nat.reduceEqDiff, Int.reduceToNat]
                          refine hK _ _ ?_; clear hK K
                          refine OW_op rfl (lt_none) (fun K hK r => ?_)
                          simp only [x_store, eX, ↓reduceIte, Nat.reduceEqDiff, Int.reduceToNat]
                          refine Lt_storeAll sz35 (by simp) hbA (by simp) (Op1.plain _) (by decide) ?_
                          refine hK _ _ ?_; clear hK K
                          refine OW_nil ?_
                          try simp only [Ex.thnH, Ex.inBlockH, ↓reduceIte, Nat.reduceEqDiff]
                          refine hK25 _ _ ?_; try clear hK25 K25
                          refine CW_region ?_
                          refine OW_mv rfl ?_
                          refine OW_opS (fun K hK r => ?_)
                          simp only [x_load, eX, ↓reduceIte, Nat.reduceEqDiff, Int.reduceToNat]
                          first | refine Lt_loadAll Try.underlying59 rfl sz59 hbA bdA ?_ | refine Lt_loadAtA Try.underlying59 rfl sz59 hbA bdA ?_
                          try simp only [List.extract_toArray, List.extract_eq_take_drop, Nat.zero_add, Nat.reduceAdd, Nat.reduceSub, Nat.sub_zero, List.drop_succ_cons, List.drop_zero, List.take_succ_cons, List.take_zero, List.take_nil, List.drop_nil]
                          try simp only [eX, ↓reduceIte, Nat.reduceEqDiff, Int.reduceToNat]
                          refine hK _ _ ?_; clear hK K
                          refine OW_opS (fun K hK r => ?_)
                          simp only [x_load, eX, ↓reduceIte, Nat.reduceEqDiff, Int.reduceToNat]
                          first | refine Lt_loadAll Try.underlying35 rfl sz35 hbA bdA ?_ | refine Lt_loadAtA Try.underlying35 rfl sz35 hbA bdA ?_
                          try simp only [List.extract_toArray, List.extract_eq_take_drop, Nat.zero_add, Nat.reduceAdd, Nat.reduceSub, Nat.sub_zero, List.drop_succ_cons, List.drop_zero, List.take_succ_cons, List.take_zero, List.take_nil, List.drop_nil]
                          try simp only [eX, ↓reduceIte, Nat.reduceEqDiff, Int.reduceToNat]
                          refine hK _ _ ?_; clear hK K
                          refine OW_opS (fun K hK r => ?_)
                          simp only [x_callF _ bd25, List.map_toArray, List.map_cons, List.map_nil, eX, ↓reduceIte, Nat.reduceEqDiff, Int.reduceToNat]
                          refine (doL (hB2.more (le_upd _ _ _ hb16)) (by omega) (l2.getD k default) hok (hsB k (by omega))).mono ?_
                          rintro v73 H73 ⟨Q', F', a2', cap2', X', rfl, hQ', hS', hX', hd', hP', hq', hf', hk'⟩
                          have hH73 : Le H H73 := Le.trans hHK (Le.trans hQ' hS'.old)
                          try simp only [eX, ↓reduceIte, Nat.reduceEqDiff, Int.reduceToNat]
                          refine hK _ _ ?_; clear hK K
                          refine OW_mv rfl ?_
                          refine OW_opS (fun K hK r => ?_)
                          simp only [x_extract, i_extract, List.getElem?_toArray, List.getElem?_cons_zero, List.getElem?_cons_succ, orF_some, eX, ↓reduceIte, Nat.reduceEqDiff, Int.reduceToNat]
                          refine hK _ _ ?_; clear hK K
                          refine OW_opS (fun K hK r => ?_)
                          simp only [x_extract, i_extract, List.getElem?_toArray, List.getElem?_cons_zero, List.getElem?_cons_succ, orF_some, eX, ↓reduceIte, Nat.reduceEqDiff, Int.reduceToNat]
                          refine hK _ _ ?_; clear hK K
                          refine OW_op rfl (lt_none) (fun K hK r => ?_)
                          simp only [x_store, eX, ↓reduceIte, Nat.reduceEqDiff, Int.reduceToNat]
                          first | refine Lt_storeAll sz59 bdA hbA bdA plA (by decide) ?_ | refine Lt_storeAtA sz59 bdA hbA bdA plA (by decide) ?_
                          try simp only [eX, ↓reduceIte, Nat.reduceEqDiff, Int.reduceToNat]
                          refine hK _ _ ?_; clear hK K
                          refine OW_nil ?_
                          try simp only [Ex.thnH, Ex.inBlockH, ↓reduceIte, Nat.reduceEqDiff]
                          refine hK24 _ _ ?_; try clear hK24 K24
                          refine CW_region ?_
                          refine OW_opS (fun K hK r => ?_)
                          simp (disch := (first | omega | decide)) only [x_bin, g_int, b_add, wrap_i64, wrap_u64, wrap_u32, wrap_u8, eX, ↓reduceIte, Nat.reduceEqDiff, Int.reduceToNat]
                          refine hK _ _ ?_; clear hK K
                          refine OW_mv rfl ?_
                          refine OW_nil ?_
                          try simp only [Ex.thnH, Ex.inBlockH, ↓reduceIte, Nat.reduceEqDiff]
                          exact ⟨l2.length - (k + 1), by omega, k + 1, _, _, _, _, _, _, _, by omega, rfl, Both.of hQ' hS' hX' hd' hP' hq' hf', rfl, rfl, rfl, rfl, rfl, rfl, rfl, rfl, trivial⟩
                      · first
                        | (exfalso; exact cnA c66; done)
                        | skip
                          (try simp only [decide_eq_true_eq, decide_eq_false_iff_not, Bool.not_eq_true, Bool.not_eq_false, Bool.and_eq_true, Bool.or_eq_true, Bool.or_eq_false_iff, Bool.not_eq_true, Bool.not_eq_eq_eq_not, Bool.not_true, Bool.not_false] at c66)
                          have hk2 : k = l2.length := by omega
                          obtain ⟨HC, hHC_⟩ : ∃ G : Hp, G = H_ := ⟨_, rfl⟩
                          subst hHC_
                          have lKC : Le HK HC := Le.trans hB2.old hB2.st.old
                          refine CW_exit ?_
                          try simp only [Ex.thnH, Ex.inBlockH, ↓reduceIte, Nat.reduceEqDiff]
                          refine hK20 _ _ ?_; try clear hK20 K20
                          refine CW_seq (fun K26 hK26 => ?_)
                          refine CW_region ?_
                          refine OW_as rfl ?_
                          refine OW_nil ?_
                          try simp only [Ex.thnH, Ex.inBlockH, ↓reduceIte, Nat.reduceEqDiff]
                          refine hK26 _ _ ?_; try clear hK26 K26
                          refine CW_seq (fun K27 hK27 => ?_)
                          refine CW_region ?_
                          refine OW_mv rfl ?_
                          refine OW_opS (fun K hK r => ?_)
                          simp only [x_build, bp68, List.map_toArray, List.map_cons, List.map_nil, eX, ↓reduceIte, Nat.reduceEqDiff, Int.reduceToNat]
                          simp only [fill_nil, orF_some, List.setIfInBounds_toArray, List.set_cons_zero, List.set_cons_succ]
                          try simp only [eX, ↓reduceIte, Nat.reduceEqDiff, Int.reduceToNat]
                          refine hK _ _ ?_; clear hK K
                          refine OW_opS (fun K hK r => ?_)
                          simp only [x_buildSlice, List.map_toArray, List.map_cons, List.map_nil, eX, ↓reduceIte, Nat.reduceEqDiff, Int.reduceToNat]
                          refine Lt_buildSlice (vs := [_]) Try.underlying44 sz68 zr68 rfl bsA (by first | decide | (simp; done)) ?_
                          simp only [List.flatMap_cons, List.flatMap_nil, Value.cells, List.append_nil, List.cons_append, List.nil_append, List.length_cons, List.length_nil, Nat.zero_add, Nat.reduceAdd]
                          intro b79 hb79
                          try have n79_b31 : b31 ≠ b79 := ne_of_none hbA hb79
                          try have n79_b36 : b36 ≠ b79 := ne_of_none hbA hb79
                          try have n79_b9 : b9 ≠ b79 := ne_of_none hbA hb79
                          try have n79_b14 : b14 ≠ b79 := ne_of_none hbA hb79
                          have f79_H : H b79 = none := none_of_le lhA hb79
                          try simp only [eX, ↓reduceIte, Nat.reduceEqDiff, Int.reduceToNat]
                          refine hK _ _ ?_; clear hK K
                          refine OW_opS (fun K hK r => ?_)
                          simp only [x_callF _ bd14, List.map_toArray, List.map_cons, List.map_nil, eX, ↓reduceIte, Nat.reduceEqDiff, Int.reduceToNat]
                          refine (crash_nil _ _ rfl).mono ?_
                          intro v80 H80 hq
                          have hq := hq.symm
                          subst hq
                          try simp only [eX, ↓reduceIte, Nat.reduceEqDiff, Int.reduceToNat]
                          refine hK _ _ ?_; clear hK K
                          refine OW_nil ?_
                          try simp only [Ex.thnH, Ex.inBlockH, ↓reduceIte, Nat.reduceEqDiff]
                          refine hK27 _ _ ?_; try clear hK27 K27
                          refine CW_seq (fun K28 hK28 => ?_)
                          refine CW_region ?_
                          refine OW_mv rfl ?_
                          refine OW_mv rfl ?_
                          refine OW_mv rfl ?_
                          refine OW_opS (fun K hK r => ?_)
                          simp only [x_callF _ bd16, List.map_toArray, List.map_cons, List.map_nil, eX, ↓reduceIte, Nat.reduceEqDiff, Int.reduceToNat]
                          refine (read_nil _ i i).mono ?_
                          rintro v H' ⟨rfl, rfl⟩
                          try simp only [eX, ↓reduceIte, Nat.reduceEqDiff, Int.reduceToNat]
                          refine hK _ _ ?_; clear hK K
                          refine OW_mv rfl ?_
                          refine OW_opS (fun K hK r => ?_)
                          simp only [x_extract, i_extract, List.getElem?_toArray, List.getElem?_cons_zero, List.getElem?_cons_succ, orF_some, eX, ↓reduceIte, Nat.reduceEqDiff, Int.reduceToNat]
                          refine hK _ _ ?_; clear hK K
                          refine OW_opS (fun K hK r => ?_)
                          simp only [x_extract, i_extract, List.getElem?_toArray, List.getElem?_cons_zero, List.getElem?_cons_succ, orF_some, eX, ↓reduceIte, Nat.reduceEqDiff, Int.reduceToNat]
                          refine hK _ _ ?_; clear hK K
                          refine OW_opS (fun K hK r => ?_)
                          simp only [x_alloc, zr38, orF_some, Value.cells, eX, ↓reduceIte, Nat.reduceEqDiff, Int.reduceToNat]
                          intro b18 hb18
                          try have n18_b31 : b31 ≠ b18 := ne_of_none hbA hb18
                          try have n18_b36 : b36 ≠ b18 := ne_of_none hbA hb18
                          try have n18_b9 : b9 ≠ b18 := ne_of_none hbA hb18
                          try have n18_b14 : b14 ≠ b18 := ne_of_none hbA hb18
                          try have n18_b79 : b79 ≠ b18 := ne_of_none hbA hb18
                          have f18_H : H b18 = none := none_of_le lhA hb18
                          try simp only [eX, ↓reduceIte, Nat.reduceEqDiff, Int.reduceToNat]
                          refine hK _ _ ?_; clear hK K
                          refine OW_op rfl (lt_none) (fun K hK r => ?_)
                          simp only [x_store, eX, ↓reduceIte, Nat.reduceEqDiff, Int.reduceToNat]
                          refine Lt_storeAll sz38 (by simp [Sec.h]) hbA (by simp [Sec.h]) (PlainL.ints _ _) (by decide) ?_
                          try simp only [upd_upd]
                          refine hK _ _ ?_; clear hK K
                          refine OW_as rfl ?_
                          refine OW_nil ?_
                          try simp only [Ex.thnH, Ex.inBlockH, ↓reduceIte, Nat.reduceEqDiff]
                          refine hK28 _ _ ?_; try clear hK28 K28
                          refine CW_seq (fun K29 hK29 => ?_)
                          refine CW_seq (fun K30 hK30 => ?_)
                          refine CW_region ?_
                          refine OW_mv rfl ?_
                          refine OW_mv rfl ?_
                          refine OW_mv rfl ?_
                          refine OW_mv rfl ?_
                          refine OW_opS (fun K hK r => ?_)
                          simp only [x_build, List.map_toArray, List.map_cons, List.map_nil, eX, ↓reduceIte, Nat.reduceEqDiff, Int.reduceToNat]
                          rw [l_buildArr Try.underlying38 sz5 zr38]
                          simp only [Value.cells]
                          simp only [fill_nil, orF_some, List.setIfInBounds_toArray, List.set_cons_zero, List.set_cons_succ]
                          try simp only [eX, ↓reduceIte, Nat.reduceEqDiff, Int.reduceToNat]
                          refine hK _ _ ?_; clear hK K
                          refine OW_opS (fun K hK r => ?_)
                          simp only [x_callF _ bd11, List.map_toArray, List.map_cons, List.map_nil, eX, ↓reduceIte, Nat.reduceEqDiff, Int.reduceToNat]
                          refine (write_nil _ i i Sec.zero).mono ?_
                          rintro v H' ⟨rfl, rfl⟩
                          try simp only [eX, ↓reduceIte, Nat.reduceEqDiff, Int.reduceToNat]
                          refine hK _ _ ?_; clear hK K
                          refine OW_mv rfl ?_
                          refine OW_mv rfl ?_
                          refine OW_opS (fun K hK r => ?_)
                          simp only [x_callF _ bd13, List.map_toArray, List.map_cons, List.map_nil, eX, ↓reduceIte, Nat.reduceEqDiff, Int.reduceToNat]
                          refine (flush_nil _ i).mono ?_
                          rintro v H' ⟨rfl, rfl⟩
                          try simp only [eX, ↓reduceIte, Nat.reduceEqDiff, Int.reduceToNat]
                          refine hK _ _ ?_; clear hK K
                          refine OW_mv rfl ?_
                          refine OW_mv rfl ?_
                          refine OW_opS (fun K hK r => ?_)
                          simp only [x_callF _ bd20, List.map_toArray, List.map_cons, List.map_nil, eX, ↓reduceIte, Nat.reduceEqDiff, Int.reduceToNat]
                          refine (arm_nil _ i).mono ?_
                          rintro v H' ⟨rfl, rfl⟩
                          try simp only [eX, ↓reduceIte, Nat.reduceEqDiff, Int.reduceToNat]
                          refine hK _ _ ?_; clear hK K
                          refine OW_opS (fun K hK r => ?_)
                          simp only [x_buildSlice, List.map_toArray, List.map_cons, List.map_nil, eX, ↓reduceIte, Nat.reduceEqDiff, Int.reduceToNat]
                          refine Lt_buildSlice (vs := [_, _, _, _]) Try.underlying69 sz28 zr28 rfl bsA (by first | decide | (simp; done)) ?_
                          simp only [List.flatMap_cons, List.flatMap_nil, Value.cells, List.append_nil, List.cons_append, List.nil_append, List.length_cons, List.length_nil, Nat.zero_add, Nat.reduceAdd]
                          intro b100 hb100
                          try have n100_b31 : b31 ≠ b100 := ne_of_none hbA hb100
                          try have n100_b36 : b36 ≠ b100 := ne_of_none hbA hb100
                          try have n100_b9 : b9 ≠ b100 := ne_of_none hbA hb100
                          try have n100_b14 : b14 ≠ b100 := ne_of_none hbA hb100
                          try have n100_b79 : b79 ≠ b100 := ne_of_none hbA hb100
                          try have n100_b18 : b18 ≠ b100 := ne_of_none hbA hb100
                          have f100_H : H b100 = none := none_of_le lhA hb100
                          try simp only [eX, ↓reduceIte, Nat.reduceEqDiff, Int.reduceToNat]
                          refine hK _ _ ?_; clear hK K
                          refine OW_opS (fun K hK r => ?_)
                          simp only [x_builtin, l_len, List.map_toArray, List.map_cons, List.map_nil, i_len_slice _ _ Try.underlying69, eX, ↓reduceIte, Nat.reduceEqDiff, Int.reduceToNat]
                          refine hK _ _ ?_; clear hK K
                          refine OW_mv rfl ?_
                          refine OW_nil ?_
                          try simp only [Ex.thnH, Ex.inBlockH, ↓reduceIte, Nat.reduceEqDiff]
                          refine hK30 _ _ ?_; try clear hK30 K30
                          refine CW_block ?_
                          refine CW_loop (fun m_ e H_ => ∃ k : Nat, k ≤ 4 ∧ m_ = 4 - k ∧ Le HC H_ ∧ H_ b100 = some (.cells #[errV (some 3), errV (some 3), errV (some 3), errV (some 3)] 28) ∧ Env.has [(2, .int .i64 i), (7, .pointer (some ⟨p, 0, none⟩)), (9, .pointer (some ⟨b9, 0, none⟩)), (13, .pointer (some ⟨q, 0, none⟩)), (14, .pointer (some ⟨b14, 0, none⟩)), (17, .pointer none), (100, .slice (some ⟨b100, 0, none⟩) 4 4), (101, .int .i64 4), (102, .int .i64 k)] e) (4) ?_ ?_
                          · skip
                            exact ⟨0, by omega, by omega, le_upd_of (le_upd_of (le_upd _ _ _ hb79) (upd_none hb18)) (upd_none (upd_none hb100)), upd_same _ _ _, rfl, rfl, rfl, rfl, rfl, rfl, rfl, rfl, rfl, trivial⟩
                          intro m_ e_ H_ hI_
                          obtain ⟨k, hk4, rfl, hlC, k100, he⟩ := hI_
                          refine CW_env he.sub ?_; clear he e_
                          refine CW_seq (fun K31 hK31 => ?_)
                          refine CW_region ?_
                          refine OW_opS (fun K hK r => ?_)
                          simp (disch := (first | omega | decide)) only [x_bin, g_int, b_lss, dec_lt_t, dec_lt_f, dec_le_t, dec_le_f, dec_eq_t, dec_eq_f, Bool.not_true, Bool.not_false, eX, ↓reduceIte, Nat.reduceEqDiff, Int.reduceToNat]
                          refine hK _ _ ?_; clear hK K
                          refine OW_nil ?_
                          try simp only [Ex.thnH, Ex.inBlockH, ↓reduceIte, Nat.reduceEqDiff]
                          refine hK31 _ _ ?_; try clear hK31 K31
                          refine CW_seq (fun K32 hK32 => ?_)
                          refine CW_cond (fun r => rfl) (fun c103 => ?_) (fun c103 => ?_)
                          · first
                            | (exfalso; exact cnA c103; done)
                            | skip
                              (try simp only [decide_eq_true_eq, decide_eq_false_iff_not, Bool.not_eq_true, Bool.not_eq_false, Bool.and_eq_true, Bool.or_eq_true, Bool.or_eq_false_iff, Bool.not_eq_true, Bool.not_eq_eq_eq_not, Bool.not_true, Bool.not_false] at c103)
                              refine CW_skip ?_
                              try simp only [Ex.thnH, Ex.inBlockH, ↓reduceIte, Nat.reduceEqDiff]
                              refine hK32 _ _ ?_; try clear hK32 K32
                              refine CW_seq (fun K33 hK33 => ?_)
                              refine CW_block ?_
                              refine CW_seq (fun K34 hK34 => ?_)
                              refine CW_region ?_
                              refine OW_opS (fun K hK r => ?_)
                              simp only [x_indexAddr, eX, ↓reduceIte, Nat.reduceEqDiff, Int.reduceToNat]
                              refine Lt_indexSof Try.underlying69 sz28 rfl ixA ixA ?_
                              try simp only [Int.toNat_natCast, Nat.mul_one, Nat.zero_add]
                              refine hK _ _ ?_; clear hK K
                              refine OW_opS (fun K hK r => ?_)
                              simp only [x_load, eX, ↓reduceIte, Nat.reduceEqDiff, Int.reduceToNat]
                              refine Lt_loadAt1 Try.underlying28 rfl k100 (v := errV (some 3)) (by rcases (show k = 0 ∨ k = 1 ∨ k = 2 ∨ k = 3 by omega) with rfl | rfl | rfl | rfl <;> rfl) ?_
                              refine hK _ _ ?_; clear hK K
                              refine OW_as rfl ?_
                              refine OW_nil ?_
                              try simp only [Ex.thnH, Ex.inBlockH, ↓reduceIte, Nat.reduceEqDiff]
                              refine hK34 _ _ ?_; try clear hK34 K34
                              refine CW_seq (fun K35 hK35 => ?_)
                              refine CW_region ?_
                              refine OW_mv rfl ?_
                              refine OW_opS (fun K hK r => ?_)
                              simp only [x_callF _ bd28, List.map_toArray, List.map_cons, List.map_nil, eX, ↓reduceIte, Nat.reduceEqDiff, Int.reduceToNat]
                              refine (num_Is _ (some 3) err3 3 (by decide) (by decide)).mono ?_
                              rintro v H' ⟨rfl, rfl⟩
                              try simp only [eX, ↓reduceIte, Nat.reduceEqDiff, Int.reduceToNat]
                              refine hK _ _ ?_; clear hK K
                              refine OW_opS (fun K hK r => ?_)
                              simp only [x_un, u_not, eX, ↓reduceIte, Nat.reduceEqDiff, Int.reduceToNat]
                              refine hK _ _ ?_; clear hK K
                              refine OW_nil ?_
                              try simp only [Ex.thnH, Ex.inBlockH, ↓reduceIte, Nat.reduceEqDiff]
                              refine hK35 _ _ ?_; try clear hK35 K35
                              refine CW_cond (fun r => rfl) (fun c108 => ?_) (fun c108 => ?_)
                              · first
                                | (exfalso; exact cnA c108; done)
                                | skip
                                  skip
                                  refine CW_seq (fun K36 hK36 => ?_)
                                  refine CW_region ?_
                                  refine OW_as rfl ?_
                                  refine OW_nil ?_
                                  try simp only [Ex.thnH, Ex.inBlockH, ↓reduceIte, Nat.reduceEqDiff]
                                  refine hK36 _ _ ?_; try clear hK36 K36
                                  refine CW_ret ?_
                                  try simp only [Ex.thnH, Ex.inBlockH, ↓reduceIte, Nat.reduceEqDiff]
                                  skip
                              · first
                                | (exfalso; exact cnA c108; done)
                                | skip
                                  skip
                                  refine CW_skip ?_
                                  try simp only [Ex.thnH, Ex.inBlockH, ↓reduceIte, Nat.reduceEqDiff]
                                  refine hK33 _ _ ?_; try clear hK33 K33
                                  refine CW_region ?_
                                  refine OW_opS (fun K hK r => ?_)
                                  simp (disch := (first | omega | decide)) only [x_bin, g_int, b_add, wrap_i64, wrap_u64, wrap_u32, wrap_u8, eX, ↓reduceIte, Nat.reduceEqDiff, Int.reduceToNat]
                                  refine hK _ _ ?_; clear hK K
                                  refine OW_mv rfl ?_
                                  refine OW_nil ?_
                                  try simp only [Ex.thnH, Ex.inBlockH, ↓reduceIte, Nat.reduceEqDiff]
                                  exact ⟨4 - (k + 1), by omega, k + 1, by omega, rfl, hlC, k100, rfl, rfl, rfl, rfl, rfl, rfl, rfl, rfl, rfl, trivial⟩
                          · first
                            | (exfalso; exact cnA c103; done)
                            | skip
                              (try simp only [decide_eq_true_eq, decide_eq_false_iff_not, Bool.not_eq_true, Bool.not_eq_false, Bool.and_eq_true, Bool.or_eq_true, Bool.or_eq_false_iff, Bool.not_eq_true, Bool.not_eq_eq_eq_not, Bool.not_true, Bool.not_false] at c103)
                              have hBf := (hB.more lKC).more hlC
                              have hBg := hB2.more hlC
                              have kf := hBf.box
                              have kg := hBg.box
                              refine CW_exit ?_
                              try simp only [Ex.thnH, Ex.inBlockH, ↓reduceIte, Nat.reduceEqDiff]
                              refine hK29 _ _ ?_; try clear hK29 K29
                              refine CW_seq (fun K37 hK37 => ?_)
                              refine CW_region ?_
                              refine OW_mv rfl ?_
                              refine OW_opS (fun K hK r => ?_)
                              simp only [x_load, eX, ↓reduceIte, Nat.reduceEqDiff, Int.reduceToNat]
                              first | refine Lt_loadAll Try.underlying59 rfl sz59 hbA bdA ?_ | refine Lt_loadAtA Try.underlying59 rfl sz59 hbA bdA ?_
                              try simp only [List.extract_toArray, List.extract_eq_take_drop, Nat.zero_add, Nat.reduceAdd, Nat.reduceSub, Nat.sub_zero, List.drop_succ_cons, List.drop_zero, List.take_succ_cons, List.take_zero, List.take_nil, List.drop_nil]
                              try simp only [eX, ↓reduceIte, Nat.reduceEqDiff, Int.reduceToNat]
                              refine hK _ _ ?_; clear hK K
                              refine OW_opS (fun K hK r => ?_)
                              simp only [x_callF _ bd26, List.map_toArray, List.map_cons, List.map_nil, eX, ↓reduceIte, Nat.reduceEqDiff, Int.reduceToNat]
                              refine (standsL hBf (by omega)).mono ?_
                              rintro v H' ⟨rfl, rfl⟩
                              try simp only [eX, ↓reduceIte, Nat.reduceEqDiff, Int.reduceToNat]
                              refine hK _ _ ?_; clear hK K
                              refine OW_mv rfl ?_
                              (first | refine OW_split (d := 113) rfl (fun g113 => ?_) (fun g113 => ?_) | skip)
                              all_goals try (exfalso; exact cnA g113)
                              all_goals (try simp only [decide_eq_true_eq, decide_eq_false_iff_not, Bool.not_eq_true, Bool.not_eq_false, Bool.and_eq_true, Bool.or_eq_true, Bool.or_eq_false_iff, Bool.not_eq_true, Bool.not_eq_eq_eq_not, Bool.not_true, Bool.not_false] at g113)
                              all_goals
                                try simp only [eX, ↓reduceIte, Nat.reduceEqDiff, Int.reduceToNat]
                                first
                                | refine OW_guardT rfl (lt_some (by decide)) rfl (fun K hK r => ?_)
                                  simp only [x_move, eX, ↓reduceIte, Nat.reduceEqDiff, Int.reduceToNat]
                                  refine hK _ _ ?_; clear hK K
                                | refine OW_guardF rfl (lt_some (by decide)) rfl ?_
                                  simp only [eX, ↓reduceIte, Nat.reduceEqDiff, Int.reduceToNat]
                                first
                                | refine OW_guardT rfl (lt_some (by decide)) rfl (fun K hK r => ?_)
                                  simp only [x_load, eX, ↓reduceIte, Nat.reduceEqDiff, Int.reduceToNat]
                                  first | refine Lt_loadAll Try.underlying59 rfl sz59 hbA bdA ?_ | refine Lt_loadAtA Try.underlying59 rfl sz59 hbA bdA ?_
                                  try simp only [List.extract_toArray, List.extract_eq_take_drop, Nat.zero_add, Nat.reduceAdd, Nat.reduceSub, Nat.sub_zero, List.drop_succ_cons, List.drop_zero, List.take_succ_cons, List.take_zero, List.take_nil, List.drop_nil]
                                  try simp only [eX, ↓reduceIte, Nat.reduceEqDiff, Int.reduceToNat]
                                  refine hK _ _ ?_; clear hK K
                                | refine OW_guardF rfl (lt_some (by decide)) rfl ?_
                                  simp only [eX, ↓reduceIte, Nat.reduceEqDiff, Int.reduceToNat]
                                first
                                | refine OW_guardT rfl (lt_some (by decide)) rfl (fun K hK r => ?_)
                                  simp only [x_callF _ bd26, List.map_toArray, List.map_cons, List.map_nil, eX, ↓reduceIte, Nat.reduceEqDiff, Int.reduceToNat]
                                  refine (standsL hBg (by omega)).mono ?_
                                  rintro v H' ⟨rfl, rfl⟩
                                  try simp only [eX, ↓reduceIte, Nat.reduceEqDiff, Int.reduceToNat]
                                  refine hK _ _ ?_; clear hK K
                                | refine OW_guardF rfl (lt_some (by decide)) rfl ?_
                                  simp only [eX, ↓reduceIte, Nat.reduceEqDiff, Int.reduceToNat]
                                refine OW_opS (fun K hK r => ?_)
                                simp only [x_pick, l_asBool, HL.ite_bool, if_true, if_false, Bool.false_eq_true, eX, ↓reduceIte, Nat.reduceEqDiff, Int.reduceToNat]
                                refine hK _ _ ?_; clear hK K
                                refine OW_mv rfl ?_
                                (first | refine OW_split (d := 118) rfl (fun g118 => ?_) (fun g118 => ?_) | skip)
                                all_goals try (exfalso; exact cnA g118)
                                all_goals (try simp only [decide_eq_true_eq, decide_eq_false_iff_not, Bool.not_eq_true, Bool.not_eq_false, Bool.and_eq_true, Bool.or_eq_true, Bool.or_eq_false_iff, Bool.not_eq_true, Bool.not_eq_eq_eq_not, Bool.not_true, Bool.not_false] at g118)
                                all_goals
                                  try simp only [eX, ↓reduceIte, Nat.reduceEqDiff, Int.reduceToNat]
                                  first
                                  | refine OW_guardT rfl (lt_some (by decide)) rfl (fun K hK r => ?_)
                                    simp only [x_move, eX, ↓reduceIte, Nat.reduceEqDiff, Int.reduceToNat]
                                    refine hK _ _ ?_; clear hK K
                                  | refine OW_guardF rfl (lt_some (by decide)) rfl ?_
                                    simp only [eX, ↓reduceIte, Nat.reduceEqDiff, Int.reduceToNat]
                                  first
                                  | refine OW_guardT rfl (lt_some (by decide)) rfl (fun K hK r => ?_)
                                    simp only [x_move, eX, ↓reduceIte, Nat.reduceEqDiff, Int.reduceToNat]
                                    refine hK _ _ ?_; clear hK K
                                  | refine OW_guardF rfl (lt_some (by decide)) rfl ?_
                                    simp only [eX, ↓reduceIte, Nat.reduceEqDiff, Int.reduceToNat]
                                  first
                                  | refine OW_guardT rfl (lt_some (by decide)) rfl (fun K hK r => ?_)
                                    simp only [x_move, eX, ↓reduceIte, Nat.reduceEqDiff, Int.reduceToNat]
                                    refine hK _ _ ?_; clear hK K
                                  | refine OW_guardF rfl (lt_some (by decide)) rfl ?_
                                    simp only [eX, ↓reduceIte, Nat.reduceEqDiff, Int.reduceToNat]
                                  first
                                  | refine OW_guardT rfl (lt_some (by decide)) rfl (fun K hK r => ?_)
                                    simp only [x_callF _ bd17, List.map_toArray, List.map_cons, List.map_nil, eX, ↓reduceIte, Nat.reduceEqDiff, Int.reduceToNat]
                                    refine (sure_nil _ i i).mono ?_
                                    rintro v H' ⟨rfl, rfl⟩
                                    try simp only [eX, ↓reduceIte, Nat.reduceEqDiff, Int.reduceToNat]
                                    refine hK _ _ ?_; clear hK K
                                  | refine OW_guardF rfl (lt_some (by decide)) rfl ?_
                                    simp only [eX, ↓reduceIte, Nat.reduceEqDiff, Int.reduceToNat]
                                  first
                                  | refine OW_guardT rfl (lt_some (by decide)) rfl (fun K hK r => ?_)
                                    simp only [x_build, List.map_toArray, List.map_cons, List.map_nil, eX, ↓reduceIte, Nat.reduceEqDiff, Int.reduceToNat]
                                    rw [l_buildArr Try.underlying38 sz5 zr38]
                                    simp only [Value.cells]
                                    simp only [fill_nil, orF_some, List.setIfInBounds_toArray, List.set_cons_zero, List.set_cons_succ]
                                    try simp only [eX, ↓reduceIte, Nat.reduceEqDiff, Int.reduceToNat]
                                    refine hK _ _ ?_; clear hK K
                                  | refine OW_guardF rfl (lt_some (by decide)) rfl ?_
                                    simp only [eX, ↓reduceIte, Nat.reduceEqDiff, Int.reduceToNat]
                                  first
                                  | refine OW_guardT rfl (lt_some (by decide)) rfl (fun K hK r => ?_)
                                    simp only [x_bin, g_agg _ _ _ _ _ _ eqg38, eX, ↓reduceIte, Nat.reduceEqDiff, Int.reduceToNat]
                                    rw [e_eql _ _ _ _ (by simp)]
                                    rw [q_equal]
                                    rw [show (Array.replicate 64 (Value.int .u8 0)) = Sec.zero.c.toArray from rfl]
                                    rw [q_sec]
                                    refine hK _ _ ?_; clear hK K
                                  | refine OW_guardF rfl (lt_some (by decide)) rfl ?_
                                    simp only [eX, ↓reduceIte, Nat.reduceEqDiff, Int.reduceToNat]
                                  refine OW_opS (fun K hK r => ?_)
                                  simp only [x_pick, l_asBool, HL.ite_bool, if_true, if_false, Bool.false_eq_true, eX, ↓reduceIte, Nat.reduceEqDiff, Int.reduceToNat]
                                  refine hK _ _ ?_; clear hK K
                                  refine OW_mv rfl ?_
                                  (first | refine OW_split (d := 126) rfl (fun g126 => ?_) (fun g126 => ?_) | skip)
                                  all_goals try (exfalso; exact cnA g126)
                                  all_goals (try simp only [decide_eq_true_eq, decide_eq_false_iff_not, Bool.not_eq_true, Bool.not_eq_false, Bool.and_eq_true, Bool.or_eq_true, Bool.or_eq_false_iff, Bool.not_eq_true, Bool.not_eq_eq_eq_not, Bool.not_true, Bool.not_false] at g126)
                                  all_goals
                                    try simp only [eX, ↓reduceIte, Nat.reduceEqDiff, Int.reduceToNat]
                                    first
                                    | refine OW_guardT rfl (lt_some (by decide)) rfl (fun K hK r => ?_)
                                      simp only [x_move, eX, ↓reduceIte, Nat.reduceEqDiff, Int.reduceToNat]
                                      refine hK _ _ ?_; clear hK K
                                    | refine OW_guardF rfl (lt_some (by decide)) rfl ?_
                                      simp only [eX, ↓reduceIte, Nat.reduceEqDiff, Int.reduceToNat]
                                    first
                                    | refine OW_guardT rfl (lt_some (by decide)) rfl (fun K hK r => ?_)
                                      simp only [x_callF _ bd24, List.map_toArray, List.map_cons, List.map_nil, eX, ↓reduceIte, Nat.reduceEqDiff, Int.reduceToNat]
                                      refine (many_nil _).mono ?_
                                      rintro v H' ⟨rfl, rfl⟩
                                      try simp only [eX, ↓reduceIte, Nat.reduceEqDiff, Int.reduceToNat]
                                      refine hK _ _ ?_; clear hK K
                                    | refine OW_guardF rfl (lt_some (by decide)) rfl ?_
                                      simp only [eX, ↓reduceIte, Nat.reduceEqDiff, Int.reduceToNat]
                                    first
                                    | refine OW_guardT rfl (lt_some (by decide)) rfl (fun K hK r => ?_)
                                      simp (disch := (first | omega | decide)) only [x_bin, g_int, b_eql, dec_lt_t, dec_lt_f, dec_le_t, dec_le_f, dec_eq_t, dec_eq_f, Bool.not_true, Bool.not_false, eX, ↓reduceIte, Nat.reduceEqDiff, Int.reduceToNat]
                                      refine hK _ _ ?_; clear hK K
                                    | refine OW_guardF rfl (lt_some (by decide)) rfl ?_
                                      simp only [eX, ↓reduceIte, Nat.reduceEqDiff, Int.reduceToNat]
                                    refine OW_opS (fun K hK r => ?_)
                                    simp only [x_pick, l_asBool, HL.ite_bool, if_true, if_false, Bool.false_eq_true, eX, ↓reduceIte, Nat.reduceEqDiff, Int.reduceToNat]
                                    refine hK _ _ ?_; clear hK K
                                    refine OW_mv rfl ?_
                                    (first | refine OW_split (d := 131) rfl (fun g131 => ?_) (fun g131 => ?_) | skip)
                                    all_goals try (exfalso; exact cnA g131)
                                    all_goals (try simp only [decide_eq_true_eq, decide_eq_false_iff_not, Bool.not_eq_true, Bool.not_eq_false, Bool.and_eq_true, Bool.or_eq_true, Bool.or_eq_false_iff, Bool.not_eq_true, Bool.not_eq_eq_eq_not, Bool.not_true, Bool.not_false] at g131)
                                    all_goals
                                      try simp only [eX, ↓reduceIte, Nat.reduceEqDiff, Int.reduceToNat]
                                      first
                                      | refine OW_guardT rfl (lt_some (by decide)) rfl (fun K hK r => ?_)
                                        simp only [x_move, eX, ↓reduceIte, Nat.reduceEqDiff, Int.reduceToNat]
                                        refine hK _ _ ?_; clear hK K
                                      | refine OW_guardF rfl (lt_some (by decide)) rfl ?_
                                        simp only [eX, ↓reduceIte, Nat.reduceEqDiff, Int.reduceToNat]
                                      first
                                      | refine OW_guardT rfl (lt_some (by decide)) rfl (fun K hK r => ?_)
                                        simp only [x_move, eX, ↓reduceIte, Nat.reduceEqDiff, Int.reduceToNat]
                                        refine hK _ _ ?_; clear hK K
                                      | refine OW_guardF rfl (lt_some (by decide)) rfl ?_
                                        simp only [eX, ↓reduceIte, Nat.reduceEqDiff, Int.reduceToNat]
                                      first
                                      | refine OW_guardT rfl (lt_some (by decide)) rfl (fun K hK r => ?_)
                                        simp only [x_callF _ bd29, List.map_toArray, List.map_cons, List.map_nil, eX, ↓reduceIte, Nat.reduceEqDiff, Int.reduceToNat]
                                        refine (size_nil _ i).mono ?_
                                        rintro v H' ⟨rfl, rfl⟩
                                        try simp only [eX, ↓reduceIte, Nat.reduceEqDiff, Int.reduceToNat]
                                        refine hK _ _ ?_; clear hK K
                                      | refine OW_guardF rfl (lt_some (by decide)) rfl ?_
                                        simp only [eX, ↓reduceIte, Nat.reduceEqDiff, Int.reduceToNat]
                                      first
                                      | refine OW_guardT rfl (lt_some (by decide)) rfl (fun K hK r => ?_)
                                        simp (disch := (first | omega | decide)) only [x_bin, g_int, b_eql, dec_lt_t, dec_lt_f, dec_le_t, dec_le_f, dec_eq_t, dec_eq_f, Bool.not_true, Bool.not_false, eX, ↓reduceIte, Nat.reduceEqDiff, Int.reduceToNat]
                                        refine hK _ _ ?_; clear hK K
                                      | refine OW_guardF rfl (lt_some (by decide)) rfl ?_
                                        simp only [eX, ↓reduceIte, Nat.reduceEqDiff, Int.reduceToNat]
                                      refine OW_opS (fun K hK r => ?_)
                                      simp only [x_pick, l_asBool, HL.ite_bool, if_true, if_false, Bool.false_eq_true, eX, ↓reduceIte, Nat.reduceEqDiff, Int.reduceToNat]
                                      refine hK _ _ ?_; clear hK K
                                      refine OW_mv rfl ?_
                                      (first | refine OW_split (d := 137) rfl (fun g137 => ?_) (fun g137 => ?_) | skip)
                                      all_goals try (exfalso; exact cnA g137)
                                      all_goals (try simp only [decide_eq_true_eq, decide_eq_false_iff_not, Bool.not_eq_true, Bool.not_eq_false, Bool.and_eq_true, Bool.or_eq_true, Bool.or_eq_false_iff, Bool.not_eq_true, Bool.not_eq_eq_eq_not, Bool.not_true, Bool.not_false] at g137)
                                      all_goals
                                        try simp only [eX, ↓reduceIte, Nat.reduceEqDiff, Int.reduceToNat]
                                        first
                                        | refine OW_guardT rfl (lt_some (by decide)) rfl (fun K hK r => ?_)
                                          simp only [x_move, eX, ↓reduceIte, Nat.reduceEqDiff, Int.reduceToNat]
                                          refine hK _ _ ?_; clear hK K
                                        | refine OW_guardF rfl (lt_some (by decide)) rfl ?_
                                          simp only [eX, ↓reduceIte, Nat.reduceEqDiff, Int.reduceToNat]
                                        first
                                        | refine OW_guardT rfl (lt_some (by decide)) rfl (fun K hK r => ?_)
                                          simp only [x_move, eX, ↓reduceIte, Nat.reduceEqDiff, Int.reduceToNat]
                                          refine hK _ _ ?_; clear hK K
                                        | refine OW_guardF rfl (lt_some (by decide)) rfl ?_
                                          simp only [eX, ↓reduceIte, Nat.reduceEqDiff, Int.reduceToNat]
                                        first
                                        | refine OW_guardT rfl (lt_some (by decide)) rfl (fun K hK r => ?_)
                                          simp only [x_callF _ bd18, List.map_toArray, List.map_cons, List.map_nil, eX, ↓reduceIte, Nat.reduceEqDiff, Int.reduceToNat]
                                          refine (waiting_nil _ i).mono ?_
                                          rintro v H' ⟨rfl, rfl⟩
                                          try simp only [eX, ↓reduceIte, Nat.reduceEqDiff, Int.reduceToNat]
                                          refine hK _ _ ?_; clear hK K
                                        | refine OW_guardF rfl (lt_some (by decide)) rfl ?_
                                          simp only [eX, ↓reduceIte, Nat.reduceEqDiff, Int.reduceToNat]
                                        first
                                        | refine OW_guardT rfl (lt_some (by decide)) rfl (fun K hK r => ?_)
                                          simp (disch := (first | omega | decide)) only [x_bin, g_int, b_eql, dec_lt_t, dec_lt_f, dec_le_t, dec_le_f, dec_eq_t, dec_eq_f, Bool.not_true, Bool.not_false, eX, ↓reduceIte, Nat.reduceEqDiff, Int.reduceToNat]
                                          refine hK _ _ ?_; clear hK K
                                        | refine OW_guardF rfl (lt_some (by decide)) rfl ?_
                                          simp only [eX, ↓reduceIte, Nat.reduceEqDiff, Int.reduceToNat]
                                        refine OW_opS (fun K hK r => ?_)
                                        simp only [x_pick, l_asBool, HL.ite_bool, if_true, if_false, Bool.false_eq_true, eX, ↓reduceIte, Nat.reduceEqDiff, Int.reduceToNat]
                                        refine hK _ _ ?_; clear hK K
                                        refine OW_mv rfl ?_
                                        (first | refine OW_split (d := 143) rfl (fun g143 => ?_) (fun g143 => ?_) | skip)
                                        all_goals try (exfalso; exact cnA g143)
                                        all_goals (try simp only [decide_eq_true_eq, decide_eq_false_iff_not, Bool.not_eq_true, Bool.not_eq_false, Bool.and_eq_true, Bool.or_eq_true, Bool.or_eq_false_iff, Bool.not_eq_true, Bool.not_eq_eq_eq_not, Bool.not_true, Bool.not_false] at g143)
                                        all_goals
                                          try simp only [eX, ↓reduceIte, Nat.reduceEqDiff, Int.reduceToNat]
                                          first
                                          | refine OW_guardT rfl (lt_some (by decide)) rfl (fun K hK r => ?_)
                                            simp only [x_move, eX, ↓reduceIte, Nat.reduceEqDiff, Int.reduceToNat]
                                            refine hK _ _ ?_; clear hK K
                                          | refine OW_guardF rfl (lt_some (by decide)) rfl ?_
                                            simp only [eX, ↓reduceIte, Nat.reduceEqDiff, Int.reduceToNat]
                                          first
                                          | refine OW_guardT rfl (lt_some (by decide)) rfl (fun K hK r => ?_)
                                            simp only [x_callF _ bd21, List.map_toArray, List.map_cons, List.map_nil, eX, ↓reduceIte, Nat.reduceEqDiff, Int.reduceToNat]
                                            refine (steps_nil _).mono ?_
                                            rintro v H' ⟨rfl, rfl⟩
                                            try simp only [eX, ↓reduceIte, Nat.reduceEqDiff, Int.reduceToNat]
                                            refine hK _ _ ?_; clear hK K
                                          | refine OW_guardF rfl (lt_some (by decide)) rfl ?_
                                            simp only [eX, ↓reduceIte, Nat.reduceEqDiff, Int.reduceToNat]
                                          first
                                          | refine OW_guardT rfl (lt_some (by decide)) rfl (fun K hK r => ?_)
                                            simp (disch := (first | omega | decide)) only [x_bin, g_int, b_eql, dec_lt_t, dec_lt_f, dec_le_t, dec_le_f, dec_eq_t, dec_eq_f, Bool.not_true, Bool.not_false, eX, ↓reduceIte, Nat.reduceEqDiff, Int.reduceToNat]
                                            refine hK _ _ ?_; clear hK K
                                          | refine OW_guardF rfl (lt_some (by decide)) rfl ?_
                                            simp only [eX, ↓reduceIte, Nat.reduceEqDiff, Int.reduceToNat]
                                          refine OW_opS (fun K hK r => ?_)
                                          simp only [x_pick, l_asBool, HL.ite_bool, if_true, if_false, Bool.false_eq_true, eX, ↓reduceIte, Nat.reduceEqDiff, Int.reduceToNat]
                                          refine hK _ _ ?_; clear hK K
                                          refine OW_mv rfl ?_
                                          (first | refine OW_split (d := 148) rfl (fun g148 => ?_) (fun g148 => ?_) | skip)
                                          all_goals try (exfalso; exact cnA g148)
                                          all_goals (try simp only [decide_eq_true_eq, decide_eq_false_iff_not, Bool.not_eq_true, Bool.not_eq_false, Bool.and_eq_true, Bool.or_eq_true, Bool.or_eq_false_iff, Bool.not_eq_true, Bool.not_eq_eq_eq_not, Bool.not_true, Bool.not_false] at g148)
                                          all_goals
                                            try simp only [eX, ↓reduceIte, Nat.reduceEqDiff, Int.reduceToNat]
                                            first
                                            | refine OW_guardT rfl (lt_some (by decide)) rfl (fun K hK r => ?_)
                                              simp only [x_move, eX, ↓reduceIte, Nat.reduceEqDiff, Int.reduceToNat]
                                              refine hK _ _ ?_; clear hK K
                                            | refine OW_guardF rfl (lt_some (by decide)) rfl ?_
                                              simp only [eX, ↓reduceIte, Nat.reduceEqDiff, Int.reduceToNat]
                                            first
                                            | refine OW_guardT rfl (lt_some (by decide)) rfl (fun K hK r => ?_)
                                              simp only [x_callF _ bd19, List.map_toArray, List.map_cons, List.map_nil, eX, ↓reduceIte, Nat.reduceEqDiff, Int.reduceToNat]
                                              refine (down_nil _).mono ?_
                                              rintro v H' ⟨rfl, rfl⟩
                                              try simp only [eX, ↓reduceIte, Nat.reduceEqDiff, Int.reduceToNat]
                                              refine hK _ _ ?_; clear hK K
                                            | refine OW_guardF rfl (lt_some (by decide)) rfl ?_
                                              simp only [eX, ↓reduceIte, Nat.reduceEqDiff, Int.reduceToNat]
                                            refine OW_opS (fun K hK r => ?_)
                                            simp only [x_pick, l_asBool, HL.ite_bool, if_true, if_false, Bool.false_eq_true, eX, ↓reduceIte, Nat.reduceEqDiff, Int.reduceToNat]
                                            refine hK _ _ ?_; clear hK K
                                            refine OW_mv rfl ?_
                                            (first | refine OW_split (d := 152) rfl (fun g152 => ?_) (fun g152 => ?_) | skip)
                                            all_goals try (exfalso; exact cnA g152)
                                            all_goals (try simp only [decide_eq_true_eq, decide_eq_false_iff_not, Bool.not_eq_true, Bool.not_eq_false, Bool.and_eq_true, Bool.or_eq_true, Bool.or_eq_false_iff, Bool.not_eq_true, Bool.not_eq_eq_eq_not, Bool.not_true, Bool.not_false] at g152)
                                            all_goals
                                              try simp only [eX, ↓reduceIte, Nat.reduceEqDiff, Int.reduceToNat]
                                              first
                                              | refine OW_guardT rfl (lt_some (by decide)) rfl (fun K hK r => ?_)
                                                simp only [x_move, eX, ↓reduceIte, Nat.reduceEqDiff, Int.reduceToNat]
                                                refine hK _ _ ?_; clear hK K
                                              | refine OW_guardF rfl (lt_some (by decide)) rfl ?_
                                                simp only [eX, ↓reduceIte, Nat.reduceEqDiff, Int.reduceToNat]
                                              first
                                              | refine OW_guardT rfl (lt_some (by decide)) rfl (fun K hK r => ?_)
                                                simp only [x_callF _ bd27, List.map_toArray, List.map_cons, List.map_nil, eX, ↓reduceIte, Nat.reduceEqDiff, Int.reduceToNat]
                                                refine (copy_nil _).mono ?_
                                                rintro v H' ⟨rfl, rfl⟩
                                                try simp only [eX, ↓reduceIte, Nat.reduceEqDiff, Int.reduceToNat]
                                                refine hK _ _ ?_; clear hK K
                                              | refine OW_guardF rfl (lt_some (by decide)) rfl ?_
                                                simp only [eX, ↓reduceIte, Nat.reduceEqDiff, Int.reduceToNat]
                                              first
                                              | refine OW_guardT rfl (lt_some (by decide)) rfl (fun K hK r => ?_)
                                                simp only [x_bin, g_int, g_bool, g_string, g_pointer, g_slice, g_map, g_func, g_nilFunc, g_iface, g_nil_iface, g_nil_r, g_nil_l, eX, ↓reduceIte, Nat.reduceEqDiff, Int.reduceToNat]
                                                rw [e_eql _ _ _ _ (by simp)]
                                                rw [q_equal]
                                                first | rw [q_ptr_nil _ _ _ Try.underlying26] | rw [q_nil_ptr _ _ _ Try.underlying26]
                                                try simp only [eX, ↓reduceIte, Nat.reduceEqDiff, Int.reduceToNat]
                                                refine hK _ _ ?_; clear hK K
                                              | refine OW_guardF rfl (lt_some (by decide)) rfl ?_
                                                simp only [eX, ↓reduceIte, Nat.reduceEqDiff, Int.reduceToNat]
                                              refine OW_opS (fun K hK r => ?_)
                                              simp only [x_pick, l_asBool, HL.ite_bool, if_true, if_false, Bool.false_eq_true, eX, ↓reduceIte, Nat.reduceEqDiff, Int.reduceToNat]
                                              refine hK _ _ ?_; clear hK K
                                              refine OW_as rfl ?_
                                              refine OW_nil ?_
                                              try simp only [Ex.thnH, Ex.inBlockH, ↓reduceIte, Nat.reduceEqDiff]
                                              refine hK37 _ _ ?_; try clear hK37 K37
                                              refine CW_ret ?_
                                              try simp only [Ex.thnH, Ex.inBlockH, ↓reduceIte, Nat.reduceEqDiff]
                                              exact ⟨[_], ⟨rfl, trivial⟩, H, Le.trans hHH (Le.trans lKC hlC), by first | rfl | (simp; done) | (simp; rfl), Le.refl _⟩

end Go.Proofs.Ytkmjncmdhinlgaa.HL
end
