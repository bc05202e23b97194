/- Parts of the proof, one behind the other: D24. -/
import Derived.Test.YtkmjncmdhinlgaaX3
set_option linter.unusedSimpArgs false
set_option linter.unusedVariables false
section
namespace Go.Proofs.Ytkmjncmdhinlgaa.HL
open Go Go.Proofs
set_option linter.unusedSimpArgs false
set_option linter.unusedVariables false
attribute [local irreducible] Lt Lq CW OW TW CallH


/-- an armed set that has done so many of n steps -/
structure Armd (n : Int) (s : St) : Prop where
  armed : s.armed = true
  left : s.left = n - s.steps
  lo : 0 ≤ s.steps
  hi : s.steps ≤ n
  gone : s.gone = true → s.steps = n
theorem Armd.step {n : Int} {s : St} (h : Armd n s) (hn : n ≤ 9223372036854775807) : Armd n s.step.1 ∧ (s.gone = true → s.step.1.steps = s.steps) := by
  have h1 := h.left; have h2 := h.lo; have h3 := h.hi
  unfold St.step
  by_cases hc : s.gone = true ∨ (s.armed = true ∧ s.left ≤ 0)
  · rw [if_pos hc]
    refine ⟨⟨h.armed, h.left, h.lo, h.hi, fun _ => ?_⟩, fun _ => rfl⟩
    rcases hc with hg | ⟨_, hl⟩
    · exact h.gone hg
    · show s.steps = n; omega
  · rw [if_neg hc]
    have hg : ¬ s.gone = true := fun e => hc (.inl e)
    have hl : ¬ s.left ≤ 0 := fun e => hc (.inr ⟨h.armed, e⟩)
    refine ⟨⟨h.armed, ?_, ?_, ?_, fun e => absurd e hg⟩, fun e => absurd e hg⟩
    · show IntKind.i64.wrap (s.left - 1) = n - IntKind.i64.wrap (s.steps + 1)
      rw [wrap_i64 _ (by omega) (by omega), wrap_i64 _ (by omega) (by omega)]; omega
    · show 0 ≤ IntKind.i64.wrap (s.steps + 1)
      rw [wrap_i64 _ (by omega) (by omega)]; omega
    · show IntKind.i64.wrap (s.steps + 1) ≤ n
      rw [wrap_i64 _ (by omega) (by omega)]; omega
def ArmR (n : Int) (s t : St) : Prop := Armd n t ∧ (s.gone = true → t.steps = s.steps) ∧ t.dv.length = s.dv.length
theorem Armd.wr {n : Int} {s : St} (h : Armd n s) (hn : n ≤ 9223372036854775807) (dev i : Int) (x : Sec) : ArmR n s (s.wr dev i x).1 := by
  obtain ⟨h1, h2⟩ := h.step hn
  rcases wr_cases s dev i x with ⟨e, _⟩ | ⟨e, _⟩ | ⟨e, _⟩
  · rw [e]; exact ⟨h, fun _ => rfl, rfl⟩
  · rw [e]; exact ⟨h1, h2, by rw [step_dv]⟩
  · rw [e]; exact ⟨⟨h1.armed, h1.left, h1.lo, h1.hi, h1.gone⟩, h2, by simp⟩
theorem Armd.fl {n : Int} {s : St} (h : Armd n s) (hn : n ≤ 9223372036854775807) (dev : Int) : ArmR n s (s.fl dev).1 := by
  obtain ⟨h1, h2⟩ := h.step hn
  rcases fl_cases s dev with ⟨e, _⟩ | ⟨e, _⟩ | ⟨e, _⟩
  · rw [e]; exact ⟨h, fun _ => rfl, rfl⟩
  · rw [e]; exact ⟨h1, h2, by rw [step_dv]⟩
  · rw [e]; exact ⟨⟨h1.armed, h1.left, h1.lo, h1.hi, h1.gone⟩, h2, by simp⟩
theorem kp0 : Holds emptyHp 3 (.slice none 0 0) 0 (kps []) := ⟨rfl, .inl ⟨none, 0, rfl, rfl⟩⟩
theorem fl_up (s : St) (h : 0 < s.dv.length) (l : List Kp) : ((s.cr l).fl 0).2 = none := by
  have h1 : 0 < (s.cr l).dv.length := by simp [St.cr]; exact h
  have hs : (s.cr l).step.2 = true := by unfold St.step; rw [if_neg (by simp [St.cr])]
  rcases fl_cases (s.cr l) 0 with ⟨_, _, e⟩ | ⟨_, _, e, _⟩ | ⟨_, e, _⟩
  · exact absurd ⟨by omega, by omega⟩ e
  · rw [hs] at e; cases e
  · exact e

set_option maxRecDepth 100000 in
set_option maxHeartbeats 4000000 in
theorem lawArmed (H : Hp) (n : Int) (a : Option Addr) (cap : Nat) (l : List Op1) (hv : Holds H 5 (.slice a l.length cap) l.length (ops l)) (hn : n ≤ 9223372036854775807) : CallH Try.prog 5 #[.int .i64 n, .slice a l.length cap] H (fun v H' => v = .bool true ∧ Le H H') := by
  refine CallH_enter (l := [_, _]) (rl := [.tmp 4]) (n := 103) Try.func5 rfl rfl rfl rfl rfl ?_
  simp only [envOf, Nat.reduceAdd]
  refine CW_seq (fun K1 hK1 => ?_)
  refine CW_region ?_
  refine OW_as rfl ?_
  refine OW_nil ?_
  try simp only [Ex.thnH, Ex.inBlockH, ↓reduceIte, Nat.reduceEqDiff]
  refine hK1 _ _ ?_; try clear hK1 K1
  refine CW_seq (fun K2 hK2 => ?_)
  refine CW_seq (fun K3 hK3 => ?_)
  refine CW_region ?_
  refine OW_opS (fun K hK r => ?_)
  simp only [x_callF _ bd8, List.map_toArray, List.map_cons, List.map_nil, eX, ↓reduceIte, Nat.reduceEqDiff, Int.reduceToNat]
  refine (alive_ok _).mono ?_
  rintro v11 H' ⟨rfl, hq⟩
  have hq := hq.symm
  subst hq
  try simp only [eX, ↓reduceIte, Nat.reduceEqDiff, Int.reduceToNat]
  refine hK _ _ ?_; clear hK K
  refine OW_opS (fun K hK r => ?_)
  simp only [x_un, u_not, eX, ↓reduceIte, Nat.reduceEqDiff, Int.reduceToNat]
  refine hK _ _ ?_; clear hK K
  refine OW_nil ?_
  try simp only [Ex.thnH, Ex.inBlockH, ↓reduceIte, Nat.reduceEqDiff]
  refine hK3 _ _ ?_; try clear hK3 K3
  refine CW_cond (fun r => rfl) (fun c12 => ?_) (fun c12 => ?_)
  · first
    | (exfalso; exact cnA c12; done)
    | skip
      (try simp only [decide_eq_true_eq, decide_eq_false_iff_not, Bool.not_eq_true, Bool.not_eq_false, Bool.and_eq_true, Bool.or_eq_true, Bool.or_eq_false_iff, Bool.not_eq_true, Bool.not_eq_eq_eq_not, Bool.not_true, Bool.not_false] at c12)
      refine CW_seq (fun K4 hK4 => ?_)
      refine CW_region ?_
      refine OW_as rfl ?_
      refine OW_nil ?_
      try simp only [Ex.thnH, Ex.inBlockH, ↓reduceIte, Nat.reduceEqDiff]
      refine hK4 _ _ ?_; try clear hK4 K4
      refine CW_ret ?_
      try simp only [Ex.thnH, Ex.inBlockH, ↓reduceIte, Nat.reduceEqDiff]
      skip
  · first
    | (exfalso; exact cnA c12; done)
    | skip
      (try simp only [decide_eq_true_eq, decide_eq_false_iff_not, Bool.not_eq_true, Bool.not_eq_false, Bool.and_eq_true, Bool.or_eq_true, Bool.or_eq_false_iff, Bool.not_eq_true, Bool.not_eq_eq_eq_not, Bool.not_true, Bool.not_false] at c12)
      refine CW_skip ?_
      try simp only [Ex.thnH, Ex.inBlockH, ↓reduceIte, Nat.reduceEqDiff]
      refine hK2 _ _ ?_; try clear hK2 K2
      refine CW_seq (fun K5 hK5 => ?_)
      refine CW_seq (fun K6 hK6 => ?_)
      refine CW_region ?_
      refine OW_mv rfl ?_
      refine OW_opS (fun K hK r => ?_)
      simp only [x_callF _ bd9, List.map_toArray, List.map_cons, List.map_nil, eX, ↓reduceIte, Nat.reduceEqDiff, Int.reduceToNat]
      refine (long_ok _ a cap l hv).mono ?_
      rintro v14 H' ⟨t, rfl, hsh, hq⟩
      have hq := hq.symm
      subst hq
      try simp only [eX, ↓reduceIte, Nat.reduceEqDiff, Int.reduceToNat]
      refine hK _ _ ?_; clear hK K
      refine OW_mv rfl ?_
      (first | refine OW_split (d := 15) rfl (fun g15 => ?_) (fun g15 => ?_) | skip)
      all_goals try (exfalso; exact cnA g15)
      all_goals (try simp only [decide_eq_true_eq, decide_eq_false_iff_not, Bool.not_eq_true, Bool.not_eq_false, Bool.and_eq_true, Bool.or_eq_true, Bool.or_eq_false_iff, Bool.not_eq_true, Bool.not_eq_eq_eq_not, Bool.not_true, Bool.not_false] at g15)
      all_goals
        try simp only [eX, ↓reduceIte, Nat.reduceEqDiff, Int.reduceToNat]
        first
        | refine OW_guardT rfl (lt_some (by decide)) rfl (fun K hK r => ?_)
          simp only [x_move, eX, ↓reduceIte, Nat.reduceEqDiff, Int.reduceToNat]
          refine hK _ _ ?_; clear hK K
        | refine OW_guardF rfl (lt_some (by decide)) rfl ?_
          simp only [eX, ↓reduceIte, Nat.reduceEqDiff, Int.reduceToNat]
        first
        | refine OW_guardT rfl (lt_some (by decide)) rfl (fun K hK r => ?_)
          simp (disch := (first | omega | decide)) only [x_bin, g_int, b_lss, dec_lt_t, dec_lt_f, dec_le_t, dec_le_f, dec_eq_t, dec_eq_f, Bool.not_true, Bool.not_false, eX, ↓reduceIte, Nat.reduceEqDiff, Int.reduceToNat]
          refine hK _ _ ?_; clear hK K
        | refine OW_guardF rfl (lt_some (by decide)) rfl ?_
          simp only [eX, ↓reduceIte, Nat.reduceEqDiff, Int.reduceToNat]
        refine OW_opS (fun K hK r => ?_)
        simp only [x_pick, l_asBool, HL.ite_bool, if_true, if_false, Bool.false_eq_true, eX, ↓reduceIte, Nat.reduceEqDiff, Int.reduceToNat]
        refine hK _ _ ?_; clear hK K
        refine OW_nil ?_
        try simp only [Ex.thnH, Ex.inBlockH, ↓reduceIte, Nat.reduceEqDiff]
        refine hK6 _ _ ?_; try clear hK6 K6
        refine CW_cond (fun r => rfl) (fun c18 => ?_) (fun c18 => ?_)
        · first
          | (exfalso; exact cnA c18; done)
          | skip
            skip
            refine CW_seq (fun K7 hK7 => ?_)
            refine CW_region ?_
            refine OW_as rfl ?_
            refine OW_nil ?_
            try simp only [Ex.thnH, Ex.inBlockH, ↓reduceIte, Nat.reduceEqDiff]
            refine hK7 _ _ ?_; try clear hK7 K7
            refine CW_ret ?_
            try simp only [Ex.thnH, Ex.inBlockH, ↓reduceIte, Nat.reduceEqDiff]
            exact ⟨[_], ⟨rfl, trivial⟩, H, lhA, rfl, Le.refl _⟩
        · first
          | (exfalso; exact cnA c18; done)
          | skip
            (try simp only [decide_eq_true_eq, decide_eq_false_iff_not, Bool.not_eq_true, Bool.not_eq_false, Bool.and_eq_true, Bool.or_eq_true, Bool.or_eq_false_iff, Bool.not_eq_true, Bool.not_eq_eq_eq_not, Bool.not_true, Bool.not_false] at c18)
            have hshort := hsh (by first | assumption | simp_all)
            have hl81 := hshort.1
            refine CW_skip ?_
            try simp only [Ex.thnH, Ex.inBlockH, ↓reduceIte, Nat.reduceEqDiff]
            refine hK5 _ _ ?_; try clear hK5 K5
            refine CW_seq (fun K8 hK8 => ?_)
            refine CW_region ?_
            refine OW_opS (fun K hK r => ?_)
            simp only [x_buildSlice, List.map_toArray, List.map_cons, List.map_nil, eX, ↓reduceIte, Nat.reduceEqDiff, Int.reduceToNat]
            refine Lt_buildSlice (vs := [_, _]) Try.underlying56 sz3 zr3 rfl bsA (by first | decide | (simp; done)) ?_
            simp only [List.flatMap_cons, List.flatMap_nil, Value.cells, List.append_nil, List.cons_append, List.nil_append, List.length_cons, List.length_nil, Nat.zero_add, Nat.reduceAdd]
            intro b20 hb20
            have f20_H : H b20 = none := none_of_le lhA hb20
            try simp only [eX, ↓reduceIte, Nat.reduceEqDiff, Int.reduceToNat]
            refine hK _ _ ?_; clear hK K
            refine OW_opS (fun K hK r => ?_)
            simp only [x_callF _ bd10, List.map_toArray, List.map_cons, List.map_nil, eX, ↓reduceIte, Nat.reduceEqDiff, Int.reduceToNat]
            refine (newL _ _ _ [6, 3] ⟨rfl, .inr ⟨b20, 0, 2, _, _, _, rfl, hbA, by simp, by simp⟩⟩ rfl (by decide)).mono ?_
            rintro v21 H21 ⟨p, F21, rfl, hA21'⟩
            have hA21 : Stn H H21 F21 p (newSt [6, 3]) := hA21'.less lhA
            have hO21 := hA21.old
            clear hA21'
            try simp only [eX, ↓reduceIte, Nat.reduceEqDiff, Int.reduceToNat]
            refine hK _ _ ?_; clear hK K
            refine OW_mv rfl ?_
            refine OW_opS (fun K hK r => ?_)
            simp only [x_extract, i_extract, List.getElem?_toArray, List.getElem?_cons_zero, List.getElem?_cons_succ, orF_some, eX, ↓reduceIte, Nat.reduceEqDiff, Int.reduceToNat]
            refine hK _ _ ?_; clear hK K
            refine OW_opS (fun K hK r => ?_)
            simp only [x_extract, i_extract, List.getElem?_toArray, List.getElem?_cons_zero, List.getElem?_cons_succ, orF_some, eX, ↓reduceIte, Nat.reduceEqDiff, Int.reduceToNat]
            refine hK _ _ ?_; clear hK K
            refine OW_as rfl ?_
            refine OW_as rfl ?_
            refine OW_nil ?_
            try simp only [Ex.thnH, Ex.inBlockH, ↓reduceIte, Nat.reduceEqDiff]
            refine hK8 _ _ ?_; try clear hK8 K8
            refine CW_seq (fun K9 hK9 => ?_)
            refine CW_seq (fun K10 hK10 => ?_)
            refine CW_region ?_
            refine OW_mv rfl ?_
            refine OW_opS (fun K hK r => ?_)
            simp only [x_bin, g_int, g_bool, g_string, g_pointer, g_slice, g_map, g_func, g_nilFunc, g_err, g_iface, g_nil_iface, g_nil_r, g_nil_l, eX, ↓reduceIte, Nat.reduceEqDiff, Int.reduceToNat]
            first | rw [b_err_neq _ _ Try.underlying28] | (rw [e_neq _ _ _ _ (by simp), q_equal]; first | rw [q_iface_nil _ _ _ Try.underlying28] | rw [q_nil_iface _ _ _ Try.underlying28] | rw [q_nil_nil _ _ _ Try.underlying28])
            try simp only [eX, ↓reduceIte, Nat.reduceEqDiff, Int.reduceToNat]
            refine hK _ _ ?_; clear hK K
            refine OW_mv rfl ?_
            (first | refine OW_split (d := 26) rfl (fun g26 => ?_) (fun g26 => ?_) | skip)
            all_goals try (exfalso; exact cnA g26)
            all_goals (try simp only [decide_eq_true_eq, decide_eq_false_iff_not, Bool.not_eq_true, Bool.not_eq_false, Bool.and_eq_true, Bool.or_eq_true, Bool.or_eq_false_iff, Bool.not_eq_true, Bool.not_eq_eq_eq_not, Bool.not_true, Bool.not_false] at g26)
            all_goals
              try simp only [eX, ↓reduceIte, Nat.reduceEqDiff, Int.reduceToNat]
              first
              | refine OW_guardT rfl (lt_some (by decide)) rfl (fun K hK r => ?_)
                simp only [x_move, eX, ↓reduceIte, Nat.reduceEqDiff, Int.reduceToNat]
                refine hK _ _ ?_; clear hK K
              | refine OW_guardF rfl (lt_some (by decide)) rfl ?_
                simp only [eX, ↓reduceIte, Nat.reduceEqDiff, Int.reduceToNat]
              first
              | refine OW_guardT rfl (lt_some (by decide)) rfl (fun K hK r => ?_)
                simp only [x_move, eX, ↓reduceIte, Nat.reduceEqDiff, Int.reduceToNat]
                refine hK _ _ ?_; clear hK K
              | refine OW_guardF rfl (lt_some (by decide)) rfl ?_
                simp only [eX, ↓reduceIte, Nat.reduceEqDiff, Int.reduceToNat]
              first
              | refine OW_guardT rfl (lt_some (by decide)) rfl (fun K hK r => ?_)
                simp only [x_callF _ bd20, List.map_toArray, List.map_cons, List.map_nil, eX, ↓reduceIte, Nat.reduceEqDiff, Int.reduceToNat]
                refine (armL hA21 n).mono ?_
                rintro v29 H29 ⟨rfl, F29, hA29⟩
                have hO29 := hA29.old
                rw [if_neg (show ¬ n < 0 by omega)]
                rw [if_neg (show ¬ n < 0 by omega)] at hA29
                try simp only [eX, ↓reduceIte, Nat.reduceEqDiff, Int.reduceToNat]
                refine hK _ _ ?_; clear hK K
              | refine OW_guardF rfl (lt_some (by decide)) rfl ?_
                simp only [eX, ↓reduceIte, Nat.reduceEqDiff, Int.reduceToNat]
              first
              | refine OW_guardT rfl (lt_some (by decide)) rfl (fun K hK r => ?_)
                simp only [x_bin, g_int, g_bool, g_string, g_pointer, g_slice, g_map, g_func, g_nilFunc, g_err, g_iface, g_nil_iface, g_nil_r, g_nil_l, eX, ↓reduceIte, Nat.reduceEqDiff, Int.reduceToNat]
                first | rw [b_err_neq _ _ Try.underlying28] | (rw [e_neq _ _ _ _ (by simp), q_equal]; first | rw [q_iface_nil _ _ _ Try.underlying28] | rw [q_nil_iface _ _ _ Try.underlying28] | rw [q_nil_nil _ _ _ Try.underlying28])
                try simp only [eX, ↓reduceIte, Nat.reduceEqDiff, Int.reduceToNat]
                refine hK _ _ ?_; clear hK K
              | refine OW_guardF rfl (lt_some (by decide)) rfl ?_
                simp only [eX, ↓reduceIte, Nat.reduceEqDiff, Int.reduceToNat]
              refine OW_opS (fun K hK r => ?_)
              simp only [x_pick, l_asBool, HL.ite_bool, if_true, if_false, Bool.false_eq_true, eX, ↓reduceIte, Nat.reduceEqDiff, Int.reduceToNat]
              refine hK _ _ ?_; clear hK K
              refine OW_nil ?_
              try simp only [Ex.thnH, Ex.inBlockH, ↓reduceIte, Nat.reduceEqDiff]
              refine hK10 _ _ ?_; try clear hK10 K10
              refine CW_cond (fun r => rfl) (fun c31 => ?_) (fun c31 => ?_)
              · first
                | (exfalso; exact cnA c31; done)
                | skip
                  (try simp only [decide_eq_true_eq, decide_eq_false_iff_not, Bool.not_eq_true, Bool.not_eq_false, Bool.and_eq_true, Bool.or_eq_true, Bool.or_eq_false_iff, Bool.not_eq_true, Bool.not_eq_eq_eq_not, Bool.not_true, Bool.not_false] at c31)
                  refine CW_seq (fun K11 hK11 => ?_)
                  refine CW_region ?_
                  refine OW_as rfl ?_
                  refine OW_nil ?_
                  try simp only [Ex.thnH, Ex.inBlockH, ↓reduceIte, Nat.reduceEqDiff]
                  refine hK11 _ _ ?_; try clear hK11 K11
                  refine CW_ret ?_
                  try simp only [Ex.thnH, Ex.inBlockH, ↓reduceIte, Nat.reduceEqDiff]
                  skip
              · first
                | (exfalso; exact cnA c31; done)
                | skip
                  (try simp only [decide_eq_true_eq, decide_eq_false_iff_not, Bool.not_eq_true, Bool.not_eq_false, Bool.and_eq_true, Bool.or_eq_true, Bool.or_eq_false_iff, Bool.not_eq_true, Bool.not_eq_eq_eq_not, Bool.not_true, Bool.not_false] at c31)
                  refine CW_skip ?_
                  try simp only [Ex.thnH, Ex.inBlockH, ↓reduceIte, Nat.reduceEqDiff]
                  refine hK9 _ _ ?_; try clear hK9 K9
                  refine CW_seq (fun K12 hK12 => ?_)
                  refine CW_seq (fun K13 hK13 => ?_)
                  refine CW_region ?_
                  refine OW_mv rfl ?_
                  refine OW_opS (fun K hK r => ?_)
                  simp only [x_builtin, l_len, List.map_toArray, List.map_cons, List.map_nil, i_len_slice _ _ Try.underlying22, eX, ↓reduceIte, Nat.reduceEqDiff, Int.reduceToNat]
                  refine hK _ _ ?_; clear hK K
                  refine OW_mv rfl ?_
                  refine OW_nil ?_
                  try simp only [Ex.thnH, Ex.inBlockH, ↓reduceIte, Nat.reduceEqDiff]
                  refine hK13 _ _ ?_; try clear hK13 K13
                  refine CW_block ?_
                  refine CW_loop (fun m e H_ => ∃ (k : Nat) (F_ : Hp) (s : St), k ≤ l.length ∧ m = l.length - k ∧ Stn H H_ F_ p s ∧ Armd n s ∧ Sm k s ∧ s.dv.length = 2 ∧ Env.has [(0, .int .i64 n), (5, .pointer (some ⟨p, 0, none⟩)), (32, .slice a l.length cap), (33, .int .i64 l.length), (34, .int .i64 k)] e) (l.length) ?_ ?_
                  · skip
                    refine ⟨0, _, _, by omega, by omega, hA29, ⟨rfl, ?_, Int.le_refl _, by show (0 : Int) ≤ n; omega, (fun h => by cases h)⟩, (Sm.new (l := [6, 3]) (by decide)).of_dv rfl, rfl, rfl, rfl, rfl, rfl, rfl, trivial⟩
                    show n = n - 0; omega
                  intro m_ e_ H_ hI_
                  obtain ⟨k, F_, s, hk, rfl, hA, hR, hSm, hdl, he⟩ := hI_
                  have hO := hA.old
                  refine CW_env he.sub ?_; clear he e_
                  refine CW_seq (fun K14 hK14 => ?_)
                  refine CW_region ?_
                  refine OW_opS (fun K hK r => ?_)
                  simp (disch := (first | omega | decide)) only [x_bin, g_int, b_lss, dec_lt_t, dec_lt_f, dec_le_t, dec_le_f, dec_eq_t, dec_eq_f, Bool.not_true, Bool.not_false, eX, ↓reduceIte, Nat.reduceEqDiff, Int.reduceToNat]
                  refine hK _ _ ?_; clear hK K
                  refine OW_nil ?_
                  try simp only [Ex.thnH, Ex.inBlockH, ↓reduceIte, Nat.reduceEqDiff]
                  refine hK14 _ _ ?_; try clear hK14 K14
                  refine CW_seq (fun K15 hK15 => ?_)
                  refine CW_cond (fun r => rfl) (fun c35 => ?_) (fun c35 => ?_)
                  · first
                    | (exfalso; exact cnA c35; done)
                    | skip
                      (try simp only [decide_eq_true_eq, decide_eq_false_iff_not, Bool.not_eq_true, Bool.not_eq_false, Bool.and_eq_true, Bool.or_eq_true, Bool.or_eq_false_iff, Bool.not_eq_true, Bool.not_eq_eq_eq_not, Bool.not_true, Bool.not_false] at c35)
                      obtain ⟨bw, ow, cw, Tw, Fw, ew, hbw, hsw, atw⟩ := (hv.le hO).at (by omega)
                      refine CW_skip ?_
                      try simp only [Ex.thnH, Ex.inBlockH, ↓reduceIte, Nat.reduceEqDiff]
                      refine hK15 _ _ ?_; try clear hK15 K15
                      refine CW_seq (fun K16 hK16 => ?_)
                      refine CW_block ?_
                      refine CW_seq (fun K17 hK17 => ?_)
                      refine CW_region ?_
                      refine OW_opS (fun K hK r => ?_)
                      simp only [x_indexAddr, eX, ↓reduceIte, Nat.reduceEqDiff, Int.reduceToNat]
                      refine Lt_indexSof Try.underlying22 sz35 ew ixA ixA ?_
                      try simp only [Int.toNat_natCast]
                      refine hK _ _ ?_; clear hK K
                      refine OW_opS (fun K hK r => ?_)
                      simp only [x_load, eX, ↓reduceIte, Nat.reduceEqDiff, Int.reduceToNat]
                      refine Lt_loadAtA Try.underlying35 rfl sz35 hbw (by omega) ?_
                      rw [ext_at Op1.len atw rfl k (by omega) hsw]
                      refine hK _ _ ?_; clear hK K
                      refine OW_opS (fun K hK r => ?_)
                      simp only [x_alloc, zr35, orF_some, Value.cells, eX, ↓reduceIte, Nat.reduceEqDiff, Int.reduceToNat]
                      intro b8 hb8
                      try have n8_b20 : b20 ≠ b8 := ne_of_none hbA hb8
                      have f8_H : H b8 = none := none_of_le lhA hb8
                      try simp only [eX, ↓reduceIte, Nat.reduceEqDiff, Int.reduceToNat]
                      refine hK _ _ ?_; clear hK K
                      refine OW_op rfl (lt_none) (fun K hK r => ?_)
                      simp only [x_store, eX, ↓reduceIte, Nat.reduceEqDiff, Int.reduceToNat]
                      refine Lt_storeAll sz35 (by simp) hbA (by simp) (Op1.plain _) (by decide) ?_
                      refine hK _ _ ?_; clear hK K
                      refine OW_nil ?_
                      try simp only [Ex.thnH, Ex.inBlockH, ↓reduceIte, Nat.reduceEqDiff]
                      refine hK17 _ _ ?_; try clear hK17 K17
                      refine CW_seq (fun K18 hK18 => ?_)
                      refine CW_seq (fun K19 hK19 => ?_)
                      refine CW_region ?_
                      refine OW_opS (fun K hK r => ?_)
                      simp only [x_fieldAddr, fa35_0, add_mk, Nat.reduceAdd, Nat.zero_add, eX, ↓reduceIte, Nat.reduceEqDiff, Int.reduceToNat]
                      refine hK _ _ ?_; clear hK K
                      refine OW_opS (fun K hK r => ?_)
                      simp only [x_load, eX, ↓reduceIte, Nat.reduceEqDiff, Int.reduceToNat]
                      refine Lt_loadAt1 Try.underlying3 rfl hbA ldA ?_
                      try simp only [eX, ↓reduceIte, Nat.reduceEqDiff, Int.reduceToNat]
                      refine hK _ _ ?_; clear hK K
                      refine OW_opS (fun K hK r => ?_)
                      simp (disch := (first | omega | decide)) only [x_bin, g_int, b_eql, dec_lt_t, dec_lt_f, dec_le_t, dec_le_f, dec_eq_t, dec_eq_f, Bool.not_true, Bool.not_false, eX, ↓reduceIte, Nat.reduceEqDiff, Int.reduceToNat]
                      refine hK _ _ ?_; clear hK K
                      refine OW_mv rfl ?_
                      (first | refine OW_split (d := 41) rfl (fun g41 => ?_) (fun g41 => ?_) | skip)
                      all_goals try (exfalso; exact cnA g41)
                      all_goals (try simp only [decide_eq_true_eq, decide_eq_false_iff_not, Bool.not_eq_true, Bool.not_eq_false, Bool.and_eq_true, Bool.or_eq_true, Bool.or_eq_false_iff, Bool.not_eq_true, Bool.not_eq_eq_eq_not, Bool.not_true, Bool.not_false] at g41)
                      all_goals
                        try simp only [eX, ↓reduceIte, Nat.reduceEqDiff, Int.reduceToNat]
                        first
                        | refine OW_guardT rfl (lt_some (by decide)) rfl (fun K hK r => ?_)
                          simp only [x_fieldAddr, fa35_0, add_mk, Nat.reduceAdd, Nat.zero_add, eX, ↓reduceIte, Nat.reduceEqDiff, Int.reduceToNat]
                          refine hK _ _ ?_; clear hK K
                        | refine OW_guardF rfl (lt_some (by decide)) rfl ?_
                          simp only [eX, ↓reduceIte, Nat.reduceEqDiff, Int.reduceToNat]
                        first
                        | refine OW_guardT rfl (lt_some (by decide)) rfl (fun K hK r => ?_)
                          simp only [x_load, eX, ↓reduceIte, Nat.reduceEqDiff, Int.reduceToNat]
                          refine Lt_loadAt1 Try.underlying3 rfl hbA ldA ?_
                          try simp only [eX, ↓reduceIte, Nat.reduceEqDiff, Int.reduceToNat]
                          refine hK _ _ ?_; clear hK K
                        | refine OW_guardF rfl (lt_some (by decide)) rfl ?_
                          simp only [eX, ↓reduceIte, Nat.reduceEqDiff, Int.reduceToNat]
                        first
                        | refine OW_guardT rfl (lt_some (by decide)) rfl (fun K hK r => ?_)
                          simp (disch := (first | omega | decide)) only [x_bin, g_int, b_eql, dec_lt_t, dec_lt_f, dec_le_t, dec_le_f, dec_eq_t, dec_eq_f, Bool.not_true, Bool.not_false, eX, ↓reduceIte, Nat.reduceEqDiff, Int.reduceToNat]
                          refine hK _ _ ?_; clear hK K
                        | refine OW_guardF rfl (lt_some (by decide)) rfl ?_
                          simp only [eX, ↓reduceIte, Nat.reduceEqDiff, Int.reduceToNat]
                        refine OW_opS (fun K hK r => ?_)
                        simp only [x_pick, l_asBool, HL.ite_bool, if_true, if_false, Bool.false_eq_true, eX, ↓reduceIte, Nat.reduceEqDiff, Int.reduceToNat]
                        refine hK _ _ ?_; clear hK K
                        refine OW_nil ?_
                        try simp only [Ex.thnH, Ex.inBlockH, ↓reduceIte, Nat.reduceEqDiff]
                        refine hK19 _ _ ?_; try clear hK19 K19
                        refine CW_cond (fun r => rfl) (fun c45 => ?_) (fun c45 => ?_)
                        · first
                          | (exfalso; exact cnA c45; done)
                          | skip
                            (try simp only [decide_eq_true_eq, decide_eq_false_iff_not, Bool.not_eq_true, Bool.not_eq_false, Bool.and_eq_true, Bool.or_eq_true, Bool.or_eq_false_iff, Bool.not_eq_true, Bool.not_eq_eq_eq_not, Bool.not_true, Bool.not_false] at c45)
                            refine CW_exit ?_
                            try simp only [Ex.thnH, Ex.inBlockH, ↓reduceIte, Nat.reduceEqDiff]
                            refine hK16 _ _ ?_; try clear hK16 K16
                            refine CW_region ?_
                            refine OW_opS (fun K hK r => ?_)
                            simp (disch := (first | omega | decide)) only [x_bin, g_int, b_add, wrap_i64, wrap_u64, wrap_u32, wrap_u8, eX, ↓reduceIte, Nat.reduceEqDiff, Int.reduceToNat]
                            refine hK _ _ ?_; clear hK K
                            refine OW_mv rfl ?_
                            refine OW_nil ?_
                            try simp only [Ex.thnH, Ex.inBlockH, ↓reduceIte, Nat.reduceEqDiff]
                            first
                            | exact ⟨l.length - (k + 1), by omega, k + 1, F2, s2, by omega, rfl, hA2.less (le_upd _ _ _ f8_H), hR2.1, hSm2, hR2.2.2.trans hdl, rfl, rfl, rfl, rfl, rfl, trivial⟩
                            | exact ⟨l.length - (k + 1), by omega, k + 1, F_, s, by omega, rfl, (hA.put (hA.fresh hb8) _).less (le_upd _ _ _ f8_H), hR, hSm.up (by omega), hdl, rfl, rfl, rfl, rfl, rfl, trivial⟩
                        · first
                          | (exfalso; exact cnA c45; done)
                          | skip
                            (try simp only [decide_eq_true_eq, decide_eq_false_iff_not, Bool.not_eq_true, Bool.not_eq_false, Bool.and_eq_true, Bool.or_eq_true, Bool.or_eq_false_iff, Bool.not_eq_true, Bool.not_eq_eq_eq_not, Bool.not_true, Bool.not_false] at c45)
                            refine CW_skip ?_
                            try simp only [Ex.thnH, Ex.inBlockH, ↓reduceIte, Nat.reduceEqDiff]
                            refine hK18 _ _ ?_; try clear hK18 K18
                            refine CW_seq (fun K20 hK20 => ?_)
                            refine CW_region ?_
                            refine OW_mv rfl ?_
                            refine OW_opS (fun K hK r => ?_)
                            simp only [x_callF _ bd19, List.map_toArray, List.map_cons, List.map_nil, eX, ↓reduceIte, Nat.reduceEqDiff, Int.reduceToNat]
                            have hA8 := hA.put (hA.fresh hb8) (.cells (l.getD k default).c.toArray 35)
                            have hO8 := hA8.old
                            refine (downL hA8).mono ?_
                            rintro v H' ⟨rfl, rfl⟩
                            try simp only [eX, ↓reduceIte, Nat.reduceEqDiff, Int.reduceToNat]
                            refine hK _ _ ?_; clear hK K
                            refine OW_mv rfl ?_
                            refine OW_opS (fun K hK r => ?_)
                            simp only [x_callF _ bd21, List.map_toArray, List.map_cons, List.map_nil, eX, ↓reduceIte, Nat.reduceEqDiff, Int.reduceToNat]
                            refine (stepsL hA8).mono ?_
                            rintro v H' ⟨rfl, rfl⟩
                            try simp only [eX, ↓reduceIte, Nat.reduceEqDiff, Int.reduceToNat]
                            refine hK _ _ ?_; clear hK K
                            refine OW_as rfl ?_
                            refine OW_as rfl ?_
                            refine OW_nil ?_
                            try simp only [Ex.thnH, Ex.inBlockH, ↓reduceIte, Nat.reduceEqDiff]
                            refine hK20 _ _ ?_; try clear hK20 K20
                            refine CW_cut (fun e H_ => ∃ (F2 : Hp) (s2 : St), Stn (H.upd b8 (.cells (l.getD k default).c.toArray 35)) H_ F2 p s2 ∧ ArmR n s s2 ∧ Sm (k + 1) s2 ∧ Env.has [(0, .int .i64 n), (5, .pointer (some ⟨p, 0, none⟩)), (9, .bool s.gone), (10, .int .i64 s.steps), (32, .slice a l.length cap), (33, .int .i64 l.length), (34, .int .i64 k)] e) ?_ ?_
                            · skip
                              refine CW_seq (fun K21 hK21 => ?_)
                              refine CW_region ?_
                              refine OW_opS (fun K hK r => ?_)
                              simp only [x_fieldAddr, fa35_0, add_mk, Nat.reduceAdd, Nat.zero_add, eX, ↓reduceIte, Nat.reduceEqDiff, Int.reduceToNat]
                              refine hK _ _ ?_; clear hK K
                              refine OW_opS (fun K hK r => ?_)
                              simp only [x_load, eX, ↓reduceIte, Nat.reduceEqDiff, Int.reduceToNat]
                              refine Lt_loadAt1 Try.underlying3 rfl hbA ldA ?_
                              try simp only [eX, ↓reduceIte, Nat.reduceEqDiff, Int.reduceToNat]
                              refine hK _ _ ?_; clear hK K
                              refine OW_nil ?_
                              try simp only [Ex.thnH, Ex.inBlockH, ↓reduceIte, Nat.reduceEqDiff]
                              refine hK21 _ _ ?_; try clear hK21 K21
                              refine CW_block ?_
                              refine CW_seq (fun K22 hK22 => ?_)
                              refine CW_region ?_
                              refine OW_opS (fun K hK r => ?_)
                              simp (disch := (first | omega | decide)) only [x_bin, g_int, b_eql, dec_lt_t, dec_lt_f, dec_le_t, dec_le_f, dec_eq_t, dec_eq_f, Bool.not_true, Bool.not_false, eX, ↓reduceIte, Nat.reduceEqDiff, Int.reduceToNat]
                              refine hK _ _ ?_; clear hK K
                              refine OW_as rfl ?_
                              refine OW_nil ?_
                              try simp only [Ex.thnH, Ex.inBlockH, ↓reduceIte, Nat.reduceEqDiff]
                              refine hK22 _ _ ?_; try clear hK22 K22
                              refine CW_cond (fun r => rfl) (fun c52 => ?_) (fun c52 => ?_)
                              · first
                                | (exfalso; exact cnA c52; done)
                                | skip
                                  (try simp only [decide_eq_true_eq, decide_eq_false_iff_not, Bool.not_eq_true, Bool.not_eq_false, Bool.and_eq_true, Bool.or_eq_true, Bool.or_eq_false_iff, Bool.not_eq_true, Bool.not_eq_eq_eq_not, Bool.not_true, Bool.not_false] at c52)
                                  obtain ⟨R15, hR15⟩ : ∃ R : Hp, R = emptyHp.upd b8 (.cells (l.getD k default).c.toArray 35) := ⟨_, rfl⟩
                                  refine CW_drawR [0, 0, 1, 0, 1, 0, 1, 2, 2] [0, 1, 2, 3, 4, 5, 6, 7, 8] R15 (by kernel_rfl) (by kernel_rfl) (by subst hR15; exact le_put (le_empty _) hbA) (fun lR15 => ?_)
                                  apply TW_pure rfl (lt_some (by decide)) rfl
                                  · intro r
                                    simp only [x_move, eX, ↓reduceIte, Nat.reduceEqDiff]
                                    exact ⟨rfl, Le.refl _⟩
                                  simp only [eX, ↓reduceIte, Nat.reduceEqDiff, Int.reduceToNat]
                                  apply TW_pure rfl (lt_some (by decide)) rfl
                                  · intro r
                                    simp only [x_fieldAddr, fa35_1, add_mk, Nat.reduceAdd, Nat.zero_add, eX, ↓reduceIte, Nat.reduceEqDiff]
                                    exact ⟨rfl, Le.refl _⟩
                                  simp only [eX, ↓reduceIte, Nat.reduceEqDiff, Int.reduceToNat]
                                  apply TW_look rfl (lt_some (by decide)) rfl
                                  · intro r
                                    simp only [x_load, eX, ↓reduceIte, Nat.reduceEqDiff]
                                    refine Lt_loadAt1 Try.underlying3 rfl hbA ldA ?_
                                    exact ⟨rfl, Le.refl _⟩
                                  simp only [eX, ↓reduceIte, Nat.reduceEqDiff, Int.reduceToNat]
                                  apply TW_pure rfl (lt_some (by decide)) rfl
                                  · intro r
                                    simp only [x_fieldAddr, fa35_2, add_mk, Nat.reduceAdd, Nat.zero_add, eX, ↓reduceIte, Nat.reduceEqDiff]
                                    exact ⟨rfl, Le.refl _⟩
                                  simp only [eX, ↓reduceIte, Nat.reduceEqDiff, Int.reduceToNat]
                                  apply TW_look rfl (lt_some (by decide)) rfl
                                  · intro r
                                    simp only [x_load, eX, ↓reduceIte, Nat.reduceEqDiff]
                                    refine Lt_loadAt1 Try.underlying3 rfl hbA ldA ?_
                                    exact ⟨rfl, Le.refl _⟩
                                  simp only [eX, ↓reduceIte, Nat.reduceEqDiff, Int.reduceToNat]
                                  apply TW_pure rfl (lt_some (by decide)) rfl
                                  · intro r
                                    simp only [x_fieldAddr, fa35_3, add_mk, Nat.reduceAdd, Nat.zero_add, eX, ↓reduceIte, Nat.reduceEqDiff]
                                    exact ⟨rfl, Le.refl _⟩
                                  simp only [eX, ↓reduceIte, Nat.reduceEqDiff, Int.reduceToNat]
                                  apply TW_look rfl (lt_some (by decide)) rfl
                                  · intro r
                                    simp only [x_load, eX, ↓reduceIte, Nat.reduceEqDiff]
                                    refine Lt_loadAt1 Try.underlying5 rfl hbA ldA ?_
                                    exact ⟨rfl, Le.refl _⟩
                                  simp only [eX, ↓reduceIte, Nat.reduceEqDiff, Int.reduceToNat]
                                  refine TW_chain rfl (lt_some (by decide)) rfl (fun K hK r => ?_)
                                  simp only [x_callF _ bd12, List.map_toArray, List.map_cons, List.map_nil, eX, ↓reduceIte, Nat.reduceEqDiff, Int.reduceToNat]
                                  refine (full_ok _ _).mono ?_
                                  rintro v H' ⟨rfl, rfl⟩
                                  try simp only [eX, ↓reduceIte, Nat.reduceEqDiff, Int.reduceToNat]
                                  refine hK _ _ leA ?_; clear hK K
                                  refine TW_chain rfl (lt_some (by decide)) rfl (fun K hK r => ?_)
                                  simp only [x_callF _ bd11, List.map_toArray, List.map_cons, List.map_nil, eX, ↓reduceIte, Nat.reduceEqDiff, Int.reduceToNat]
                                  refine (writeL hA8 hSm (by omega) (l.getD k default).dev (l.getD k default).n (fullS (l.getD k default).b)).mono ?_
                                  rintro v62 H62 ⟨rfl, F62, hA62⟩
                                  have hO62 := hA62.old
                                  have lR62 : Le R15 H62 := by rw [hR15]; exact le_put (le_empty _) (hO62 _ _ (upd_same _ _ _))
                                  try simp only [eX, ↓reduceIte, Nat.reduceEqDiff, Int.reduceToNat]
                                  refine hK _ _ leA ?_; clear hK K
                                  refine TW_nil ?_
                                  try simp only [Ex.thnH, Ex.inBlockH, ↓reduceIte, Nat.reduceEqDiff]
                                  first
                                  | exact ⟨_, _, hA62, hR.wr hn _ _ _, hSm.wr _ _ _, rfl, rfl, rfl, rfl, rfl, rfl, rfl, trivial⟩
                                  | exact ⟨_, _, hA68, hR.fl hn _, (hSm.fl _).up (by omega), rfl, rfl, rfl, rfl, rfl, rfl, rfl, trivial⟩
                                  | exact ⟨_, _, hA8, ⟨hR, fun _ => rfl, rfl⟩, hSm.up (by omega), rfl, rfl, rfl, rfl, rfl, rfl, rfl, trivial⟩
                              · first
                                | (exfalso; exact cnA c52; done)
                                | skip
                                  (try simp only [decide_eq_true_eq, decide_eq_false_iff_not, Bool.not_eq_true, Bool.not_eq_false, Bool.and_eq_true, Bool.or_eq_true, Bool.or_eq_false_iff, Bool.not_eq_true, Bool.not_eq_eq_eq_not, Bool.not_true, Bool.not_false] at c52)
                                  refine CW_seq (fun K23 hK23 => ?_)
                                  refine CW_region ?_
                                  refine OW_opS (fun K hK r => ?_)
                                  simp (disch := (first | omega | decide)) only [x_bin, g_int, b_eql, dec_lt_t, dec_lt_f, dec_le_t, dec_le_f, dec_eq_t, dec_eq_f, Bool.not_true, Bool.not_false, eX, ↓reduceIte, Nat.reduceEqDiff, Int.reduceToNat]
                                  refine hK _ _ ?_; clear hK K
                                  refine OW_as rfl ?_
                                  refine OW_nil ?_
                                  try simp only [Ex.thnH, Ex.inBlockH, ↓reduceIte, Nat.reduceEqDiff]
                                  refine hK23 _ _ ?_; try clear hK23 K23
                                  refine CW_cond (fun r => rfl) (fun c63 => ?_) (fun c63 => ?_)
                                  · first
                                    | (exfalso; exact cnA c63; done)
                                    | skip
                                      (try simp only [decide_eq_true_eq, decide_eq_false_iff_not, Bool.not_eq_true, Bool.not_eq_false, Bool.and_eq_true, Bool.or_eq_true, Bool.or_eq_false_iff, Bool.not_eq_true, Bool.not_eq_eq_eq_not, Bool.not_true, Bool.not_false] at c63)
                                      refine CW_region ?_
                                      refine OW_mv rfl ?_
                                      refine OW_opS (fun K hK r => ?_)
                                      simp only [x_fieldAddr, fa35_1, add_mk, Nat.reduceAdd, Nat.zero_add, eX, ↓reduceIte, Nat.reduceEqDiff, Int.reduceToNat]
                                      refine hK _ _ ?_; clear hK K
                                      refine OW_opS (fun K hK r => ?_)
                                      simp only [x_load, eX, ↓reduceIte, Nat.reduceEqDiff, Int.reduceToNat]
                                      refine Lt_loadAt1 Try.underlying3 rfl hbA ldA ?_
                                      try simp only [eX, ↓reduceIte, Nat.reduceEqDiff, Int.reduceToNat]
                                      refine hK _ _ ?_; clear hK K
                                      refine OW_opS (fun K hK r => ?_)
                                      simp only [x_callF _ bd13, List.map_toArray, List.map_cons, List.map_nil, eX, ↓reduceIte, Nat.reduceEqDiff, Int.reduceToNat]
                                      refine (flushL hA8 hSm (by omega) (l.getD k default).dev).mono ?_
                                      rintro v68 H68 ⟨rfl, F68, hA68⟩
                                      have hO68 := hA68.old
                                      try simp only [eX, ↓reduceIte, Nat.reduceEqDiff, Int.reduceToNat]
                                      refine hK _ _ ?_; clear hK K
                                      refine OW_nil ?_
                                      try simp only [Ex.thnH, Ex.inBlockH, ↓reduceIte, Nat.reduceEqDiff]
                                      first
                                      | exact ⟨_, _, hA62, hR.wr hn _ _ _, hSm.wr _ _ _, rfl, rfl, rfl, rfl, rfl, rfl, rfl, trivial⟩
                                      | exact ⟨_, _, hA68, hR.fl hn _, (hSm.fl _).up (by omega), rfl, rfl, rfl, rfl, rfl, rfl, rfl, trivial⟩
                                      | exact ⟨_, _, hA8, ⟨hR, fun _ => rfl, rfl⟩, hSm.up (by omega), rfl, rfl, rfl, rfl, rfl, rfl, rfl, trivial⟩
                                  · first
                                    | (exfalso; exact cnA c63; done)
                                    | skip
                                      (try simp only [decide_eq_true_eq, decide_eq_false_iff_not, Bool.not_eq_true, Bool.not_eq_false, Bool.and_eq_true, Bool.or_eq_true, Bool.or_eq_false_iff, Bool.not_eq_true, Bool.not_eq_eq_eq_not, Bool.not_true, Bool.not_false] at c63)
                                      refine CW_skip ?_
                                      try simp only [Ex.thnH, Ex.inBlockH, ↓reduceIte, Nat.reduceEqDiff]
                                      first
                                      | exact ⟨_, _, hA62, hR.wr hn _ _ _, hSm.wr _ _ _, rfl, rfl, rfl, rfl, rfl, rfl, rfl, trivial⟩
                                      | exact ⟨_, _, hA68, hR.fl hn _, (hSm.fl _).up (by omega), rfl, rfl, rfl, rfl, rfl, rfl, rfl, trivial⟩
                                      | exact ⟨_, _, hA8, ⟨hR, fun _ => rfl, rfl⟩, hSm.up (by omega), rfl, rfl, rfl, rfl, rfl, rfl, rfl, trivial⟩
                            rintro e_ H2_ ⟨F2, s2, hA2, hR2, hSm2, he⟩
                            refine CW_env he.sub ?_; clear he e_
                            have hO2 := hA2.old
                            have hr1 := hR2.1.hi
                            have hr2 := hR2.1.gone
                            have hr3 := hR2.2.1
                            refine CW_seq (fun K24 hK24 => ?_)
                            refine CW_region ?_
                            refine OW_mv rfl ?_
                            refine OW_opS (fun K hK r => ?_)
                            simp only [x_callF _ bd21, List.map_toArray, List.map_cons, List.map_nil, eX, ↓reduceIte, Nat.reduceEqDiff, Int.reduceToNat]
                            refine (stepsL hA2).mono ?_
                            rintro v H' ⟨rfl, rfl⟩
                            try simp only [eX, ↓reduceIte, Nat.reduceEqDiff, Int.reduceToNat]
                            refine hK _ _ ?_; clear hK K
                            refine OW_mv rfl ?_
                            refine OW_opS (fun K hK r => ?_)
                            simp (disch := (first | omega | decide)) only [x_bin, g_int, b_gtr, dec_lt_t, dec_lt_f, dec_le_t, dec_le_f, dec_eq_t, dec_eq_f, Bool.not_true, Bool.not_false, eX, ↓reduceIte, Nat.reduceEqDiff, Int.reduceToNat]
                            refine hK _ _ ?_; clear hK K
                            refine OW_mv rfl ?_
                            (first | refine OW_split (d := 73) rfl (fun g73 => ?_) (fun g73 => ?_) | skip)
                            all_goals try (exfalso; exact cnA g73)
                            all_goals (try simp only [decide_eq_true_eq, decide_eq_false_iff_not, Bool.not_eq_true, Bool.not_eq_false, Bool.and_eq_true, Bool.or_eq_true, Bool.or_eq_false_iff, Bool.not_eq_true, Bool.not_eq_eq_eq_not, Bool.not_true, Bool.not_false] at g73)
                            all_goals
                              try simp only [eX, ↓reduceIte, Nat.reduceEqDiff, Int.reduceToNat]
                              first
                              | refine OW_guardT rfl (lt_some (by decide)) rfl (fun K hK r => ?_)
                                simp only [x_move, eX, ↓reduceIte, Nat.reduceEqDiff, Int.reduceToNat]
                                refine hK _ _ ?_; clear hK K
                              | refine OW_guardF rfl (lt_some (by decide)) rfl ?_
                                simp only [eX, ↓reduceIte, Nat.reduceEqDiff, Int.reduceToNat]
                              first
                              | refine OW_guardT rfl (lt_some (by decide)) rfl (fun K hK r => ?_)
                                simp only [x_move, eX, ↓reduceIte, Nat.reduceEqDiff, Int.reduceToNat]
                                refine hK _ _ ?_; clear hK K
                              | refine OW_guardF rfl (lt_some (by decide)) rfl ?_
                                simp only [eX, ↓reduceIte, Nat.reduceEqDiff, Int.reduceToNat]
                              (first | refine OW_split (d := 75) rfl (fun g75 => ?_) (fun g75 => ?_) | skip)
                              all_goals try (exfalso; exact cnA g75)
                              all_goals (try simp only [decide_eq_true_eq, decide_eq_false_iff_not, Bool.not_eq_true, Bool.not_eq_false, Bool.and_eq_true, Bool.or_eq_true, Bool.or_eq_false_iff, Bool.not_eq_true, Bool.not_eq_eq_eq_not, Bool.not_true, Bool.not_false] at g75)
                              all_goals
                                try simp only [eX, ↓reduceIte, Nat.reduceEqDiff, Int.reduceToNat]
                                first
                                | refine OW_guardT rfl (lt_some (by decide)) rfl (fun K hK r => ?_)
                                  simp only [x_move, eX, ↓reduceIte, Nat.reduceEqDiff, Int.reduceToNat]
                                  refine hK _ _ ?_; clear hK K
                                | refine OW_guardF rfl (lt_some (by decide)) rfl ?_
                                  simp only [eX, ↓reduceIte, Nat.reduceEqDiff, Int.reduceToNat]
                                first
                                | refine OW_guardT rfl (lt_some (by decide)) rfl (fun K hK r => ?_)
                                  simp only [x_callF _ bd21, List.map_toArray, List.map_cons, List.map_nil, eX, ↓reduceIte, Nat.reduceEqDiff, Int.reduceToNat]
                                  refine (stepsL hA2).mono ?_
                                  rintro v H' ⟨rfl, rfl⟩
                                  try simp only [eX, ↓reduceIte, Nat.reduceEqDiff, Int.reduceToNat]
                                  refine hK _ _ ?_; clear hK K
                                | refine OW_guardF rfl (lt_some (by decide)) rfl ?_
                                  simp only [eX, ↓reduceIte, Nat.reduceEqDiff, Int.reduceToNat]
                                first
                                | refine OW_guardT rfl (lt_some (by decide)) rfl (fun K hK r => ?_)
                                  simp only [x_move, eX, ↓reduceIte, Nat.reduceEqDiff, Int.reduceToNat]
                                  refine hK _ _ ?_; clear hK K
                                | refine OW_guardF rfl (lt_some (by decide)) rfl ?_
                                  simp only [eX, ↓reduceIte, Nat.reduceEqDiff, Int.reduceToNat]
                                first
                                | refine OW_guardT rfl (lt_some (by decide)) rfl (fun K hK r => ?_)
                                  simp (disch := (first | omega | decide)) only [x_bin, g_int, b_neq, dec_lt_t, dec_lt_f, dec_le_t, dec_le_f, dec_eq_t, dec_eq_f, Bool.not_true, Bool.not_false, eX, ↓reduceIte, Nat.reduceEqDiff, Int.reduceToNat]
                                  refine hK _ _ ?_; clear hK K
                                | refine OW_guardF rfl (lt_some (by decide)) rfl ?_
                                  simp only [eX, ↓reduceIte, Nat.reduceEqDiff, Int.reduceToNat]
                                first
                                | refine OW_guardT rfl (lt_some (by decide)) rfl (fun K hK r => ?_)
                                  simp only [x_pick, l_asBool, HL.ite_bool, if_true, if_false, Bool.false_eq_true, eX, ↓reduceIte, Nat.reduceEqDiff, Int.reduceToNat]
                                  refine hK _ _ ?_; clear hK K
                                | refine OW_guardF rfl (lt_some (by decide)) rfl ?_
                                  simp only [eX, ↓reduceIte, Nat.reduceEqDiff, Int.reduceToNat]
                                refine OW_opS (fun K hK r => ?_)
                                simp only [x_pick, l_asBool, HL.ite_bool, if_true, if_false, Bool.false_eq_true, eX, ↓reduceIte, Nat.reduceEqDiff, Int.reduceToNat]
                                refine hK _ _ ?_; clear hK K
                                refine OW_mv rfl ?_
                                (first | refine OW_split (d := 82) rfl (fun g82 => ?_) (fun g82 => ?_) | skip)
                                all_goals try (exfalso; exact cnA g82)
                                all_goals (try simp only [decide_eq_true_eq, decide_eq_false_iff_not, Bool.not_eq_true, Bool.not_eq_false, Bool.and_eq_true, Bool.or_eq_true, Bool.or_eq_false_iff, Bool.not_eq_true, Bool.not_eq_eq_eq_not, Bool.not_true, Bool.not_false] at g82)
                                all_goals
                                  try simp only [eX, ↓reduceIte, Nat.reduceEqDiff, Int.reduceToNat]
                                  first
                                  | refine OW_guardT rfl (lt_some (by decide)) rfl (fun K hK r => ?_)
                                    simp only [x_move, eX, ↓reduceIte, Nat.reduceEqDiff, Int.reduceToNat]
                                    refine hK _ _ ?_; clear hK K
                                  | refine OW_guardF rfl (lt_some (by decide)) rfl ?_
                                    simp only [eX, ↓reduceIte, Nat.reduceEqDiff, Int.reduceToNat]
                                  first
                                  | refine OW_guardT rfl (lt_some (by decide)) rfl (fun K hK r => ?_)
                                    simp only [x_callF _ bd19, List.map_toArray, List.map_cons, List.map_nil, eX, ↓reduceIte, Nat.reduceEqDiff, Int.reduceToNat]
                                    refine (downL hA2).mono ?_
                                    rintro v H' ⟨rfl, rfl⟩
                                    try simp only [eX, ↓reduceIte, Nat.reduceEqDiff, Int.reduceToNat]
                                    refine hK _ _ ?_; clear hK K
                                  | refine OW_guardF rfl (lt_some (by decide)) rfl ?_
                                    simp only [eX, ↓reduceIte, Nat.reduceEqDiff, Int.reduceToNat]
                                  first
                                  | refine OW_guardT rfl (lt_some (by decide)) rfl (fun K hK r => ?_)
                                    simp only [x_move, eX, ↓reduceIte, Nat.reduceEqDiff, Int.reduceToNat]
                                    refine hK _ _ ?_; clear hK K
                                  | refine OW_guardF rfl (lt_some (by decide)) rfl ?_
                                    simp only [eX, ↓reduceIte, Nat.reduceEqDiff, Int.reduceToNat]
                                  (first | refine OW_split (d := 85) rfl (fun g85 => ?_) (fun g85 => ?_) | skip)
                                  all_goals try (exfalso; exact cnA g85)
                                  all_goals (try simp only [decide_eq_true_eq, decide_eq_false_iff_not, Bool.not_eq_true, Bool.not_eq_false, Bool.and_eq_true, Bool.or_eq_true, Bool.or_eq_false_iff, Bool.not_eq_true, Bool.not_eq_eq_eq_not, Bool.not_true, Bool.not_false] at g85)
                                  all_goals
                                    try simp only [eX, ↓reduceIte, Nat.reduceEqDiff, Int.reduceToNat]
                                    first
                                    | refine OW_guardT rfl (lt_some (by decide)) rfl (fun K hK r => ?_)
                                      simp only [x_move, eX, ↓reduceIte, Nat.reduceEqDiff, Int.reduceToNat]
                                      refine hK _ _ ?_; clear hK K
                                    | refine OW_guardF rfl (lt_some (by decide)) rfl ?_
                                      simp only [eX, ↓reduceIte, Nat.reduceEqDiff, Int.reduceToNat]
                                    first
                                    | refine OW_guardT rfl (lt_some (by decide)) rfl (fun K hK r => ?_)
                                      simp only [x_callF _ bd21, List.map_toArray, List.map_cons, List.map_nil, eX, ↓reduceIte, Nat.reduceEqDiff, Int.reduceToNat]
                                      refine (stepsL hA2).mono ?_
                                      rintro v H' ⟨rfl, rfl⟩
                                      try simp only [eX, ↓reduceIte, Nat.reduceEqDiff, Int.reduceToNat]
                                      refine hK _ _ ?_; clear hK K
                                    | refine OW_guardF rfl (lt_some (by decide)) rfl ?_
                                      simp only [eX, ↓reduceIte, Nat.reduceEqDiff, Int.reduceToNat]
                                    first
                                    | refine OW_guardT rfl (lt_some (by decide)) rfl (fun K hK r => ?_)
                                      simp only [x_move, eX, ↓reduceIte, Nat.reduceEqDiff, Int.reduceToNat]
                                      refine hK _ _ ?_; clear hK K
                                    | refine OW_guardF rfl (lt_some (by decide)) rfl ?_
                                      simp only [eX, ↓reduceIte, Nat.reduceEqDiff, Int.reduceToNat]
                                    first
                                    | refine OW_guardT rfl (lt_some (by decide)) rfl (fun K hK r => ?_)
                                      simp (disch := (first | omega | decide)) only [x_bin, g_int, b_neq, dec_lt_t, dec_lt_f, dec_le_t, dec_le_f, dec_eq_t, dec_eq_f, Bool.not_true, Bool.not_false, eX, ↓reduceIte, Nat.reduceEqDiff, Int.reduceToNat]
                                      refine hK _ _ ?_; clear hK K
                                    | refine OW_guardF rfl (lt_some (by decide)) rfl ?_
                                      simp only [eX, ↓reduceIte, Nat.reduceEqDiff, Int.reduceToNat]
                                    first
                                    | refine OW_guardT rfl (lt_some (by decide)) rfl (fun K hK r => ?_)
                                      simp only [x_pick, l_asBool, HL.ite_bool, if_true, if_false, Bool.false_eq_true, eX, ↓reduceIte, Nat.reduceEqDiff, Int.reduceToNat]
                                      refine hK _ _ ?_; clear hK K
                                    | refine OW_guardF rfl (lt_some (by decide)) rfl ?_
                                      simp only [eX, ↓reduceIte, Nat.reduceEqDiff, Int.reduceToNat]
                                    refine OW_opS (fun K hK r => ?_)
                                    simp only [x_pick, l_asBool, HL.ite_bool, if_true, if_false, Bool.false_eq_true, eX, ↓reduceIte, Nat.reduceEqDiff, Int.reduceToNat]
                                    refine hK _ _ ?_; clear hK K
                                    refine OW_nil ?_
                                    try simp only [Ex.thnH, Ex.inBlockH, ↓reduceIte, Nat.reduceEqDiff]
                                    refine hK24 _ _ ?_; try clear hK24 K24
                                    refine CW_cond (fun r => rfl) (fun c91 => ?_) (fun c91 => ?_)
                                    · first
                                      | (exfalso; exact cnA c91; done)
                                      | skip
                                        skip
                                        refine CW_seq (fun K25 hK25 => ?_)
                                        refine CW_region ?_
                                        refine OW_as rfl ?_
                                        refine OW_nil ?_
                                        try simp only [Ex.thnH, Ex.inBlockH, ↓reduceIte, Nat.reduceEqDiff]
                                        refine hK25 _ _ ?_; try clear hK25 K25
                                        refine CW_ret ?_
                                        try simp only [Ex.thnH, Ex.inBlockH, ↓reduceIte, Nat.reduceEqDiff]
                                        exfalso
                                        first | omega | (simp_all; done) | (simp_all; omega)
                                    · first
                                      | (exfalso; exact cnA c91; done)
                                      | skip
                                        skip
                                        refine CW_skip ?_
                                        try simp only [Ex.thnH, Ex.inBlockH, ↓reduceIte, Nat.reduceEqDiff]
                                        refine hK16 _ _ ?_; try clear hK16 K16
                                        refine CW_region ?_
                                        refine OW_opS (fun K hK r => ?_)
                                        simp (disch := (first | omega | decide)) only [x_bin, g_int, b_add, wrap_i64, wrap_u64, wrap_u32, wrap_u8, eX, ↓reduceIte, Nat.reduceEqDiff, Int.reduceToNat]
                                        refine hK _ _ ?_; clear hK K
                                        refine OW_mv rfl ?_
                                        refine OW_nil ?_
                                        try simp only [Ex.thnH, Ex.inBlockH, ↓reduceIte, Nat.reduceEqDiff]
                                        first
                                        | exact ⟨l.length - (k + 1), by omega, k + 1, F2, s2, by omega, rfl, hA2.less (le_upd _ _ _ f8_H), hR2.1, hSm2, hR2.2.2.trans hdl, rfl, rfl, rfl, rfl, rfl, trivial⟩
                                        | exact ⟨l.length - (k + 1), by omega, k + 1, F_, s, by omega, rfl, (hA.put (hA.fresh hb8) _).less (le_upd _ _ _ f8_H), hR, hSm.up (by omega), hdl, rfl, rfl, rfl, rfl, rfl, trivial⟩
                  · first
                    | (exfalso; exact cnA c35; done)
                    | skip
                      (try simp only [decide_eq_true_eq, decide_eq_false_iff_not, Bool.not_eq_true, Bool.not_eq_false, Bool.and_eq_true, Bool.or_eq_true, Bool.or_eq_false_iff, Bool.not_eq_true, Bool.not_eq_eq_eq_not, Bool.not_true, Bool.not_false] at c35)
                      refine CW_exit ?_
                      try simp only [Ex.thnH, Ex.inBlockH, ↓reduceIte, Nat.reduceEqDiff]
                      refine hK12 _ _ ?_; try clear hK12 K12
                      refine CW_seq (fun K26 hK26 => ?_)
                      refine CW_region ?_
                      refine OW_mv rfl ?_
                      refine OW_opS (fun K hK r => ?_)
                      simp only [x_callF _ bd14, List.map_toArray, List.map_cons, List.map_nil, eX, ↓reduceIte, Nat.reduceEqDiff, Int.reduceToNat]
                      refine (crashL hA hSm (by omega) (G := emptyHp) (le_empty _) (fun x hx => absurd rfl hx) (fun x hx => absurd rfl hx) none 0 [] kp0 (by decide)).mono ?_
                      rintro v94 H94 ⟨F94, hA94⟩
                      have hO94 := hA94.old
                      try simp only [eX, ↓reduceIte, Nat.reduceEqDiff, Int.reduceToNat]
                      refine hK _ _ ?_; clear hK K
                      refine OW_nil ?_
                      try simp only [Ex.thnH, Ex.inBlockH, ↓reduceIte, Nat.reduceEqDiff]
                      refine hK26 _ _ ?_; try clear hK26 K26
                      refine CW_seq (fun K27 hK27 => ?_)
                      refine CW_region ?_
                      refine OW_mv rfl ?_
                      refine OW_opS (fun K hK r => ?_)
                      simp only [x_callF _ bd19, List.map_toArray, List.map_cons, List.map_nil, eX, ↓reduceIte, Nat.reduceEqDiff, Int.reduceToNat]
                      refine (downL hA94).mono ?_
                      rintro v H' ⟨rfl, rfl⟩
                      try simp only [eX, ↓reduceIte, Nat.reduceEqDiff, Int.reduceToNat]
                      refine hK _ _ ?_; clear hK K
                      refine OW_opS (fun K hK r => ?_)
                      simp only [x_un, u_not, eX, ↓reduceIte, Nat.reduceEqDiff, Int.reduceToNat]
                      refine hK _ _ ?_; clear hK K
                      refine OW_mv rfl ?_
                      (first | refine OW_split (d := 98) rfl (fun g98 => ?_) (fun g98 => ?_) | skip)
                      all_goals try (exfalso; exact cnA g98)
                      all_goals (try simp only [decide_eq_true_eq, decide_eq_false_iff_not, Bool.not_eq_true, Bool.not_eq_false, Bool.and_eq_true, Bool.or_eq_true, Bool.or_eq_false_iff, Bool.not_eq_true, Bool.not_eq_eq_eq_not, Bool.not_true, Bool.not_false] at g98)
                      all_goals
                        try simp only [eX, ↓reduceIte, Nat.reduceEqDiff, Int.reduceToNat]
                        first
                        | refine OW_guardT rfl (lt_some (by decide)) rfl (fun K hK r => ?_)
                          simp only [x_move, eX, ↓reduceIte, Nat.reduceEqDiff, Int.reduceToNat]
                          refine hK _ _ ?_; clear hK K
                        | refine OW_guardF rfl (lt_some (by decide)) rfl ?_
                          simp only [eX, ↓reduceIte, Nat.reduceEqDiff, Int.reduceToNat]
                        first
                        | refine OW_guardT rfl (lt_some (by decide)) rfl (fun K hK r => ?_)
                          simp only [x_callF _ bd13, List.map_toArray, List.map_cons, List.map_nil, eX, ↓reduceIte, Nat.reduceEqDiff, Int.reduceToNat]
                          refine (flushL hA94 (hSm.cr []) (by omega) 0).mono ?_
                          rintro v100 H100 ⟨rfl, F100, hA100⟩
                          have hO100 := hA100.old
                          rw [fl_up s (by omega) []]
                          try simp only [eX, ↓reduceIte, Nat.reduceEqDiff, Int.reduceToNat]
                          refine hK _ _ ?_; clear hK K
                        | refine OW_guardF rfl (lt_some (by decide)) rfl ?_
                          simp only [eX, ↓reduceIte, Nat.reduceEqDiff, Int.reduceToNat]
                        first
                        | refine OW_guardT rfl (lt_some (by decide)) rfl (fun K hK r => ?_)
                          simp only [x_bin, g_int, g_bool, g_string, g_pointer, g_slice, g_map, g_func, g_nilFunc, g_err, g_iface, g_nil_iface, g_nil_r, g_nil_l, eX, ↓reduceIte, Nat.reduceEqDiff, Int.reduceToNat]
                          first | rw [b_err_eql _ _ Try.underlying28] | (rw [e_eql _ _ _ _ (by simp), q_equal]; first | rw [q_iface_nil _ _ _ Try.underlying28] | rw [q_nil_iface _ _ _ Try.underlying28] | rw [q_nil_nil _ _ _ Try.underlying28])
                          try simp only [eX, ↓reduceIte, Nat.reduceEqDiff, Int.reduceToNat]
                          refine hK _ _ ?_; clear hK K
                        | refine OW_guardF rfl (lt_some (by decide)) rfl ?_
                          simp only [eX, ↓reduceIte, Nat.reduceEqDiff, Int.reduceToNat]
                        refine OW_opS (fun K hK r => ?_)
                        simp only [x_pick, l_asBool, HL.ite_bool, if_true, if_false, Bool.false_eq_true, eX, ↓reduceIte, Nat.reduceEqDiff, Int.reduceToNat]
                        refine hK _ _ ?_; clear hK K
                        refine OW_as rfl ?_
                        refine OW_nil ?_
                        try simp only [Ex.thnH, Ex.inBlockH, ↓reduceIte, Nat.reduceEqDiff]
                        refine hK27 _ _ ?_; try clear hK27 K27
                        refine CW_ret ?_
                        try simp only [Ex.thnH, Ex.inBlockH, ↓reduceIte, Nat.reduceEqDiff]
                        exact ⟨[_], ⟨rfl, trivial⟩, H, lhA, rfl, Le.refl _⟩

end Go.Proofs.Ytkmjncmdhinlgaa.HL
end
