/- Parts of the proof, one behind the other: I48. -/
import Derived.Test.YtcjdkfhmlnfedaaX4
set_option linter.unusedSimpArgs false
set_option linter.unusedVariables false
section
namespace Go.Proofs.Ytcjdkfhmlnfedaa.HL
open Go Go.Proofs
set_option linter.unusedSimpArgs false
set_option linter.unusedVariables false
attribute [local irreducible] Lt Lq CW OW TW CallH


theorem mod_any (x k : Int) (hk : 0 < k) (hk2 : k ≤ 100000) : ∃ o : Int, IntKind.i64.wrap ((IntKind.u64.wrap x).tmod k) = o ∧ 0 ≤ o ∧ o < k := by
  have h0 : 0 ≤ IntKind.u64.wrap x := by rw [u64_def]; omega
  have e : (IntKind.u64.wrap x).tmod k = (IntKind.u64.wrap x) % k := Int.tmod_eq_emod_of_nonneg h0
  have h1 := Int.emod_nonneg (IntKind.u64.wrap x) (show k ≠ 0 by omega)
  have h2 := Int.emod_lt_of_pos (IntKind.u64.wrap x) hk
  rw [← e] at h1 h2
  exact ⟨_, wrap_i64 _ (by omega) (by omega), h1, h2⟩

set_option maxRecDepth 100000 in
set_option maxHeartbeats 8000000 in
theorem alone_ok (H : Hp) (gen other more : Int) (ba : Option Addr) (bc : Nat) (b : List Int) (hb : Holds H 1 (.slice ba b.length bc) b.length (u8s b)) (hbc : b.length ≤ bc) (hB : ByteL b) (hm0 : b.length ≤ 9223372036854775807) : CallH Try.prog 6 #[.int .i64 gen, .int .i64 other, .int .i64 more, .slice ba b.length bc] H (fun v H' => v = .bool true ∧ Le H H') := by
  refine CallH_enter (l := [_, _, _, _]) (rl := [.tmp 8]) (n := 121) Try.func6 rfl rfl rfl rfl rfl ?_
  simp only [envOf, Nat.reduceAdd]
  obtain ⟨g0, hg1, hg3, hg4⟩ := mod_any gen 1000 (by omega) (by omega)
  obtain ⟨m0, hm1, hm3, hm4⟩ := mod_any more 50 (by omega) (by omega)
  refine CW_seq (fun K1 hK1 => ?_)
  refine CW_region ?_
  refine OW_as rfl ?_
  refine OW_nil ?_
  try simp only [Ex.thnH, Ex.inBlockH, ↓reduceIte, Nat.reduceEqDiff]
  refine hK1 _ _ ?_; try clear hK1 K1
  refine CW_seq (fun K2 hK2 => ?_)
  refine CW_seq (fun K3 hK3 => ?_)
  refine CW_region ?_
  refine OW_opS (fun K hK r => ?_)
  simp only [x_callF _ bd7, List.map_toArray, List.map_cons, List.map_nil, eX, ↓reduceIte, Nat.reduceEqDiff, Int.reduceToNat]
  refine (alive_ok _).mono ?_
  rintro v17 H' ⟨rfl, hq⟩
  have hq := hq.symm
  subst hq
  try simp only [eX, ↓reduceIte, Nat.reduceEqDiff, Int.reduceToNat]
  refine hK _ _ ?_; clear hK K
  refine OW_opS (fun K hK r => ?_)
  simp only [x_un, u_not, eX, ↓reduceIte, Nat.reduceEqDiff, Int.reduceToNat]
  refine hK _ _ ?_; clear hK K
  refine OW_nil ?_
  try simp only [Ex.thnH, Ex.inBlockH, ↓reduceIte, Nat.reduceEqDiff]
  refine hK3 _ _ ?_; try clear hK3 K3
  refine CW_cond (fun r => rfl) (fun c18 => ?_) (fun c18 => ?_)
  · exfalso; exact cnA c18
  refine CW_skip ?_
  try simp only [Ex.thnH, Ex.inBlockH, ↓reduceIte, Nat.reduceEqDiff]
  refine hK2 _ _ ?_; try clear hK2 K2
  refine CW_seq (fun K4 hK4 => ?_)
  refine CW_seq (fun K5 hK5 => ?_)
  refine CW_region ?_
  refine OW_mv rfl ?_
  refine OW_opS (fun K hK r => ?_)
  simp only [x_builtin, l_len, List.map_toArray, List.map_cons, List.map_nil, i_len_slice _ _ Try.underlying22, eX, ↓reduceIte, Nat.reduceEqDiff, Int.reduceToNat]
  refine hK _ _ ?_; clear hK K
  refine OW_opS (fun K hK r => ?_)
  simp (disch := (first | omega | decide)) only [x_bin, g_int, b_gtr, dec_lt_t, dec_lt_f, dec_le_t, dec_le_f, dec_eq_t, dec_eq_f, Bool.not_true, Bool.not_false, eX, ↓reduceIte, Nat.reduceEqDiff, Int.reduceToNat]
  refine hK _ _ ?_; clear hK K
  refine OW_mv rfl ?_
  (first | refine OW_split (d := 22) rfl (fun g22 => ?_) (fun g22 => ?_) | skip)
  all_goals try (exfalso; exact cnA g22)
  all_goals (try simp only [decide_eq_true_eq, decide_eq_false_iff_not, Bool.not_eq_true, Bool.not_eq_false, Bool.and_eq_true, Bool.or_eq_true, Bool.or_eq_false_iff, Bool.not_eq_true, Bool.not_eq_eq_eq_not, Bool.not_true, Bool.not_false] at g22)
  all_goals
    try simp only [eX, ↓reduceIte, Nat.reduceEqDiff, Int.reduceToNat]
    first
    | refine OW_guardT rfl (lt_some (by decide)) rfl (fun K hK r => ?_)
      simp only [x_move, eX, ↓reduceIte, Nat.reduceEqDiff, Int.reduceToNat]
      refine hK _ _ ?_; clear hK K
    | refine OW_guardF rfl (lt_some (by decide)) rfl ?_
      simp only [eX, ↓reduceIte, Nat.reduceEqDiff, Int.reduceToNat]
    first
    | refine OW_guardT rfl (lt_some (by decide)) rfl (fun K hK r => ?_)
      simp only [x_builtin, l_len, List.map_toArray, List.map_cons, List.map_nil, i_len_slice _ _ Try.underlying22, eX, ↓reduceIte, Nat.reduceEqDiff, Int.reduceToNat]
      refine hK _ _ ?_; clear hK K
    | refine OW_guardF rfl (lt_some (by decide)) rfl ?_
      simp only [eX, ↓reduceIte, Nat.reduceEqDiff, Int.reduceToNat]
    first
    | refine OW_guardT rfl (lt_some (by decide)) rfl (fun K hK r => ?_)
      simp (disch := (first | omega | decide)) only [x_bin, g_int, b_eql, dec_lt_t, dec_lt_f, dec_le_t, dec_le_f, dec_eq_t, dec_eq_f, Bool.not_true, Bool.not_false, eX, ↓reduceIte, Nat.reduceEqDiff, Int.reduceToNat]
      refine hK _ _ ?_; clear hK K
    | refine OW_guardF rfl (lt_some (by decide)) rfl ?_
      simp only [eX, ↓reduceIte, Nat.reduceEqDiff, Int.reduceToNat]
    refine OW_opS (fun K hK r => ?_)
    simp only [x_pick, l_asBool, HL.ite_bool, if_true, if_false, Bool.false_eq_true, eX, ↓reduceIte, Nat.reduceEqDiff, Int.reduceToNat]
    refine hK _ _ ?_; clear hK K
    refine OW_nil ?_
    try simp only [Ex.thnH, Ex.inBlockH, ↓reduceIte, Nat.reduceEqDiff]
    refine hK5 _ _ ?_; try clear hK5 K5
    refine CW_cond (fun r => rfl) (fun c26 => ?_) (fun c26 => ?_)
    · first
      | (exfalso; exact cnA c26; done)
      | skip
        (try simp only [decide_eq_true_eq, decide_eq_false_iff_not, Bool.not_eq_true, Bool.not_eq_false, Bool.and_eq_true, Bool.or_eq_true, Bool.or_eq_false_iff, Bool.not_eq_true, Bool.not_eq_eq_eq_not, Bool.not_true, Bool.not_false] at c26)
        refine CW_seq (fun K6 hK6 => ?_)
        refine CW_region ?_
        refine OW_as rfl ?_
        refine OW_nil ?_
        try simp only [Ex.thnH, Ex.inBlockH, ↓reduceIte, Nat.reduceEqDiff]
        refine hK6 _ _ ?_; try clear hK6 K6
        refine CW_ret ?_
        try simp only [Ex.thnH, Ex.inBlockH, ↓reduceIte, Nat.reduceEqDiff]
        exact ⟨[_], ⟨rfl, trivial⟩, H, lhA, rfl, Le.refl _⟩
    · first
      | (exfalso; exact cnA c26; done)
      | skip
        (try simp only [decide_eq_true_eq, decide_eq_false_iff_not, Bool.not_eq_true, Bool.not_eq_false, Bool.and_eq_true, Bool.or_eq_true, Bool.or_eq_false_iff, Bool.not_eq_true, Bool.not_eq_eq_eq_not, Bool.not_true, Bool.not_false] at c26)
        refine CW_skip ?_
        try simp only [Ex.thnH, Ex.inBlockH, ↓reduceIte, Nat.reduceEqDiff]
        refine hK4 _ _ ?_; try clear hK4 K4
        refine CW_seq (fun K7 hK7 => ?_)
        refine CW_region ?_
        refine OW_opS (fun K hK r => ?_)
        simp only [x_buildSlice, List.map_toArray, List.map_cons, List.map_nil, eX, ↓reduceIte, Nat.reduceEqDiff, Int.reduceToNat]
        refine Lt_buildSlice (vs := [_]) Try.underlying41 sz3 zr3 rfl bsA (by first | decide | (simp; done)) ?_
        simp only [List.flatMap_cons, List.flatMap_nil, Value.cells, List.append_nil, List.cons_append, List.nil_append, List.length_cons, List.length_nil, Nat.zero_add, Nat.reduceAdd]
        intro b28 hb28
        have f28_H : H b28 = none := none_of_le lhA hb28
        try simp only [eX, ↓reduceIte, Nat.reduceEqDiff, Int.reduceToNat]
        refine hK _ _ ?_; clear hK K
        refine OW_opS (fun K hK r => ?_)
        simp only [x_callF _ bd9, List.map_toArray, List.map_cons, List.map_nil, eX, ↓reduceIte, Nat.reduceEqDiff, Int.reduceToNat]
        refine (newL _ _ _ [60] ⟨rfl, .inr ⟨b28, 0, 1, _, _, _, rfl, hbA, by simp, by simp⟩⟩ rfl (by decide)).mono ?_
        rintro v29 H29 ⟨p, F29, rfl, hA29'⟩
        have hA29 : Stn H H29 F29 p (newSt [60]) := hA29'.less lhA
        have hO29 := hA29.old
        clear hA29'
        have hs0 := Sm.new (l := [60]) (by decide)
        try simp only [eX, ↓reduceIte, Nat.reduceEqDiff, Int.reduceToNat]
        refine hK _ _ ?_; clear hK K
        refine OW_mv rfl ?_
        refine OW_opS (fun K hK r => ?_)
        simp only [x_extract, i_extract, List.getElem?_toArray, List.getElem?_cons_zero, List.getElem?_cons_succ, orF_some, eX, ↓reduceIte, Nat.reduceEqDiff, Int.reduceToNat]
        refine hK _ _ ?_; clear hK K
        refine OW_opS (fun K hK r => ?_)
        simp only [x_extract, i_extract, List.getElem?_toArray, List.getElem?_cons_zero, List.getElem?_cons_succ, orF_some, eX, ↓reduceIte, Nat.reduceEqDiff, Int.reduceToNat]
        refine hK _ _ ?_; clear hK K
        refine OW_as rfl ?_
        refine OW_as rfl ?_
        refine OW_nil ?_
        try simp only [Ex.thnH, Ex.inBlockH, ↓reduceIte, Nat.reduceEqDiff]
        refine hK7 _ _ ?_; try clear hK7 K7
        refine CW_seq (fun K8 hK8 => ?_)
        refine CW_seq (fun K9 hK9 => ?_)
        refine CW_region ?_
        refine OW_mv rfl ?_
        refine OW_opS (fun K hK r => ?_)
        simp only [x_bin, g_int, g_bool, g_string, g_pointer, g_slice, g_map, g_func, g_nilFunc, g_err, g_iface, g_nil_iface, g_nil_r, g_nil_l, eX, ↓reduceIte, Nat.reduceEqDiff, Int.reduceToNat]
        first | rw [b_err_neq _ _ Try.underlying33] | (rw [e_neq _ _ _ _ (by simp), q_equal]; first | rw [q_iface_nil _ _ _ Try.underlying33] | rw [q_nil_iface _ _ _ Try.underlying33] | rw [q_nil_nil _ _ _ Try.underlying33])
        try simp only [eX, ↓reduceIte, Nat.reduceEqDiff, Int.reduceToNat]
        refine hK _ _ ?_; clear hK K
        refine OW_nil ?_
        try simp only [Ex.thnH, Ex.inBlockH, ↓reduceIte, Nat.reduceEqDiff]
        refine hK9 _ _ ?_; try clear hK9 K9
        refine CW_cond (fun r => rfl) (fun c33 => ?_) (fun c33 => ?_)
        · exfalso; exact cnA c33
        refine CW_skip ?_
        try simp only [Ex.thnH, Ex.inBlockH, ↓reduceIte, Nat.reduceEqDiff]
        refine hK8 _ _ ?_; try clear hK8 K8
        refine CW_seq (fun K10 hK10 => ?_)
        refine CW_region ?_
        refine OW_mv rfl ?_
        refine OW_opS (fun K hK r => ?_)
        simp (disch := (first | omega | decide)) only [x_convert, c_int _ _ _ _ Try.underlying3 Try.underlying30, wrap_i64, wrap_u64, wrap_u32, wrap_u8, eX, ↓reduceIte, Nat.reduceEqDiff, Int.reduceToNat]
        refine hK _ _ ?_; clear hK K
        refine OW_opS (fun K hK r => ?_)
        simp (disch := (first | omega | decide)) only [x_bin, g_int, b_rem, wrap_i64, wrap_u64, wrap_u32, wrap_u8, eX, ↓reduceIte, Nat.reduceEqDiff, Int.reduceToNat]
        refine hK _ _ ?_; clear hK K
        refine OW_opS (fun K hK r => ?_)
        simp (disch := (first | omega | decide)) only [x_convert, c_int _ _ _ _ Try.underlying30 Try.underlying3, wrap_i64, wrap_u64, wrap_u32, wrap_u8, eX, ↓reduceIte, Nat.reduceEqDiff, Int.reduceToNat]
        rw [hg1]
        refine hK _ _ ?_; clear hK K
        refine OW_opS (fun K hK r => ?_)
        simp (disch := (first | omega | decide)) only [x_bin, g_int, b_add, wrap_i64, wrap_u64, wrap_u32, wrap_u8, eX, ↓reduceIte, Nat.reduceEqDiff, Int.reduceToNat]
        refine hK _ _ ?_; clear hK K
        refine OW_as rfl ?_
        refine OW_nil ?_
        try simp only [Ex.thnH, Ex.inBlockH, ↓reduceIte, Nat.reduceEqDiff]
        refine hK10 _ _ ?_; try clear hK10 K10
        refine CW_seq (fun K11 hK11 => ?_)
        refine CW_seq (fun K12 hK12 => ?_)
        refine CW_region ?_
        refine OW_mv rfl ?_
        refine OW_mv rfl ?_
        refine OW_mv rfl ?_
        refine OW_opS (fun K hK r => ?_)
        simp only [x_callF _ bd14, List.map_toArray, List.map_cons, List.map_nil, eX, ↓reduceIte, Nat.reduceEqDiff, Int.reduceToNat]
        have hg : 1 ≤ 1 + g0 ∧ 1 + g0 ≤ 1000 := by omega
        have hb9 : b.length ≤ 900 := by omega
        have hbp : 0 < b.length := by omega
        refine (saveL hA29 hs0 (by omega) (by decide) (by decide) (1 + g0) 0 ba bc b hb hbc (by omega)).mono ?_
        rintro v42 H42 ⟨rfl, F42, hS42'⟩
        have hS42 : Stn H H42 F42 p (s60 (1 + g0) b) := hS42'
        clear hS42'
        rw [(s60_up hg hb9).1]
        have lH42 := hS42.old
        have hu := (s60_up hg hb9).2.1
        have hsm := s60_sm hg hb9
        have hby := s60_byte hg hb9 hB
        have hz60 := hu.sz0
        try simp only [eX, ↓reduceIte, Nat.reduceEqDiff, Int.reduceToNat]
        refine hK _ _ ?_; clear hK K
        refine OW_opS (fun K hK r => ?_)
        simp only [x_bin, g_int, g_bool, g_string, g_pointer, g_slice, g_map, g_func, g_nilFunc, g_err, g_iface, g_nil_iface, g_nil_r, g_nil_l, eX, ↓reduceIte, Nat.reduceEqDiff, Int.reduceToNat]
        first | rw [b_err_neq _ _ Try.underlying33] | (rw [e_neq _ _ _ _ (by simp), q_equal]; first | rw [q_iface_nil _ _ _ Try.underlying33] | rw [q_nil_iface _ _ _ Try.underlying33] | rw [q_nil_nil _ _ _ Try.underlying33])
        try simp only [eX, ↓reduceIte, Nat.reduceEqDiff, Int.reduceToNat]
        refine hK _ _ ?_; clear hK K
        refine OW_nil ?_
        try simp only [Ex.thnH, Ex.inBlockH, ↓reduceIte, Nat.reduceEqDiff]
        refine hK12 _ _ ?_; try clear hK12 K12
        refine CW_cond (fun r => rfl) (fun c43 => ?_) (fun c43 => ?_)
        · exfalso; exact cnA c43
        refine CW_skip ?_
        try simp only [Ex.thnH, Ex.inBlockH, ↓reduceIte, Nat.reduceEqDiff]
        refine hK11 _ _ ?_; try clear hK11 K11
        refine CW_seq (fun K13 hK13 => ?_)
        refine CW_region ?_
        refine OW_mv rfl ?_
        refine OW_mv rfl ?_
        refine OW_mv rfl ?_
        refine OW_opS (fun K hK r => ?_)
        simp only [x_builtin, l_len, List.map_toArray, List.map_cons, List.map_nil, i_len_slice _ _ Try.underlying22, eX, ↓reduceIte, Nat.reduceEqDiff, Int.reduceToNat]
        refine hK _ _ ?_; clear hK K
        refine OW_opS (fun K hK r => ?_)
        simp only [x_callF _ bd23, List.map_toArray, List.map_cons, List.map_nil, eX, ↓reduceIte, Nat.reduceEqDiff, Int.reduceToNat]
        refine (loadL hS42 hsm (by omega) (by omega) (by omega) hby (1 + g0) 1 b.length (by omega) (by omega)).mono ?_
        rintro v49 H49 ⟨l49, x49, rs49, rfl, _, _⟩
        rw [s60_area hg hb9 hbp]
        have lH49 : Le H H49 := Le.trans lH42 l49
        try simp only [eX, ↓reduceIte, Nat.reduceEqDiff, Int.reduceToNat]
        refine hK _ _ ?_; clear hK K
        refine OW_mv rfl ?_
        refine OW_opS (fun K hK r => ?_)
        simp only [x_extract, i_extract, List.getElem?_toArray, List.getElem?_cons_zero, List.getElem?_cons_succ, orF_some, eX, ↓reduceIte, Nat.reduceEqDiff, Int.reduceToNat]
        refine hK _ _ ?_; clear hK K
        refine OW_opS (fun K hK r => ?_)
        simp only [x_extract, i_extract, List.getElem?_toArray, List.getElem?_cons_zero, List.getElem?_cons_succ, orF_some, eX, ↓reduceIte, Nat.reduceEqDiff, Int.reduceToNat]
        refine hK _ _ ?_; clear hK K
        refine OW_as rfl ?_
        refine OW_as rfl ?_
        refine OW_nil ?_
        try simp only [Ex.thnH, Ex.inBlockH, ↓reduceIte, Nat.reduceEqDiff]
        refine hK13 _ _ ?_; try clear hK13 K13
        refine CW_seq (fun K14 hK14 => ?_)
        refine CW_region ?_
        refine OW_mv rfl ?_
        refine OW_mv rfl ?_
        refine OW_opS (fun K hK r => ?_)
        simp only [x_builtin, l_len, List.map_toArray, List.map_cons, List.map_nil, i_len_slice _ _ Try.underlying22, eX, ↓reduceIte, Nat.reduceEqDiff, Int.reduceToNat]
        refine hK _ _ ?_; clear hK K
        refine OW_opS (fun K hK r => ?_)
        simp only [x_callF _ bd23, List.map_toArray, List.map_cons, List.map_nil, eX, ↓reduceIte, Nat.reduceEqDiff, Int.reduceToNat]
        refine (load_nil _ (1 + g0) 0 b.length).mono ?_
        rintro v H' ⟨rfl, hq⟩
        have hq := hq.symm
        subst hq
        try simp only [eX, ↓reduceIte, Nat.reduceEqDiff, Int.reduceToNat]
        refine hK _ _ ?_; clear hK K
        refine OW_mv rfl ?_
        refine OW_opS (fun K hK r => ?_)
        simp only [x_extract, i_extract, List.getElem?_toArray, List.getElem?_cons_zero, List.getElem?_cons_succ, orF_some, eX, ↓reduceIte, Nat.reduceEqDiff, Int.reduceToNat]
        refine hK _ _ ?_; clear hK K
        refine OW_opS (fun K hK r => ?_)
        simp only [x_extract, i_extract, List.getElem?_toArray, List.getElem?_cons_zero, List.getElem?_cons_succ, orF_some, eX, ↓reduceIte, Nat.reduceEqDiff, Int.reduceToNat]
        refine hK _ _ ?_; clear hK K
        refine OW_as rfl ?_
        refine OW_as rfl ?_
        refine OW_nil ?_
        try simp only [Ex.thnH, Ex.inBlockH, ↓reduceIte, Nat.reduceEqDiff]
        refine hK14 _ _ ?_; try clear hK14 K14
        refine CW_seq (fun K15 hK15 => ?_)
        refine CW_region ?_
        refine OW_mv rfl ?_
        refine OW_mv rfl ?_
        refine OW_mv rfl ?_
        refine OW_opS (fun K hK r => ?_)
        simp only [x_builtin, l_len, List.map_toArray, List.map_cons, List.map_nil, i_len_slice _ _ Try.underlying22, eX, ↓reduceIte, Nat.reduceEqDiff, Int.reduceToNat]
        refine hK _ _ ?_; clear hK K
        refine OW_opS (fun K hK r => ?_)
        simp (disch := (first | omega | decide)) only [x_bin, g_int, b_add, wrap_i64, wrap_u64, wrap_u32, wrap_u8, eX, ↓reduceIte, Nat.reduceEqDiff, Int.reduceToNat]
        refine hK _ _ ?_; clear hK K
        refine OW_mv rfl ?_
        refine OW_opS (fun K hK r => ?_)
        simp (disch := (first | omega | decide)) only [x_convert, c_int _ _ _ _ Try.underlying3 Try.underlying30, wrap_i64, wrap_u64, wrap_u32, wrap_u8, eX, ↓reduceIte, Nat.reduceEqDiff, Int.reduceToNat]
        refine hK _ _ ?_; clear hK K
        refine OW_opS (fun K hK r => ?_)
        simp (disch := (first | omega | decide)) only [x_bin, g_int, b_rem, wrap_i64, wrap_u64, wrap_u32, wrap_u8, eX, ↓reduceIte, Nat.reduceEqDiff, Int.reduceToNat]
        refine hK _ _ ?_; clear hK K
        refine OW_opS (fun K hK r => ?_)
        simp (disch := (first | omega | decide)) only [x_convert, c_int _ _ _ _ Try.underlying30 Try.underlying3, wrap_i64, wrap_u64, wrap_u32, wrap_u8, eX, ↓reduceIte, Nat.reduceEqDiff, Int.reduceToNat]
        rw [hm1]
        refine hK _ _ ?_; clear hK K
        refine OW_opS (fun K hK r => ?_)
        simp (disch := (first | omega | decide)) only [x_bin, g_int, b_add, wrap_i64, wrap_u64, wrap_u32, wrap_u8, eX, ↓reduceIte, Nat.reduceEqDiff, Int.reduceToNat]
        refine hK _ _ ?_; clear hK K
        refine OW_opS (fun K hK r => ?_)
        simp only [x_callF _ bd23, List.map_toArray, List.map_cons, List.map_nil, eX, ↓reduceIte, Nat.reduceEqDiff, Int.reduceToNat]
        refine (loadL (hS42.more l49) hsm (by omega) (by omega) (by omega) hby (1 + g0) 0 (b.length + 1 + m0) (by omega) (by omega)).mono ?_
        rintro v70 H70 ⟨l70, x70, rs70, rfl, _, _⟩
        rw [s60_more hg hb9 hbp (by omega)]
        have lH70 : Le H H70 := Le.trans lH49 l70
        try simp only [eX, ↓reduceIte, Nat.reduceEqDiff, Int.reduceToNat]
        refine hK _ _ ?_; clear hK K
        refine OW_mv rfl ?_
        refine OW_opS (fun K hK r => ?_)
        simp only [x_extract, i_extract, List.getElem?_toArray, List.getElem?_cons_zero, List.getElem?_cons_succ, orF_some, eX, ↓reduceIte, Nat.reduceEqDiff, Int.reduceToNat]
        refine hK _ _ ?_; clear hK K
        refine OW_opS (fun K hK r => ?_)
        simp only [x_extract, i_extract, List.getElem?_toArray, List.getElem?_cons_zero, List.getElem?_cons_succ, orF_some, eX, ↓reduceIte, Nat.reduceEqDiff, Int.reduceToNat]
        refine hK _ _ ?_; clear hK K
        refine OW_as rfl ?_
        refine OW_as rfl ?_
        refine OW_nil ?_
        try simp only [Ex.thnH, Ex.inBlockH, ↓reduceIte, Nat.reduceEqDiff]
        refine hK15 _ _ ?_; try clear hK15 K15
        refine CW_seq (fun K16 hK16 => ?_)
        refine CW_seq (fun K17 hK17 => ?_)
        refine CW_region ?_
        refine OW_mv rfl ?_
        refine OW_opS (fun K hK r => ?_)
        simp only [x_callF _ bd30, List.map_toArray, List.map_cons, List.map_nil, eX, ↓reduceIte, Nat.reduceEqDiff, Int.reduceToNat]
        refine (num_Is _ (some 9) (by intro k hk; cases hk; decide) 9 (by decide) (by decide)).mono ?_
        rintro v H' ⟨rfl, hq⟩
        have hq := hq.symm
        subst hq
        try simp only [eX, ↓reduceIte, Nat.reduceEqDiff, Int.reduceToNat]
        refine hK _ _ ?_; clear hK K
        refine OW_opS (fun K hK r => ?_)
        simp only [x_un, u_not, eX, ↓reduceIte, Nat.reduceEqDiff, Int.reduceToNat]
        refine hK _ _ ?_; clear hK K
        refine OW_mv rfl ?_
        (first | refine OW_split (d := 76) rfl (fun g76 => ?_) (fun g76 => ?_) | skip)
        all_goals try (exfalso; exact cnA g76)
        all_goals (try simp only [decide_eq_true_eq, decide_eq_false_iff_not, Bool.not_eq_true, Bool.not_eq_false, Bool.and_eq_true, Bool.or_eq_true, Bool.or_eq_false_iff, Bool.not_eq_true, Bool.not_eq_eq_eq_not, Bool.not_true, Bool.not_false] at g76)
        all_goals
          try simp only [eX, ↓reduceIte, Nat.reduceEqDiff, Int.reduceToNat]
          first
          | refine OW_guardT rfl (lt_some (by decide)) rfl (fun K hK r => ?_)
            simp only [x_move, eX, ↓reduceIte, Nat.reduceEqDiff, Int.reduceToNat]
            refine hK _ _ ?_; clear hK K
          | refine OW_guardF rfl (lt_some (by decide)) rfl ?_
            simp only [eX, ↓reduceIte, Nat.reduceEqDiff, Int.reduceToNat]
          first
          | refine OW_guardT rfl (lt_some (by decide)) rfl (fun K hK r => ?_)
            simp only [x_callF _ bd30, List.map_toArray, List.map_cons, List.map_nil, eX, ↓reduceIte, Nat.reduceEqDiff, Int.reduceToNat]
            refine (num_Is _ (some 1) (by intro k hk; cases hk; decide) 1 (by decide) (by decide)).mono ?_
            rintro v H' ⟨rfl, hq⟩
            have hq := hq.symm
            subst hq
            try simp only [eX, ↓reduceIte, Nat.reduceEqDiff, Int.reduceToNat]
            refine hK _ _ ?_; clear hK K
          | refine OW_guardF rfl (lt_some (by decide)) rfl ?_
            simp only [eX, ↓reduceIte, Nat.reduceEqDiff, Int.reduceToNat]
          first
          | refine OW_guardT rfl (lt_some (by decide)) rfl (fun K hK r => ?_)
            simp only [x_un, u_not, eX, ↓reduceIte, Nat.reduceEqDiff, Int.reduceToNat]
            refine hK _ _ ?_; clear hK K
          | refine OW_guardF rfl (lt_some (by decide)) rfl ?_
            simp only [eX, ↓reduceIte, Nat.reduceEqDiff, Int.reduceToNat]
          refine OW_opS (fun K hK r => ?_)
          simp only [x_pick, l_asBool, HL.ite_bool, if_true, if_false, Bool.false_eq_true, eX, ↓reduceIte, Nat.reduceEqDiff, Int.reduceToNat]
          refine hK _ _ ?_; clear hK K
          refine OW_mv rfl ?_
          (first | refine OW_split (d := 81) rfl (fun g81 => ?_) (fun g81 => ?_) | skip)
          all_goals try (exfalso; exact cnA g81)
          all_goals (try simp only [decide_eq_true_eq, decide_eq_false_iff_not, Bool.not_eq_true, Bool.not_eq_false, Bool.and_eq_true, Bool.or_eq_true, Bool.or_eq_false_iff, Bool.not_eq_true, Bool.not_eq_eq_eq_not, Bool.not_true, Bool.not_false] at g81)
          all_goals
            try simp only [eX, ↓reduceIte, Nat.reduceEqDiff, Int.reduceToNat]
            first
            | refine OW_guardT rfl (lt_some (by decide)) rfl (fun K hK r => ?_)
              simp only [x_move, eX, ↓reduceIte, Nat.reduceEqDiff, Int.reduceToNat]
              refine hK _ _ ?_; clear hK K
            | refine OW_guardF rfl (lt_some (by decide)) rfl ?_
              simp only [eX, ↓reduceIte, Nat.reduceEqDiff, Int.reduceToNat]
            first
            | refine OW_guardT rfl (lt_some (by decide)) rfl (fun K hK r => ?_)
              simp only [x_callF _ bd30, List.map_toArray, List.map_cons, List.map_nil, eX, ↓reduceIte, Nat.reduceEqDiff, Int.reduceToNat]
              refine (num_Is _ (some 9) (by intro k hk; cases hk; decide) 9 (by decide) (by decide)).mono ?_
              rintro v H' ⟨rfl, hq⟩
              have hq := hq.symm
              subst hq
              try simp only [eX, ↓reduceIte, Nat.reduceEqDiff, Int.reduceToNat]
              refine hK _ _ ?_; clear hK K
            | refine OW_guardF rfl (lt_some (by decide)) rfl ?_
              simp only [eX, ↓reduceIte, Nat.reduceEqDiff, Int.reduceToNat]
            first
            | refine OW_guardT rfl (lt_some (by decide)) rfl (fun K hK r => ?_)
              simp only [x_un, u_not, eX, ↓reduceIte, Nat.reduceEqDiff, Int.reduceToNat]
              refine hK _ _ ?_; clear hK K
            | refine OW_guardF rfl (lt_some (by decide)) rfl ?_
              simp only [eX, ↓reduceIte, Nat.reduceEqDiff, Int.reduceToNat]
            refine OW_opS (fun K hK r => ?_)
            simp only [x_pick, l_asBool, HL.ite_bool, if_true, if_false, Bool.false_eq_true, eX, ↓reduceIte, Nat.reduceEqDiff, Int.reduceToNat]
            refine hK _ _ ?_; clear hK K
            refine OW_mv rfl ?_
            (first | refine OW_split (d := 86) rfl (fun g86 => ?_) (fun g86 => ?_) | skip)
            all_goals try (exfalso; exact cnA g86)
            all_goals (try simp only [decide_eq_true_eq, decide_eq_false_iff_not, Bool.not_eq_true, Bool.not_eq_false, Bool.and_eq_true, Bool.or_eq_true, Bool.or_eq_false_iff, Bool.not_eq_true, Bool.not_eq_eq_eq_not, Bool.not_true, Bool.not_false] at g86)
            all_goals
              try simp only [eX, ↓reduceIte, Nat.reduceEqDiff, Int.reduceToNat]
              first
              | refine OW_guardT rfl (lt_some (by decide)) rfl (fun K hK r => ?_)
                simp only [x_callF _ bd11, List.map_toArray, List.map_cons, List.map_nil, eX, ↓reduceIte, Nat.reduceEqDiff, Int.reduceToNat]
                refine (area_nil _).mono ?_
                rintro v H' ⟨rfl, hq⟩
                have hq := hq.symm
                subst hq
                try simp only [eX, ↓reduceIte, Nat.reduceEqDiff, Int.reduceToNat]
                refine hK _ _ ?_; clear hK K
              | refine OW_guardF rfl (lt_some (by decide)) rfl ?_
                simp only [eX, ↓reduceIte, Nat.reduceEqDiff, Int.reduceToNat]
              first
              | refine OW_guardT rfl (lt_some (by decide)) rfl (fun K hK r => ?_)
                simp (disch := (first | omega | decide)) only [x_bin, g_int, b_neq, dec_lt_t, dec_lt_f, dec_le_t, dec_le_f, dec_eq_t, dec_eq_f, Bool.not_true, Bool.not_false, eX, ↓reduceIte, Nat.reduceEqDiff, Int.reduceToNat]
                refine hK _ _ ?_; clear hK K
              | refine OW_guardF rfl (lt_some (by decide)) rfl ?_
                simp only [eX, ↓reduceIte, Nat.reduceEqDiff, Int.reduceToNat]
              refine OW_opS (fun K hK r => ?_)
              simp only [x_pick, l_asBool, HL.ite_bool, if_true, if_false, Bool.false_eq_true, eX, ↓reduceIte, Nat.reduceEqDiff, Int.reduceToNat]
              refine hK _ _ ?_; clear hK K
              refine OW_mv rfl ?_
              (first | refine OW_split (d := 90) rfl (fun g90 => ?_) (fun g90 => ?_) | skip)
              all_goals try (exfalso; exact cnA g90)
              all_goals (try simp only [decide_eq_true_eq, decide_eq_false_iff_not, Bool.not_eq_true, Bool.not_eq_false, Bool.and_eq_true, Bool.or_eq_true, Bool.or_eq_false_iff, Bool.not_eq_true, Bool.not_eq_eq_eq_not, Bool.not_true, Bool.not_false] at g90)
              all_goals
                try simp only [eX, ↓reduceIte, Nat.reduceEqDiff, Int.reduceToNat]
                first
                | refine OW_guardT rfl (lt_some (by decide)) rfl (fun K hK r => ?_)
                  simp only [x_callF _ bd26, List.map_toArray, List.map_cons, List.map_nil, eX, ↓reduceIte, Nat.reduceEqDiff, Int.reduceToNat]
                  refine (fits_nil _ 1 (by omega) (by omega)).mono ?_
                  rintro v H' ⟨rfl, hq⟩
                  have hq := hq.symm
                  subst hq
                  try simp only [eX, ↓reduceIte, Nat.reduceEqDiff, Int.reduceToNat]
                  refine hK _ _ ?_; clear hK K
                | refine OW_guardF rfl (lt_some (by decide)) rfl ?_
                  simp only [eX, ↓reduceIte, Nat.reduceEqDiff, Int.reduceToNat]
                refine OW_opS (fun K hK r => ?_)
                simp only [x_pick, l_asBool, HL.ite_bool, if_true, if_false, Bool.false_eq_true, eX, ↓reduceIte, Nat.reduceEqDiff, Int.reduceToNat]
                refine hK _ _ ?_; clear hK K
                refine OW_mv rfl ?_
                (first | refine OW_split (d := 93) rfl (fun g93 => ?_) (fun g93 => ?_) | skip)
                all_goals try (exfalso; exact cnA g93)
                all_goals (try simp only [decide_eq_true_eq, decide_eq_false_iff_not, Bool.not_eq_true, Bool.not_eq_false, Bool.and_eq_true, Bool.or_eq_true, Bool.or_eq_false_iff, Bool.not_eq_true, Bool.not_eq_eq_eq_not, Bool.not_true, Bool.not_false] at g93)
                all_goals
                  try simp only [eX, ↓reduceIte, Nat.reduceEqDiff, Int.reduceToNat]
                  first
                  | refine OW_guardT rfl (lt_some (by decide)) rfl (fun K hK r => ?_)
                    simp only [x_move, eX, ↓reduceIte, Nat.reduceEqDiff, Int.reduceToNat]
                    refine hK _ _ ?_; clear hK K
                  | refine OW_guardF rfl (lt_some (by decide)) rfl ?_
                    simp only [eX, ↓reduceIte, Nat.reduceEqDiff, Int.reduceToNat]
                  first
                  | refine OW_guardT rfl (lt_some (by decide)) rfl (fun K hK r => ?_)
                    simp only [x_move, eX, ↓reduceIte, Nat.reduceEqDiff, Int.reduceToNat]
                    refine hK _ _ ?_; clear hK K
                  | refine OW_guardF rfl (lt_some (by decide)) rfl ?_
                    simp only [eX, ↓reduceIte, Nat.reduceEqDiff, Int.reduceToNat]
                  first
                  | refine OW_guardT rfl (lt_some (by decide)) rfl (fun K hK r => ?_)
                    simp only [x_callF _ bd14, List.map_toArray, List.map_cons, List.map_nil, eX, ↓reduceIte, Nat.reduceEqDiff, Int.reduceToNat]
                    refine (save_nil _ (1 + g0) 0 _).mono ?_
                    rintro v H' ⟨rfl, hq⟩
                    have hq := hq.symm
                    subst hq
                    try simp only [eX, ↓reduceIte, Nat.reduceEqDiff, Int.reduceToNat]
                    refine hK _ _ ?_; clear hK K
                  | refine OW_guardF rfl (lt_some (by decide)) rfl ?_
                    simp only [eX, ↓reduceIte, Nat.reduceEqDiff, Int.reduceToNat]
                  first
                  | refine OW_guardT rfl (lt_some (by decide)) rfl (fun K hK r => ?_)
                    simp only [x_callF _ bd30, List.map_toArray, List.map_cons, List.map_nil, eX, ↓reduceIte, Nat.reduceEqDiff, Int.reduceToNat]
                    refine (num_Is _ (some 1) (by intro k hk; cases hk; decide) 1 (by decide) (by decide)).mono ?_
                    rintro v H' ⟨rfl, hq⟩
                    have hq := hq.symm
                    subst hq
                    try simp only [eX, ↓reduceIte, Nat.reduceEqDiff, Int.reduceToNat]
                    refine hK _ _ ?_; clear hK K
                  | refine OW_guardF rfl (lt_some (by decide)) rfl ?_
                    simp only [eX, ↓reduceIte, Nat.reduceEqDiff, Int.reduceToNat]
                  first
                  | refine OW_guardT rfl (lt_some (by decide)) rfl (fun K hK r => ?_)
                    simp only [x_un, u_not, eX, ↓reduceIte, Nat.reduceEqDiff, Int.reduceToNat]
                    refine hK _ _ ?_; clear hK K
                  | refine OW_guardF rfl (lt_some (by decide)) rfl ?_
                    simp only [eX, ↓reduceIte, Nat.reduceEqDiff, Int.reduceToNat]
                  refine OW_opS (fun K hK r => ?_)
                  simp only [x_pick, l_asBool, HL.ite_bool, if_true, if_false, Bool.false_eq_true, eX, ↓reduceIte, Nat.reduceEqDiff, Int.reduceToNat]
                  refine hK _ _ ?_; clear hK K
                  refine OW_nil ?_
                  try simp only [Ex.thnH, Ex.inBlockH, ↓reduceIte, Nat.reduceEqDiff]
                  refine hK17 _ _ ?_; try clear hK17 K17
                  refine CW_cond (fun r => rfl) (fun c99 => ?_) (fun c99 => ?_)
                  · exfalso; first | (exact cnA c99; done) | (simp at c99; done)
                  refine CW_skip ?_
                  try simp only [Ex.thnH, Ex.inBlockH, ↓reduceIte, Nat.reduceEqDiff]
                  refine hK16 _ _ ?_; try clear hK16 K16
                  refine CW_seq (fun K18 hK18 => ?_)
                  refine CW_seq (fun K19 hK19 => ?_)
                  refine CW_region ?_
                  refine OW_mv rfl ?_
                  refine OW_opS (fun K hK r => ?_)
                  simp (disch := (first | omega | decide)) only [x_bin, g_int, b_lss, dec_lt_t, dec_lt_f, dec_le_t, dec_le_f, dec_eq_t, dec_eq_f, Bool.not_true, Bool.not_false, eX, ↓reduceIte, Nat.reduceEqDiff, Int.reduceToNat]
                  refine hK _ _ ?_; clear hK K
                  refine OW_mv rfl ?_
                  (first | refine OW_split (d := 102) rfl (fun g102 => ?_) (fun g102 => ?_) | skip)
                  all_goals try (exfalso; exact cnA g102)
                  all_goals (try simp only [decide_eq_true_eq, decide_eq_false_iff_not, Bool.not_eq_true, Bool.not_eq_false, Bool.and_eq_true, Bool.or_eq_true, Bool.or_eq_false_iff, Bool.not_eq_true, Bool.not_eq_eq_eq_not, Bool.not_true, Bool.not_false] at g102)
                  all_goals
                    try simp only [eX, ↓reduceIte, Nat.reduceEqDiff, Int.reduceToNat]
                    first
                    | refine OW_guardT rfl (lt_some (by decide)) rfl (fun K hK r => ?_)
                      simp only [x_move, eX, ↓reduceIte, Nat.reduceEqDiff, Int.reduceToNat]
                      refine hK _ _ ?_; clear hK K
                    | refine OW_guardF rfl (lt_some (by decide)) rfl ?_
                      simp only [eX, ↓reduceIte, Nat.reduceEqDiff, Int.reduceToNat]
                    first
                    | refine OW_guardT rfl (lt_some (by decide)) rfl (fun K hK r => ?_)
                      simp (disch := (first | omega | decide)) only [x_bin, g_int, b_gtr, dec_lt_t, dec_lt_f, dec_le_t, dec_le_f, dec_eq_t, dec_eq_f, Bool.not_true, Bool.not_false, eX, ↓reduceIte, Nat.reduceEqDiff, Int.reduceToNat]
                      refine hK _ _ ?_; clear hK K
                    | refine OW_guardF rfl (lt_some (by decide)) rfl ?_
                      simp only [eX, ↓reduceIte, Nat.reduceEqDiff, Int.reduceToNat]
                    refine OW_opS (fun K hK r => ?_)
                    simp only [x_pick, l_asBool, HL.ite_bool, if_true, if_false, Bool.false_eq_true, eX, ↓reduceIte, Nat.reduceEqDiff, Int.reduceToNat]
                    refine hK _ _ ?_; clear hK K
                    refine OW_mv rfl ?_
                    (first | refine OW_split (d := 106) rfl (fun g106 => ?_) (fun g106 => ?_) | skip)
                    all_goals try (exfalso; exact cnA g106)
                    all_goals (try simp only [decide_eq_true_eq, decide_eq_false_iff_not, Bool.not_eq_true, Bool.not_eq_false, Bool.and_eq_true, Bool.or_eq_true, Bool.or_eq_false_iff, Bool.not_eq_true, Bool.not_eq_eq_eq_not, Bool.not_true, Bool.not_false] at g106)
                    all_goals
                      try simp only [eX, ↓reduceIte, Nat.reduceEqDiff, Int.reduceToNat]
                      first
                      | refine OW_guardT rfl (lt_some (by decide)) rfl (fun K hK r => ?_)
                        simp only [x_move, eX, ↓reduceIte, Nat.reduceEqDiff, Int.reduceToNat]
                        refine hK _ _ ?_; clear hK K
                      | refine OW_guardF rfl (lt_some (by decide)) rfl ?_
                        simp only [eX, ↓reduceIte, Nat.reduceEqDiff, Int.reduceToNat]
                      first
                      | refine OW_guardT rfl (lt_some (by decide)) rfl (fun K hK r => ?_)
                        simp only [x_move, eX, ↓reduceIte, Nat.reduceEqDiff, Int.reduceToNat]
                        refine hK _ _ ?_; clear hK K
                      | refine OW_guardF rfl (lt_some (by decide)) rfl ?_
                        simp only [eX, ↓reduceIte, Nat.reduceEqDiff, Int.reduceToNat]
                      first
                      | refine OW_guardT rfl (lt_some (by decide)) rfl (fun K hK r => ?_)
                        simp (disch := (first | omega | decide)) only [x_bin, g_int, b_eql, dec_lt_t, dec_lt_f, dec_le_t, dec_le_f, dec_eq_t, dec_eq_f, Bool.not_true, Bool.not_false, eX, ↓reduceIte, Nat.reduceEqDiff, Int.reduceToNat]
                        refine hK _ _ ?_; clear hK K
                      | refine OW_guardF rfl (lt_some (by decide)) rfl ?_
                        simp only [eX, ↓reduceIte, Nat.reduceEqDiff, Int.reduceToNat]
                      refine OW_opS (fun K hK r => ?_)
                      simp only [x_pick, l_asBool, HL.ite_bool, if_true, if_false, Bool.false_eq_true, eX, ↓reduceIte, Nat.reduceEqDiff, Int.reduceToNat]
                      refine hK _ _ ?_; clear hK K
                      refine OW_nil ?_
                      try simp only [Ex.thnH, Ex.inBlockH, ↓reduceIte, Nat.reduceEqDiff]
                      refine hK19 _ _ ?_; try clear hK19 K19
                      refine CW_cond (fun r => rfl) (fun c110 => ?_) (fun c110 => ?_)
                      · first
                        | (exfalso; exact cnA c110; done)
                        | skip
                          (try simp only [decide_eq_true_eq, decide_eq_false_iff_not, Bool.not_eq_true, Bool.not_eq_false, Bool.and_eq_true, Bool.or_eq_true, Bool.or_eq_false_iff, Bool.not_eq_true, Bool.not_eq_eq_eq_not, Bool.not_true, Bool.not_false] at c110)
                          refine CW_seq (fun K20 hK20 => ?_)
                          refine CW_region ?_
                          refine OW_as rfl ?_
                          refine OW_nil ?_
                          try simp only [Ex.thnH, Ex.inBlockH, ↓reduceIte, Nat.reduceEqDiff]
                          refine hK20 _ _ ?_; try clear hK20 K20
                          refine CW_ret ?_
                          try simp only [Ex.thnH, Ex.inBlockH, ↓reduceIte, Nat.reduceEqDiff]
                          exact ⟨[_], ⟨rfl, trivial⟩, _, Le.refl _, rfl, lH70⟩
                      · first
                        | (exfalso; exact cnA c110; done)
                        | skip
                          (try simp only [decide_eq_true_eq, decide_eq_false_iff_not, Bool.not_eq_true, Bool.not_eq_false, Bool.and_eq_true, Bool.or_eq_true, Bool.or_eq_false_iff, Bool.not_eq_true, Bool.not_eq_eq_eq_not, Bool.not_true, Bool.not_false] at c110)
                          refine CW_skip ?_
                          try simp only [Ex.thnH, Ex.inBlockH, ↓reduceIte, Nat.reduceEqDiff]
                          refine hK18 _ _ ?_; try clear hK18 K18
                          refine CW_seq (fun K21 hK21 => ?_)
                          refine CW_region ?_
                          refine OW_mv rfl ?_
                          refine OW_mv rfl ?_
                          refine OW_mv rfl ?_
                          refine OW_opS (fun K hK r => ?_)
                          simp only [x_builtin, l_len, List.map_toArray, List.map_cons, List.map_nil, i_len_slice _ _ Try.underlying22, eX, ↓reduceIte, Nat.reduceEqDiff, Int.reduceToNat]
                          refine hK _ _ ?_; clear hK K
                          refine OW_opS (fun K hK r => ?_)
                          simp only [x_callF _ bd23, List.map_toArray, List.map_cons, List.map_nil, eX, ↓reduceIte, Nat.reduceEqDiff, Int.reduceToNat]
                          refine (loadL (hS42.more (Le.trans l49 l70)) hsm (by omega) (by omega) (by omega) hby other 0 b.length (by omega) (by omega)).mono ?_
                          rintro v116 H116 ⟨l116, x116, rs116, rfl, _, _⟩
                          rw [s60_other hg hb9 hbp (by omega) (by omega)]
                          have lH116 : Le H H116 := Le.trans lH70 l116
                          try simp only [eX, ↓reduceIte, Nat.reduceEqDiff, Int.reduceToNat]
                          refine hK _ _ ?_; clear hK K
                          refine OW_mv rfl ?_
                          refine OW_opS (fun K hK r => ?_)
                          simp only [x_extract, i_extract, List.getElem?_toArray, List.getElem?_cons_zero, List.getElem?_cons_succ, orF_some, eX, ↓reduceIte, Nat.reduceEqDiff, Int.reduceToNat]
                          refine hK _ _ ?_; clear hK K
                          refine OW_opS (fun K hK r => ?_)
                          simp only [x_extract, i_extract, List.getElem?_toArray, List.getElem?_cons_zero, List.getElem?_cons_succ, orF_some, eX, ↓reduceIte, Nat.reduceEqDiff, Int.reduceToNat]
                          refine hK _ _ ?_; clear hK K
                          refine OW_as rfl ?_
                          refine OW_nil ?_
                          try simp only [Ex.thnH, Ex.inBlockH, ↓reduceIte, Nat.reduceEqDiff]
                          refine hK21 _ _ ?_; try clear hK21 K21
                          refine CW_seq (fun K22 hK22 => ?_)
                          refine CW_region ?_
                          refine OW_mv rfl ?_
                          refine OW_opS (fun K hK r => ?_)
                          simp only [x_callF _ bd30, List.map_toArray, List.map_cons, List.map_nil, eX, ↓reduceIte, Nat.reduceEqDiff, Int.reduceToNat]
                          refine (num_Is _ (some 9) (by intro k hk; cases hk; decide) 9 (by decide) (by decide)).mono ?_
                          rintro v H' ⟨rfl, hq⟩
                          have hq := hq.symm
                          subst hq
                          try simp only [eX, ↓reduceIte, Nat.reduceEqDiff, Int.reduceToNat]
                          refine hK _ _ ?_; clear hK K
                          refine OW_as rfl ?_
                          refine OW_nil ?_
                          try simp only [Ex.thnH, Ex.inBlockH, ↓reduceIte, Nat.reduceEqDiff]
                          refine hK22 _ _ ?_; try clear hK22 K22
                          refine CW_ret ?_
                          try simp only [Ex.thnH, Ex.inBlockH, ↓reduceIte, Nat.reduceEqDiff]
                          exact ⟨[_], ⟨rfl, trivial⟩, _, Le.refl _, by first | rfl | (simp; done) | (simp; rfl), lH116⟩

set_option maxRecDepth 100000 in
set_option maxHeartbeats 1000000 in
theorem lawAlone (H : Hp) (gen other more : Int) (ba : Option Addr) (bc : Nat) (b : List Int) (hb : Holds H 1 (.slice ba b.length bc) b.length (u8s b)) (hbc : b.length ≤ bc) (hB : ByteL b) (hm0 : b.length ≤ 9223372036854775807) : CallH Try.prog 3 #[.agg #[.int .i64 gen, .int .i64 other, .int .i64 more, .slice ba b.length bc]] H (fun v H' => v = .bool true ∧ Le H H') := by
  refine CallH_enter (l := [_]) (rl := [.tmp 2]) (n := 12) Try.func3 rfl rfl rfl rfl rfl ?_
  simp only [envOf, Nat.reduceAdd]
  refine CW_seq (fun K1 hK1 => ?_)
  refine CW_region ?_
  refine OW_opS (fun K hK r => ?_)
  simp only [x_box, Value.cells, eX, ↓reduceIte, Nat.reduceEqDiff, Int.reduceToNat]
  intro b1 hb1
  have f1_H : H b1 = none := none_of_le lhA hb1
  try simp only [eX, ↓reduceIte, Nat.reduceEqDiff, Int.reduceToNat]
  refine hK _ _ ?_; clear hK K
  refine OW_as rfl ?_
  refine OW_nil ?_
  try simp only [Ex.thnH, Ex.inBlockH, ↓reduceIte, Nat.reduceEqDiff]
  refine hK1 _ _ ?_; try clear hK1 K1
  refine CW_seq (fun K2 hK2 => ?_)
  refine CW_region ?_
  refine OW_opS (fun K hK r => ?_)
  simp only [x_fieldAddr, fa24_0, add_mk, Nat.reduceAdd, Nat.zero_add, eX, ↓reduceIte, Nat.reduceEqDiff, Int.reduceToNat]
  refine hK _ _ ?_; clear hK K
  refine OW_opS (fun K hK r => ?_)
  simp only [x_load, eX, ↓reduceIte, Nat.reduceEqDiff, Int.reduceToNat]
  refine Lt_loadAt1 Try.underlying3 rfl hbA ldA ?_
  try simp only [eX, ↓reduceIte, Nat.reduceEqDiff, Int.reduceToNat]
  refine hK _ _ ?_; clear hK K
  refine OW_opS (fun K hK r => ?_)
  simp only [x_fieldAddr, fa24_1, add_mk, Nat.reduceAdd, Nat.zero_add, eX, ↓reduceIte, Nat.reduceEqDiff, Int.reduceToNat]
  refine hK _ _ ?_; clear hK K
  refine OW_opS (fun K hK r => ?_)
  simp only [x_load, eX, ↓reduceIte, Nat.reduceEqDiff, Int.reduceToNat]
  refine Lt_loadAt1 Try.underlying3 rfl hbA ldA ?_
  try simp only [eX, ↓reduceIte, Nat.reduceEqDiff, Int.reduceToNat]
  refine hK _ _ ?_; clear hK K
  refine OW_opS (fun K hK r => ?_)
  simp only [x_fieldAddr, fa24_2, add_mk, Nat.reduceAdd, Nat.zero_add, eX, ↓reduceIte, Nat.reduceEqDiff, Int.reduceToNat]
  refine hK _ _ ?_; clear hK K
  refine OW_opS (fun K hK r => ?_)
  simp only [x_load, eX, ↓reduceIte, Nat.reduceEqDiff, Int.reduceToNat]
  refine Lt_loadAt1 Try.underlying3 rfl hbA ldA ?_
  try simp only [eX, ↓reduceIte, Nat.reduceEqDiff, Int.reduceToNat]
  refine hK _ _ ?_; clear hK K
  refine OW_opS (fun K hK r => ?_)
  simp only [x_fieldAddr, fa24_3, add_mk, Nat.reduceAdd, Nat.zero_add, eX, ↓reduceIte, Nat.reduceEqDiff, Int.reduceToNat]
  refine hK _ _ ?_; clear hK K
  refine OW_opS (fun K hK r => ?_)
  simp only [x_load, eX, ↓reduceIte, Nat.reduceEqDiff, Int.reduceToNat]
  refine Lt_loadAt1 Try.underlying22 rfl hbA ldA ?_
  try simp only [eX, ↓reduceIte, Nat.reduceEqDiff, Int.reduceToNat]
  refine hK _ _ ?_; clear hK K
  refine OW_opS (fun K hK r => ?_)
  simp only [x_callF _ bd6, List.map_toArray, List.map_cons, List.map_nil, eX, ↓reduceIte, Nat.reduceEqDiff, Int.reduceToNat]
  refine (alone_ok _ gen other more ba bc b (hb.le lhA) hbc hB hm0).mono ?_
  rintro v11 H11 ⟨rfl, l11⟩
  have lH11 : Le H H11 := Le.trans lhA l11
  try simp only [eX, ↓reduceIte, Nat.reduceEqDiff, Int.reduceToNat]
  refine hK _ _ ?_; clear hK K
  refine OW_as rfl ?_
  refine OW_nil ?_
  try simp only [Ex.thnH, Ex.inBlockH, ↓reduceIte, Nat.reduceEqDiff]
  refine hK2 _ _ ?_; try clear hK2 K2
  refine CW_ret ?_
  try simp only [Ex.thnH, Ex.inBlockH, ↓reduceIte, Nat.reduceEqDiff]
  exact ⟨[_], ⟨rfl, trivial⟩, _, Le.refl _, rfl, lH11⟩

end Go.Proofs.Ytcjdkfhmlnfedaa.HL
end
