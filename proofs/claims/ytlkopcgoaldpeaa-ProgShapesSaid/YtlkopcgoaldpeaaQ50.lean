/- A part of the proof. -/
import Derived.Test.YtlkopcgoaldpeaaQ41
import Derived.Test.YtlkopcgoaldpeaaQ42
namespace Go.Proofs.Ytlkopcgoaldpeaa.HL
open Go Go.Proofs
set_option linter.unusedSimpArgs false
set_option linter.unusedVariables false
attribute [local irreducible] Lt Lq CW OW TW CallH

set_option maxRecDepth 100000 in
set_option maxHeartbeats 1000000 in
theorem rfCount_ok (H : Hp) (n : Nat) (hn : n < 18446744073709551616) : CallH Try.prog 39 #[.int .u64 n] H (fun v' H' => Le H H' ∧ ∃ rs, OwnS H' 5 1 v' (cnt n).length (u8s (cnt n)) rs ∧ ∀ r, rs = some r → H r = none) := by
  refine CallH_enter (l := [_]) (rl := [.tmp 2]) (n := 20) Try.func39 rfl rfl rfl rfl rfl ?_
  simp only [envOf, Nat.reduceAdd]
  refine CW_seq (fun K1 hK1 => ?_)
  refine CW_region ?_
  refine OW_as rfl ?_
  refine OW_nil ?_
  try simp only [Ex.thnH, Ex.inBlockH, ↓reduceIte, Nat.reduceEqDiff]
  refine hK1 _ _ ?_; try clear hK1 K1
  refine CW_seq (fun K2 hK2 => ?_)
  refine CW_region ?_
  refine OW_as rfl ?_
  refine OW_nil ?_
  try simp only [Ex.thnH, Ex.inBlockH, ↓reduceIte, Nat.reduceEqDiff]
  refine hK2 _ _ ?_; try clear hK2 K2
  refine CW_seq (fun K3 hK3 => ?_)
  refine CW_block ?_
  refine CW_loop (fun m e H_ => ∃ (k : Nat) (a : List Int) (v : Value) (rs : Option Nat), m = k ∧ k ≤ n ∧ cnt n = a ++ cnt k ∧ a.length ≤ 10 ∧ OwnS H_ 5 1 v a.length (u8s a) rs ∧ (∀ r, rs = some r → H r = none) ∧ Le H H_ ∧ Env.has [(0, .int .u64 k), (3, v)] e) (n) ?_ ?_
  · skip
    exact ⟨n, [], _, none, rfl, Nat.le_refl _, rfl, by simp, OwnS.nil _ _ _, (fun r hr => by cases hr), Le.refl _, rfl, rfl, trivial⟩
  intro m_ e_ H_ hI_
  obtain ⟨k, a, v, rs, rfl, hk, hc, ha, hox, hrs, hle, he⟩ := hI_
  have hl10 := cnt_len10 hn
  rw [hc, List.length_append] at hl10
  refine CW_env he.sub ?_; clear he e_
  refine CW_seq (fun K4 hK4 => ?_)
  refine CW_seq (fun K5 hK5 => ?_)
  refine CW_region ?_
  refine OW_mv rfl ?_
  refine OW_opS (fun K hK r => ?_)
  simp (disch := (first | omega | decide)) only [x_bin, g_int, b_geq, dec_lt_t, dec_lt_f, dec_le_t, dec_le_f, dec_eq_t, dec_eq_f, Bool.not_true, Bool.not_false, eX, ↓reduceIte, Nat.reduceEqDiff, Int.reduceToNat]
  refine hK _ _ ?_; clear hK K
  refine OW_nil ?_
  try simp only [Ex.thnH, Ex.inBlockH, ↓reduceIte, Nat.reduceEqDiff]
  refine hK5 _ _ ?_; try clear hK5 K5
  refine CW_cond (fun r => rfl) (fun c5 => ?_) (fun c5 => ?_)
  · first
    | (exfalso; exact cnA c5; done)
    | skip
      (try simp only [decide_eq_true_eq, decide_eq_false_iff_not, Bool.not_eq_true, Bool.not_eq_false, Bool.and_eq_true, Bool.or_eq_true, Bool.or_eq_false_iff, Bool.not_eq_true, Bool.not_eq_eq_eq_not, Bool.not_true, Bool.not_false] at c5)
      have c5 : ¬ m_ < 128 := by omega
      refine CW_skip ?_
      try simp only [Ex.thnH, Ex.inBlockH, ↓reduceIte, Nat.reduceEqDiff]
      refine hK4 _ _ ?_; try clear hK4 K4
      refine CW_block ?_
      refine CW_seq (fun K6 hK6 => ?_)
      refine CW_region ?_
      refine OW_mv rfl ?_
      refine OW_mv rfl ?_
      refine OW_opS (fun K hK r => ?_)
      simp (disch := (first | omega | decide)) only [x_bin, g_int, b_rem, wrap_i64, wrap_u64, wrap_u32, wrap_u8, eX, ↓reduceIte, Nat.reduceEqDiff, Int.reduceToNat]
      rw [Int.tmod_eq_emod_of_nonneg (by omega)]
      refine hK _ _ ?_; clear hK K
      refine OW_opS (fun K hK r => ?_)
      simp (disch := (first | omega | decide)) only [x_bin, g_int, b_add, wrap_i64, wrap_u64, wrap_u32, wrap_u8, eX, ↓reduceIte, Nat.reduceEqDiff, Int.reduceToNat]
      refine hK _ _ ?_; clear hK K
      refine OW_opS (fun K hK r => ?_)
      simp (disch := (first | omega | decide)) only [x_convert, c_int _ _ _ _ Try.underlying60 Try.underlying5, wrap_i64, wrap_u64, wrap_u32, wrap_u8, eX, ↓reduceIte, Nat.reduceEqDiff, Int.reduceToNat]
      try rw [c8 _ (by omega) (by omega)]
      refine hK _ _ ?_; clear hK K
      refine OW_opS (fun K hK r => ?_)
      simp only [x_buildSlice, List.map_toArray, List.map_cons, List.map_nil, eX, ↓reduceIte, Nat.reduceEqDiff, Int.reduceToNat]
      refine Lt_buildSlice (vs := [_]) Try.underlying33 sz5 zr5 rfl bsA (by first | decide | (simp; done)) ?_
      simp only [List.flatMap_cons, List.flatMap_nil, Value.cells, List.append_nil, List.cons_append, List.nil_append, List.length_cons, List.length_nil, Nat.zero_add, Nat.reduceAdd]
      intro b11 hb11
      have f11_H : H b11 = none := none_of_le lhA hb11
      try simp only [eX, ↓reduceIte, Nat.reduceEqDiff, Int.reduceToNat]
      refine hK _ _ ?_; clear hK K
      refine OW_opS (fun K hK r => ?_)
      simp only [x_builtin, l_append, List.map_toArray, List.map_cons, List.map_nil, eX, ↓reduceIte, Nat.reduceEqDiff, Int.reduceToNat]
      refine Lt_append1 Try.underlying33 sz5 by5 (by decide) zr5 rfl _ (n := a.length) (hox.make hb11) hbA rfl (by omega) ?_
      intro v12 H12 rs12 hg12 ho12 hr12
      have lH12_H : Le H H12 := hg12.le (H0 := H) lhA (fun r hr => hrs r hr)
      refine hK _ _ ?_; clear hK K
      refine OW_as rfl ?_
      refine OW_nil ?_
      try simp only [Ex.thnH, Ex.inBlockH, ↓reduceIte, Nat.reduceEqDiff]
      refine hK6 _ _ ?_; try clear hK6 K6
      refine CW_region ?_
      refine OW_mv rfl ?_
      refine OW_opS (fun K hK r => ?_)
      simp (disch := (first | omega | decide)) only [x_bin, g_int, b_quo, wrap_i64, wrap_u64, wrap_u32, wrap_u8, eX, ↓reduceIte, Nat.reduceEqDiff, Int.reduceToNat]
      rw [quo_u64 (by omega) (by omega) (by omega)]
      refine hK _ _ ?_; clear hK K
      refine OW_as rfl ?_
      refine OW_nil ?_
      try simp only [Ex.thnH, Ex.inBlockH, ↓reduceIte, Nat.reduceEqDiff]
      refine ⟨m_ / 128, by omega, m_ / 128, a ++ [((m_ % 128 + 128 : Nat) : Int)], v12, rs12, rfl, by omega, ?_, ?_, ?_, ?_, lH12_H, ?_, rfl, trivial⟩
      · rw [hc, cnt_ge c5]; simp
      · rw [cnt_ge c5] at hl10; simp at hl10 ⊢; omega
      · have := ho12; rw [List.length_append, u8s, List.map_append]; exact this
      · intro r hr
        rcases hr12 r hr with h | h
        · exact hrs r h
        · exact none_of_le lhA h
      · show some (Value.int _ _) = some (Value.int _ _)
        congr 2
  · first
    | (exfalso; exact cnA c5; done)
    | skip
      (try simp only [decide_eq_true_eq, decide_eq_false_iff_not, Bool.not_eq_true, Bool.not_eq_false, Bool.and_eq_true, Bool.or_eq_true, Bool.or_eq_false_iff, Bool.not_eq_true, Bool.not_eq_eq_eq_not, Bool.not_true, Bool.not_false] at c5)
      have c5 : m_ < 128 := by omega
      refine CW_exit ?_
      try simp only [Ex.thnH, Ex.inBlockH, ↓reduceIte, Nat.reduceEqDiff]
      refine hK3 _ _ ?_; try clear hK3 K3
      refine CW_seq (fun K7 hK7 => ?_)
      refine CW_region ?_
      refine OW_mv rfl ?_
      refine OW_mv rfl ?_
      refine OW_opS (fun K hK r => ?_)
      simp (disch := (first | omega | decide)) only [x_convert, c_int _ _ _ _ Try.underlying60 Try.underlying5, wrap_i64, wrap_u64, wrap_u32, wrap_u8, eX, ↓reduceIte, Nat.reduceEqDiff, Int.reduceToNat]
      try rw [c8 _ (by omega) (by omega)]
      refine hK _ _ ?_; clear hK K
      refine OW_opS (fun K hK r => ?_)
      simp only [x_buildSlice, List.map_toArray, List.map_cons, List.map_nil, eX, ↓reduceIte, Nat.reduceEqDiff, Int.reduceToNat]
      refine Lt_buildSlice (vs := [_]) Try.underlying33 sz5 zr5 rfl bsA (by first | decide | (simp; done)) ?_
      simp only [List.flatMap_cons, List.flatMap_nil, Value.cells, List.append_nil, List.cons_append, List.nil_append, List.length_cons, List.length_nil, Nat.zero_add, Nat.reduceAdd]
      intro b18 hb18
      have f18_H : H b18 = none := none_of_le lhA hb18
      try simp only [eX, ↓reduceIte, Nat.reduceEqDiff, Int.reduceToNat]
      refine hK _ _ ?_; clear hK K
      refine OW_opS (fun K hK r => ?_)
      simp only [x_builtin, l_append, List.map_toArray, List.map_cons, List.map_nil, eX, ↓reduceIte, Nat.reduceEqDiff, Int.reduceToNat]
      refine Lt_append1 Try.underlying33 sz5 by5 (by decide) zr5 rfl _ (n := a.length) (hox.make hb18) hbA rfl (by omega) ?_
      intro v19 H19 rs19 hg19 ho19 hr19
      have lH19_H : Le H H19 := hg19.le (H0 := H) lhA (fun r hr => hrs r hr)
      refine hK _ _ ?_; clear hK K
      refine OW_as rfl ?_
      refine OW_nil ?_
      try simp only [Ex.thnH, Ex.inBlockH, ↓reduceIte, Nat.reduceEqDiff]
      refine hK7 _ _ ?_; try clear hK7 K7
      refine CW_ret ?_
      try simp only [Ex.thnH, Ex.inBlockH, ↓reduceIte, Nat.reduceEqDiff]
      refine ⟨[_], ⟨rfl, trivial⟩, _, Le.refl _, lH19_H, rs19, ?_, ?_⟩
      · rw [hc, cnt_lt c5, List.length_append, u8s, List.map_append]; exact ho19
      · intro r hr
        rcases hr19 r hr with h | h
        · exact hrs r h
        · exact none_of_le lhA h

set_option maxRecDepth 100000 in
set_option maxHeartbeats 1000000 in
theorem folded_ok (H : Hp) (n : Int) (h1 : -9223372036854775808 ≤ n) (h2 : n ≤ 9223372036854775807) : CallH Try.prog 56 #[.int .i64 n] H (fun v H' => v = .int .u64 (zig n) ∧ H' = H) := by
  refine CallH_enter (l := [_]) (rl := [.tmp 2]) (n := 14) Try.func56 rfl rfl rfl rfl rfl ?_
  simp only [envOf, Nat.reduceAdd]
  refine CW_seq (fun K1 hK1 => ?_)
  refine CW_region ?_
  refine OW_as rfl ?_
  refine OW_nil ?_
  try simp only [Ex.thnH, Ex.inBlockH, ↓reduceIte, Nat.reduceEqDiff]
  refine hK1 _ _ ?_; try clear hK1 K1
  refine CW_seq (fun K2 hK2 => ?_)
  refine CW_seq (fun K3 hK3 => ?_)
  refine CW_region ?_
  refine OW_mv rfl ?_
  refine OW_opS (fun K hK r => ?_)
  simp (disch := (first | omega | decide)) only [x_bin, g_int, b_lss, dec_lt_t, dec_lt_f, dec_le_t, dec_le_f, dec_eq_t, dec_eq_f, Bool.not_true, Bool.not_false, eX, ↓reduceIte, Nat.reduceEqDiff, Int.reduceToNat]
  refine hK _ _ ?_; clear hK K
  refine OW_nil ?_
  try simp only [Ex.thnH, Ex.inBlockH, ↓reduceIte, Nat.reduceEqDiff]
  refine hK3 _ _ ?_; try clear hK3 K3
  refine CW_cond (fun r => rfl) (fun c4 => ?_) (fun c4 => ?_)
  · first
    | (exfalso; exact cnA c4; done)
    | skip
      (try simp only [decide_eq_true_eq, decide_eq_false_iff_not, Bool.not_eq_true, Bool.not_eq_false, Bool.and_eq_true, Bool.or_eq_true, Bool.or_eq_false_iff, Bool.not_eq_true, Bool.not_eq_eq_eq_not, Bool.not_true, Bool.not_false] at c4)
      refine CW_seq (fun K4 hK4 => ?_)
      refine CW_region ?_
      refine OW_mv rfl ?_
      refine OW_opS (fun K hK r => ?_)
      simp (disch := (first | omega | decide)) only [x_bin, g_int, b_add, wrap_i64, wrap_u64, wrap_u32, wrap_u8, eX, ↓reduceIte, Nat.reduceEqDiff, Int.reduceToNat]
      refine hK _ _ ?_; clear hK K
      refine OW_opS (fun K hK r => ?_)
      simp (disch := (first | omega | decide)) only [x_un, u_neg, wrap_i64, wrap_u64, wrap_u32, wrap_u8, eX, ↓reduceIte, Nat.reduceEqDiff, Int.reduceToNat]
      refine hK _ _ ?_; clear hK K
      refine OW_opS (fun K hK r => ?_)
      simp (disch := (first | omega | decide)) only [x_convert, c_int _ _ _ _ Try.underlying3 Try.underlying60, wrap_i64, wrap_u64, wrap_u32, wrap_u8, eX, ↓reduceIte, Nat.reduceEqDiff, Int.reduceToNat]
      refine hK _ _ ?_; clear hK K
      refine OW_opS (fun K hK r => ?_)
      simp (disch := (first | omega | decide)) only [x_bin, g_int, b_mul, wrap_i64, wrap_u64, wrap_u32, wrap_u8, eX, ↓reduceIte, Nat.reduceEqDiff, Int.reduceToNat]
      refine hK _ _ ?_; clear hK K
      refine OW_opS (fun K hK r => ?_)
      simp (disch := (first | omega | decide)) only [x_bin, g_int, b_add, wrap_i64, wrap_u64, wrap_u32, wrap_u8, eX, ↓reduceIte, Nat.reduceEqDiff, Int.reduceToNat]
      refine hK _ _ ?_; clear hK K
      refine OW_as rfl ?_
      refine OW_nil ?_
      try simp only [Ex.thnH, Ex.inBlockH, ↓reduceIte, Nat.reduceEqDiff]
      refine hK4 _ _ ?_; try clear hK4 K4
      refine CW_ret ?_
      try simp only [Ex.thnH, Ex.inBlockH, ↓reduceIte, Nat.reduceEqDiff]
      refine ⟨[_], ⟨rfl, trivial⟩, _, Le.refl _, ?_, rfl⟩
      show Value.int _ _ = _
      refine congrArg _ ?_
      unfold zig
      rw [if_pos (by assumption)]; omega
  · first
    | (exfalso; exact cnA c4; done)
    | skip
      (try simp only [decide_eq_true_eq, decide_eq_false_iff_not, Bool.not_eq_true, Bool.not_eq_false, Bool.and_eq_true, Bool.or_eq_true, Bool.or_eq_false_iff, Bool.not_eq_true, Bool.not_eq_eq_eq_not, Bool.not_true, Bool.not_false] at c4)
      refine CW_skip ?_
      try simp only [Ex.thnH, Ex.inBlockH, ↓reduceIte, Nat.reduceEqDiff]
      refine hK2 _ _ ?_; try clear hK2 K2
      refine CW_seq (fun K5 hK5 => ?_)
      refine CW_region ?_
      refine OW_mv rfl ?_
      refine OW_opS (fun K hK r => ?_)
      simp (disch := (first | omega | decide)) only [x_convert, c_int _ _ _ _ Try.underlying3 Try.underlying60, wrap_i64, wrap_u64, wrap_u32, wrap_u8, eX, ↓reduceIte, Nat.reduceEqDiff, Int.reduceToNat]
      refine hK _ _ ?_; clear hK K
      refine OW_opS (fun K hK r => ?_)
      simp (disch := (first | omega | decide)) only [x_bin, g_int, b_mul, wrap_i64, wrap_u64, wrap_u32, wrap_u8, eX, ↓reduceIte, Nat.reduceEqDiff, Int.reduceToNat]
      refine hK _ _ ?_; clear hK K
      refine OW_as rfl ?_
      refine OW_nil ?_
      try simp only [Ex.thnH, Ex.inBlockH, ↓reduceIte, Nat.reduceEqDiff]
      refine hK5 _ _ ?_; try clear hK5 K5
      refine CW_ret ?_
      try simp only [Ex.thnH, Ex.inBlockH, ↓reduceIte, Nat.reduceEqDiff]
      refine ⟨[_], ⟨rfl, trivial⟩, _, Le.refl _, ?_, rfl⟩
      show Value.int _ _ = _
      refine congrArg _ ?_
      unfold zig
      rw [if_neg (by assumption)]; omega

set_option maxRecDepth 100000 in
set_option maxHeartbeats 1000000 in
theorem rfNum_ok (H : Hp) (n : Int) (h1 : -9223372036854775808 ≤ n) (h2 : n ≤ 9223372036854775807) : CallH Try.prog 40 #[.int .i64 n] H (fun v' H' => Le H H' ∧ ∃ rs, OwnS H' 5 1 v' (cnt (zig n)).length (u8s (cnt (zig n))) rs ∧ ∀ r, rs = some r → H r = none) := by
  refine CallH_enter (l := [_]) (rl := [.tmp 2]) (n := 6) Try.func40 rfl rfl rfl rfl rfl ?_
  simp only [envOf, Nat.reduceAdd]
  refine CW_seq (fun K1 hK1 => ?_)
  refine CW_region ?_
  refine OW_as rfl ?_
  refine OW_nil ?_
  try simp only [Ex.thnH, Ex.inBlockH, ↓reduceIte, Nat.reduceEqDiff]
  refine hK1 _ _ ?_; try clear hK1 K1
  refine CW_seq (fun K2 hK2 => ?_)
  refine CW_region ?_
  refine OW_mv rfl ?_
  refine OW_opS (fun K hK r => ?_)
  simp only [x_callF _ bd56, List.map_toArray, List.map_cons, List.map_nil, eX, ↓reduceIte, Nat.reduceEqDiff, Int.reduceToNat]
  refine (folded_ok _ n h1 h2).mono ?_
  rintro v4 H4 ⟨rfl, hH4⟩
  have hH4 := hH4.symm; subst hH4
  try simp only [eX, ↓reduceIte, Nat.reduceEqDiff, Int.reduceToNat]
  refine hK _ _ ?_; clear hK K
  refine OW_opS (fun K hK r => ?_)
  simp only [x_callF _ bd39, List.map_toArray, List.map_cons, List.map_nil, eX, ↓reduceIte, Nat.reduceEqDiff, Int.reduceToNat]
  refine (rfCount_ok _ (zig n) (zig_lt h1 h2)).mono ?_
  rintro v5 H5 ⟨hl5, rs5, ho5, hr5⟩
  try simp only [eX, ↓reduceIte, Nat.reduceEqDiff, Int.reduceToNat]
  refine hK _ _ ?_; clear hK K
  refine OW_as rfl ?_
  refine OW_nil ?_
  try simp only [Ex.thnH, Ex.inBlockH, ↓reduceIte, Nat.reduceEqDiff]
  refine hK2 _ _ ?_; try clear hK2 K2
  refine CW_ret ?_
  try simp only [Ex.thnH, Ex.inBlockH, ↓reduceIte, Nat.reduceEqDiff]
  exact ⟨[_], ⟨rfl, trivial⟩, _, Le.refl _, hl5, rs5, ho5, hr5⟩

end Go.Proofs.Ytlkopcgoaldpeaa.HL
