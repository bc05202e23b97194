/- A part of the proof. -/
import Derived.Test.YtlkopcgoaldpeaaP10
import Derived.Test.YtlkopcgoaldpeaaP11
import Derived.Test.YtlkopcgoaldpeaaMdPr3
namespace Go.Proofs.Ytlkopcgoaldpeaa.HL
open Go Go.Proofs
set_option linter.unusedSimpArgs false
set_option linter.unusedVariables false
attribute [local irreducible] Lt Lq CW OW TW CallH

set_option maxRecDepth 100000 in
set_option maxHeartbeats 1000000 in
theorem uses_ok (H : Hp) (L : List Int) (l : Int) (hB : ByteL L) (hn : L.length ≤ 100) : CallH Try.prog 52 #[.string (strOf L), .int .u8 l] H (fun v H' => v = .bool (decide (l ∈ L)) ∧ H' = H) := by
  refine CallH_enter (l := [_, _]) (rl := [.tmp 4]) (n := 17) Try.func52 rfl rfl rfl rfl rfl ?_
  simp only [envOf, Nat.reduceAdd]
  refine CW_seq (fun K1 hK1 => ?_)
  refine CW_region ?_
  refine OW_as rfl ?_
  refine OW_nil ?_
  try simp only [Ex.thnH, Ex.inBlockH, ↓reduceIte, Nat.reduceEqDiff]
  refine hK1 _ _ ?_; try clear hK1 K1
  refine CW_seq (fun K2 hK2 => ?_)
  refine CW_seq (fun K3 hK3 => ?_)
  refine CW_region ?_
  refine OW_as rfl ?_
  refine OW_nil ?_
  try simp only [Ex.thnH, Ex.inBlockH, ↓reduceIte, Nat.reduceEqDiff]
  refine hK3 _ _ ?_; try clear hK3 K3
  refine CW_block ?_
  refine CW_loop (fun m e H_ => ∃ k : Nat, k ≤ L.length ∧ m = L.length - k ∧ l ∉ L.take k ∧ Env.has [(0, .string (strOf L)), (1, .int .u8 l), (5, .int .i64 k)] e ∧ H_ = H) (L.length) ?_ ?_
  · skip
    exact ⟨0, by omega, by omega, by simp, ⟨rfl, rfl, rfl, trivial⟩, rfl⟩
  intro m_ e_ H_ hI_
  obtain ⟨k, hk, rfl, hno, he, hH_⟩ := hI_
  have hH_ := hH_.symm; subst hH_
  refine CW_env he.sub ?_; clear he e_
  refine CW_seq (fun K4 hK4 => ?_)
  refine CW_seq (fun K5 hK5 => ?_)
  refine CW_region ?_
  refine OW_mv rfl ?_
  refine OW_mv rfl ?_
  refine OW_opS (fun K hK r => ?_)
  simp only [x_builtin, l_len, List.map_toArray, List.map_cons, List.map_nil, i_len_string _ Try.underlying9, eX, ↓reduceIte, Nat.reduceEqDiff, Int.reduceToNat]
  try simp only [strOf_size]
  refine hK _ _ ?_; clear hK K
  refine OW_opS (fun K hK r => ?_)
  simp (disch := (first | omega | decide)) only [x_bin, g_int, b_lss, dec_lt_t, dec_lt_f, dec_le_t, dec_le_f, dec_eq_t, dec_eq_f, Bool.not_true, Bool.not_false, eX, ↓reduceIte, Nat.reduceEqDiff, Int.reduceToNat]
  refine hK _ _ ?_; clear hK K
  refine OW_nil ?_
  try simp only [Ex.thnH, Ex.inBlockH, ↓reduceIte, Nat.reduceEqDiff]
  refine hK5 _ _ ?_; try clear hK5 K5
  refine CW_cond (fun r => rfl) (fun c9 => ?_) (fun c9 => ?_)
  · first
    | (exfalso; exact cnA c9; done)
    | skip
      (try simp only [decide_eq_true_eq, decide_eq_false_iff_not, Bool.not_eq_true, Bool.not_eq_false, Bool.and_eq_true, Bool.or_eq_true, Bool.or_eq_false_iff, Bool.not_eq_true, Bool.not_eq_eq_eq_not, Bool.not_true, Bool.not_false] at c9)
      refine CW_skip ?_
      try simp only [Ex.thnH, Ex.inBlockH, ↓reduceIte, Nat.reduceEqDiff]
      refine hK4 _ _ ?_; try clear hK4 K4
      refine CW_seq (fun K6 hK6 => ?_)
      refine CW_block ?_
      refine CW_seq (fun K7 hK7 => ?_)
      refine CW_region ?_
      refine OW_mv rfl ?_
      refine OW_mv rfl ?_
      refine OW_opS (fun K hK r => ?_)
      simp only [x_index, eX, ↓reduceIte, Nat.reduceEqDiff, Int.reduceToNat]
      refine Lt_letter Try.underlying9 hB (by omega) ?_
      refine hK _ _ ?_; clear hK K
      refine OW_mv rfl ?_
      refine OW_opS (fun K hK r => ?_)
      simp (disch := (first | omega | decide)) only [x_bin, g_int, b_eql, dec_lt_t, dec_lt_f, dec_le_t, dec_le_f, dec_eq_t, dec_eq_f, Bool.not_true, Bool.not_false, eX, ↓reduceIte, Nat.reduceEqDiff, Int.reduceToNat]
      refine hK _ _ ?_; clear hK K
      refine OW_nil ?_
      try simp only [Ex.thnH, Ex.inBlockH, ↓reduceIte, Nat.reduceEqDiff]
      refine hK7 _ _ ?_; try clear hK7 K7
      refine CW_cond (fun r => rfl) (fun c16 => ?_) (fun c16 => ?_)
      · first
        | (exfalso; exact cnA c16; done)
        | skip
          (try simp only [decide_eq_true_eq, decide_eq_false_iff_not, Bool.not_eq_true, Bool.not_eq_false, Bool.and_eq_true, Bool.or_eq_true, Bool.or_eq_false_iff, Bool.not_eq_true, Bool.not_eq_eq_eq_not, Bool.not_true, Bool.not_false] at c16)
          refine CW_seq (fun K8 hK8 => ?_)
          refine CW_region ?_
          refine OW_as rfl ?_
          refine OW_nil ?_
          try simp only [Ex.thnH, Ex.inBlockH, ↓reduceIte, Nat.reduceEqDiff]
          refine hK8 _ _ ?_; try clear hK8 K8
          refine CW_ret ?_
          try simp only [Ex.thnH, Ex.inBlockH, ↓reduceIte, Nat.reduceEqDiff]
          refine ⟨[_], ⟨rfl, trivial⟩, _, Le.refl _, ?_, rfl⟩
          show Value.bool _ = _
          rw [decide_eq_true (mem_of_getD (k := k) (by omega) (by first | assumption | simp_all))]
      · first
        | (exfalso; exact cnA c16; done)
        | skip
          (try simp only [decide_eq_true_eq, decide_eq_false_iff_not, Bool.not_eq_true, Bool.not_eq_false, Bool.and_eq_true, Bool.or_eq_true, Bool.or_eq_false_iff, Bool.not_eq_true, Bool.not_eq_eq_eq_not, Bool.not_true, Bool.not_false] at c16)
          refine CW_skip ?_
          try simp only [Ex.thnH, Ex.inBlockH, ↓reduceIte, Nat.reduceEqDiff]
          refine hK6 _ _ ?_; try clear hK6 K6
          refine CW_region ?_
          refine OW_mv rfl ?_
          refine OW_opS (fun K hK r => ?_)
          simp (disch := (first | omega | decide)) only [x_bin, g_int, b_add, wrap_i64, wrap_u64, wrap_u32, wrap_u8, eX, ↓reduceIte, Nat.reduceEqDiff, Int.reduceToNat]
          refine hK _ _ ?_; clear hK K
          refine OW_as rfl ?_
          refine OW_nil ?_
          try simp only [Ex.thnH, Ex.inBlockH, ↓reduceIte, Nat.reduceEqDiff]
          exact ⟨L.length - (k + 1), by omega, k + 1, by omega, rfl, no_step (by omega) hno (by first | assumption | simp_all), ⟨rfl, rfl, rfl, trivial⟩, rfA⟩
  · first
    | (exfalso; exact cnA c9; done)
    | skip
      (try simp only [decide_eq_true_eq, decide_eq_false_iff_not, Bool.not_eq_true, Bool.not_eq_false, Bool.and_eq_true, Bool.or_eq_true, Bool.or_eq_false_iff, Bool.not_eq_true, Bool.not_eq_eq_eq_not, Bool.not_true, Bool.not_false] at c9)
      refine CW_exit ?_
      try simp only [Ex.thnH, Ex.inBlockH, ↓reduceIte, Nat.reduceEqDiff]
      refine hK2 _ _ ?_; try clear hK2 K2
      refine CW_seq (fun K9 hK9 => ?_)
      refine CW_region ?_
      refine OW_as rfl ?_
      refine OW_nil ?_
      try simp only [Ex.thnH, Ex.inBlockH, ↓reduceIte, Nat.reduceEqDiff]
      refine hK9 _ _ ?_; try clear hK9 K9
      refine CW_ret ?_
      try simp only [Ex.thnH, Ex.inBlockH, ↓reduceIte, Nat.reduceEqDiff]
      refine ⟨[_], ⟨rfl, trivial⟩, _, Le.refl _, ?_, rfl⟩
      show Value.bool _ = _
      have ek : k = L.length := by omega
      subst ek
      rw [List.take_length] at hno
      rw [decide_eq_false hno]


theorem uses_op (H : Hp) (op l : Int) : CallH Try.prog 52 #[.string (strOf (shp op)), .int .u8 l] H (fun v H' => v = .bool (usesB op l) ∧ H' = H) :=
  uses_ok H (shp op) l (shp_bytes op) (by have := shp_len op; omega)

set_option maxRecDepth 100000 in
set_option maxHeartbeats 1000000 in
theorem register_t (H : Hp) (n : Int) : CallH Try.prog 51 #[.bool true, .int .i64 n] H (fun v H' => v = .bool (regB true n) ∧ H' = H) := by
  refine CallH_enter (l := [_, _]) (rl := [.tmp 4]) (n := 22) Try.func51 rfl rfl rfl rfl rfl ?_
  simp only [envOf, Nat.reduceAdd]
  refine CW_seq (fun K1 hK1 => ?_)
  refine CW_region ?_
  refine OW_as rfl ?_
  refine OW_nil ?_
  try simp only [Ex.thnH, Ex.inBlockH, ↓reduceIte, Nat.reduceEqDiff]
  refine hK1 _ _ ?_; try clear hK1 K1
  refine CW_seq (fun K2 hK2 => ?_)
  refine CW_region ?_
  refine OW_mv rfl ?_
  refine OW_mv rfl ?_
  (first | refine OW_split (d := 6) rfl (fun g6 => ?_) (fun g6 => ?_) | skip)
  all_goals try (exfalso; exact cnA g6)
  all_goals (try simp only [decide_eq_true_eq, decide_eq_false_iff_not, Bool.not_eq_true, Bool.not_eq_false, Bool.and_eq_true, Bool.or_eq_true, Bool.or_eq_false_iff, Bool.not_eq_true, Bool.not_eq_eq_eq_not, Bool.not_true, Bool.not_false] at g6)
  all_goals
    try simp only [eX, ↓reduceIte, Nat.reduceEqDiff, Int.reduceToNat]
    first
    | refine OW_guardT rfl (lt_some (by decide)) rfl (fun K hK r => ?_)
      simp only [x_move, eX, ↓reduceIte, Nat.reduceEqDiff, Int.reduceToNat]
      refine hK _ _ ?_; clear hK K
    | refine OW_guardF rfl (lt_some (by decide)) rfl ?_
      simp only [eX, ↓reduceIte, Nat.reduceEqDiff, Int.reduceToNat]
    first
    | refine OW_guardT rfl (lt_some (by decide)) rfl (fun K hK r => ?_)
      simp (disch := (first | omega | decide)) only [x_bin, g_int, b_geq, dec_lt_t, dec_lt_f, dec_le_t, dec_le_f, dec_eq_t, dec_eq_f, Bool.not_true, Bool.not_false, eX, ↓reduceIte, Nat.reduceEqDiff, Int.reduceToNat]
      refine hK _ _ ?_; clear hK K
    | refine OW_guardF rfl (lt_some (by decide)) rfl ?_
      simp only [eX, ↓reduceIte, Nat.reduceEqDiff, Int.reduceToNat]
    refine OW_opS (fun K hK r => ?_)
    simp only [x_pick, l_asBool, HL.ite_bool, if_true, if_false, Bool.false_eq_true, eX, ↓reduceIte, Nat.reduceEqDiff, Int.reduceToNat]
    refine hK _ _ ?_; clear hK K
    refine OW_mv rfl ?_
    (first | refine OW_split (d := 10) rfl (fun g10 => ?_) (fun g10 => ?_) | skip)
    all_goals try (exfalso; exact cnA g10)
    all_goals (try simp only [decide_eq_true_eq, decide_eq_false_iff_not, Bool.not_eq_true, Bool.not_eq_false, Bool.and_eq_true, Bool.or_eq_true, Bool.or_eq_false_iff, Bool.not_eq_true, Bool.not_eq_eq_eq_not, Bool.not_true, Bool.not_false] at g10)
    all_goals
      try simp only [eX, ↓reduceIte, Nat.reduceEqDiff, Int.reduceToNat]
      first
      | refine OW_guardT rfl (lt_some (by decide)) rfl (fun K hK r => ?_)
        simp only [x_move, eX, ↓reduceIte, Nat.reduceEqDiff, Int.reduceToNat]
        refine hK _ _ ?_; clear hK K
      | refine OW_guardF rfl (lt_some (by decide)) rfl ?_
        simp only [eX, ↓reduceIte, Nat.reduceEqDiff, Int.reduceToNat]
      first
      | refine OW_guardT rfl (lt_some (by decide)) rfl (fun K hK r => ?_)
        simp (disch := (first | omega | decide)) only [x_bin, g_int, b_leq, dec_lt_t, dec_lt_f, dec_le_t, dec_le_f, dec_eq_t, dec_eq_f, Bool.not_true, Bool.not_false, eX, ↓reduceIte, Nat.reduceEqDiff, Int.reduceToNat]
        refine hK _ _ ?_; clear hK K
      | refine OW_guardF rfl (lt_some (by decide)) rfl ?_
        simp only [eX, ↓reduceIte, Nat.reduceEqDiff, Int.reduceToNat]
      refine OW_opS (fun K hK r => ?_)
      simp only [x_pick, l_asBool, HL.ite_bool, if_true, if_false, Bool.false_eq_true, eX, ↓reduceIte, Nat.reduceEqDiff, Int.reduceToNat]
      refine hK _ _ ?_; clear hK K
      refine OW_mv rfl ?_
      (first | refine OW_split (d := 14) rfl (fun g14 => ?_) (fun g14 => ?_) | skip)
      all_goals try (exfalso; exact cnA g14)
      all_goals (try simp only [decide_eq_true_eq, decide_eq_false_iff_not, Bool.not_eq_true, Bool.not_eq_false, Bool.and_eq_true, Bool.or_eq_true, Bool.or_eq_false_iff, Bool.not_eq_true, Bool.not_eq_eq_eq_not, Bool.not_true, Bool.not_false] at g14)
      all_goals
        try simp only [eX, ↓reduceIte, Nat.reduceEqDiff, Int.reduceToNat]
        first
        | refine OW_guardT rfl (lt_some (by decide)) rfl (fun K hK r => ?_)
          simp only [x_move, eX, ↓reduceIte, Nat.reduceEqDiff, Int.reduceToNat]
          refine hK _ _ ?_; clear hK K
        | refine OW_guardF rfl (lt_some (by decide)) rfl ?_
          simp only [eX, ↓reduceIte, Nat.reduceEqDiff, Int.reduceToNat]
        first
        | refine OW_guardT rfl (lt_some (by decide)) rfl (fun K hK r => ?_)
          simp only [x_un, u_not, eX, ↓reduceIte, Nat.reduceEqDiff, Int.reduceToNat]
          refine hK _ _ ?_; clear hK K
        | refine OW_guardF rfl (lt_some (by decide)) rfl ?_
          simp only [eX, ↓reduceIte, Nat.reduceEqDiff, Int.reduceToNat]
        first
        | refine OW_guardT rfl (lt_some (by decide)) rfl (fun K hK r => ?_)
          simp only [x_move, eX, ↓reduceIte, Nat.reduceEqDiff, Int.reduceToNat]
          refine hK _ _ ?_; clear hK K
        | refine OW_guardF rfl (lt_some (by decide)) rfl ?_
          simp only [eX, ↓reduceIte, Nat.reduceEqDiff, Int.reduceToNat]
        (first | refine OW_split (d := 17) rfl (fun g17 => ?_) (fun g17 => ?_) | skip)
        all_goals try (exfalso; exact cnA g17)
        all_goals (try simp only [decide_eq_true_eq, decide_eq_false_iff_not, Bool.not_eq_true, Bool.not_eq_false, Bool.and_eq_true, Bool.or_eq_true, Bool.or_eq_false_iff, Bool.not_eq_true, Bool.not_eq_eq_eq_not, Bool.not_true, Bool.not_false] at g17)
        all_goals
          try simp only [eX, ↓reduceIte, Nat.reduceEqDiff, Int.reduceToNat]
          first
          | refine OW_guardT rfl (lt_some (by decide)) rfl (fun K hK r => ?_)
            simp only [x_move, eX, ↓reduceIte, Nat.reduceEqDiff, Int.reduceToNat]
            refine hK _ _ ?_; clear hK K
          | refine OW_guardF rfl (lt_some (by decide)) rfl ?_
            simp only [eX, ↓reduceIte, Nat.reduceEqDiff, Int.reduceToNat]
          first
          | refine OW_guardT rfl (lt_some (by decide)) rfl (fun K hK r => ?_)
            simp (disch := (first | omega | decide)) only [x_bin, g_int, b_eql, dec_lt_t, dec_lt_f, dec_le_t, dec_le_f, dec_eq_t, dec_eq_f, Bool.not_true, Bool.not_false, eX, ↓reduceIte, Nat.reduceEqDiff, Int.reduceToNat]
            refine hK _ _ ?_; clear hK K
          | refine OW_guardF rfl (lt_some (by decide)) rfl ?_
            simp only [eX, ↓reduceIte, Nat.reduceEqDiff, Int.reduceToNat]
          first
          | refine OW_guardT rfl (lt_some (by decide)) rfl (fun K hK r => ?_)
            simp only [x_pick, l_asBool, HL.ite_bool, if_true, if_false, Bool.false_eq_true, eX, ↓reduceIte, Nat.reduceEqDiff, Int.reduceToNat]
            refine hK _ _ ?_; clear hK K
          | refine OW_guardF rfl (lt_some (by decide)) rfl ?_
            simp only [eX, ↓reduceIte, Nat.reduceEqDiff, Int.reduceToNat]
          refine OW_opS (fun K hK r => ?_)
          simp only [x_pick, l_asBool, HL.ite_bool, if_true, if_false, Bool.false_eq_true, eX, ↓reduceIte, Nat.reduceEqDiff, Int.reduceToNat]
          refine hK _ _ ?_; clear hK K
          refine OW_as rfl ?_
          refine OW_nil ?_
          try simp only [Ex.thnH, Ex.inBlockH, ↓reduceIte, Nat.reduceEqDiff]
          refine hK2 _ _ ?_; try clear hK2 K2
          refine CW_ret ?_
          try simp only [Ex.thnH, Ex.inBlockH, ↓reduceIte, Nat.reduceEqDiff]
          refine ⟨[_], ⟨rfl, trivial⟩, _, Le.refl _, ?_, rfl⟩
          show Value.bool _ = _
          refine congrArg Value.bool ?_
          unfold regB
          first | (simp_all; done) | (simp_all; omega) | (simp_all <;> omega)

set_option maxRecDepth 100000 in
set_option maxHeartbeats 1000000 in
theorem register_f (H : Hp) (n : Int) : CallH Try.prog 51 #[.bool false, .int .i64 n] H (fun v H' => v = .bool (regB false n) ∧ H' = H) := by
  refine CallH_enter (l := [_, _]) (rl := [.tmp 4]) (n := 22) Try.func51 rfl rfl rfl rfl rfl ?_
  simp only [envOf, Nat.reduceAdd]
  refine CW_seq (fun K1 hK1 => ?_)
  refine CW_region ?_
  refine OW_as rfl ?_
  refine OW_nil ?_
  try simp only [Ex.thnH, Ex.inBlockH, ↓reduceIte, Nat.reduceEqDiff]
  refine hK1 _ _ ?_; try clear hK1 K1
  refine CW_seq (fun K2 hK2 => ?_)
  refine CW_region ?_
  refine OW_mv rfl ?_
  refine OW_mv rfl ?_
  (first | refine OW_split (d := 6) rfl (fun g6 => ?_) (fun g6 => ?_) | skip)
  all_goals try (exfalso; exact cnA g6)
  all_goals (try simp only [decide_eq_true_eq, decide_eq_false_iff_not, Bool.not_eq_true, Bool.not_eq_false, Bool.and_eq_true, Bool.or_eq_true, Bool.or_eq_false_iff, Bool.not_eq_true, Bool.not_eq_eq_eq_not, Bool.not_true, Bool.not_false] at g6)
  all_goals
    try simp only [eX, ↓reduceIte, Nat.reduceEqDiff, Int.reduceToNat]
    first
    | refine OW_guardT rfl (lt_some (by decide)) rfl (fun K hK r => ?_)
      simp only [x_move, eX, ↓reduceIte, Nat.reduceEqDiff, Int.reduceToNat]
      refine hK _ _ ?_; clear hK K
    | refine OW_guardF rfl (lt_some (by decide)) rfl ?_
      simp only [eX, ↓reduceIte, Nat.reduceEqDiff, Int.reduceToNat]
    first
    | refine OW_guardT rfl (lt_some (by decide)) rfl (fun K hK r => ?_)
      simp (disch := (first | omega | decide)) only [x_bin, g_int, b_geq, dec_lt_t, dec_lt_f, dec_le_t, dec_le_f, dec_eq_t, dec_eq_f, Bool.not_true, Bool.not_false, eX, ↓reduceIte, Nat.reduceEqDiff, Int.reduceToNat]
      refine hK _ _ ?_; clear hK K
    | refine OW_guardF rfl (lt_some (by decide)) rfl ?_
      simp only [eX, ↓reduceIte, Nat.reduceEqDiff, Int.reduceToNat]
    refine OW_opS (fun K hK r => ?_)
    simp only [x_pick, l_asBool, HL.ite_bool, if_true, if_false, Bool.false_eq_true, eX, ↓reduceIte, Nat.reduceEqDiff, Int.reduceToNat]
    refine hK _ _ ?_; clear hK K
    refine OW_mv rfl ?_
    (first | refine OW_split (d := 10) rfl (fun g10 => ?_) (fun g10 => ?_) | skip)
    all_goals try (exfalso; exact cnA g10)
    all_goals (try simp only [decide_eq_true_eq, decide_eq_false_iff_not, Bool.not_eq_true, Bool.not_eq_false, Bool.and_eq_true, Bool.or_eq_true, Bool.or_eq_false_iff, Bool.not_eq_true, Bool.not_eq_eq_eq_not, Bool.not_true, Bool.not_false] at g10)
    all_goals
      try simp only [eX, ↓reduceIte, Nat.reduceEqDiff, Int.reduceToNat]
      first
      | refine OW_guardT rfl (lt_some (by decide)) rfl (fun K hK r => ?_)
        simp only [x_move, eX, ↓reduceIte, Nat.reduceEqDiff, Int.reduceToNat]
        refine hK _ _ ?_; clear hK K
      | refine OW_guardF rfl (lt_some (by decide)) rfl ?_
        simp only [eX, ↓reduceIte, Nat.reduceEqDiff, Int.reduceToNat]
      first
      | refine OW_guardT rfl (lt_some (by decide)) rfl (fun K hK r => ?_)
        simp (disch := (first | omega | decide)) only [x_bin, g_int, b_leq, dec_lt_t, dec_lt_f, dec_le_t, dec_le_f, dec_eq_t, dec_eq_f, Bool.not_true, Bool.not_false, eX, ↓reduceIte, Nat.reduceEqDiff, Int.reduceToNat]
        refine hK _ _ ?_; clear hK K
      | refine OW_guardF rfl (lt_some (by decide)) rfl ?_
        simp only [eX, ↓reduceIte, Nat.reduceEqDiff, Int.reduceToNat]
      refine OW_opS (fun K hK r => ?_)
      simp only [x_pick, l_asBool, HL.ite_bool, if_true, if_false, Bool.false_eq_true, eX, ↓reduceIte, Nat.reduceEqDiff, Int.reduceToNat]
      refine hK _ _ ?_; clear hK K
      refine OW_mv rfl ?_
      (first | refine OW_split (d := 14) rfl (fun g14 => ?_) (fun g14 => ?_) | skip)
      all_goals try (exfalso; exact cnA g14)
      all_goals (try simp only [decide_eq_true_eq, decide_eq_false_iff_not, Bool.not_eq_true, Bool.not_eq_false, Bool.and_eq_true, Bool.or_eq_true, Bool.or_eq_false_iff, Bool.not_eq_true, Bool.not_eq_eq_eq_not, Bool.not_true, Bool.not_false] at g14)
      all_goals
        try simp only [eX, ↓reduceIte, Nat.reduceEqDiff, Int.reduceToNat]
        first
        | refine OW_guardT rfl (lt_some (by decide)) rfl (fun K hK r => ?_)
          simp only [x_move, eX, ↓reduceIte, Nat.reduceEqDiff, Int.reduceToNat]
          refine hK _ _ ?_; clear hK K
        | refine OW_guardF rfl (lt_some (by decide)) rfl ?_
          simp only [eX, ↓reduceIte, Nat.reduceEqDiff, Int.reduceToNat]
        first
        | refine OW_guardT rfl (lt_some (by decide)) rfl (fun K hK r => ?_)
          simp only [x_un, u_not, eX, ↓reduceIte, Nat.reduceEqDiff, Int.reduceToNat]
          refine hK _ _ ?_; clear hK K
        | refine OW_guardF rfl (lt_some (by decide)) rfl ?_
          simp only [eX, ↓reduceIte, Nat.reduceEqDiff, Int.reduceToNat]
        first
        | refine OW_guardT rfl (lt_some (by decide)) rfl (fun K hK r => ?_)
          simp only [x_move, eX, ↓reduceIte, Nat.reduceEqDiff, Int.reduceToNat]
          refine hK _ _ ?_; clear hK K
        | refine OW_guardF rfl (lt_some (by decide)) rfl ?_
          simp only [eX, ↓reduceIte, Nat.reduceEqDiff, Int.reduceToNat]
        (first | refine OW_split (d := 17) rfl (fun g17 => ?_) (fun g17 => ?_) | skip)
        all_goals try (exfalso; exact cnA g17)
        all_goals (try simp only [decide_eq_true_eq, decide_eq_false_iff_not, Bool.not_eq_true, Bool.not_eq_false, Bool.and_eq_true, Bool.or_eq_true, Bool.or_eq_false_iff, Bool.not_eq_true, Bool.not_eq_eq_eq_not, Bool.not_true, Bool.not_false] at g17)
        all_goals
          try simp only [eX, ↓reduceIte, Nat.reduceEqDiff, Int.reduceToNat]
          first
          | refine OW_guardT rfl (lt_some (by decide)) rfl (fun K hK r => ?_)
            simp only [x_move, eX, ↓reduceIte, Nat.reduceEqDiff, Int.reduceToNat]
            refine hK _ _ ?_; clear hK K
          | refine OW_guardF rfl (lt_some (by decide)) rfl ?_
            simp only [eX, ↓reduceIte, Nat.reduceEqDiff, Int.reduceToNat]
          first
          | refine OW_guardT rfl (lt_some (by decide)) rfl (fun K hK r => ?_)
            simp (disch := (first | omega | decide)) only [x_bin, g_int, b_eql, dec_lt_t, dec_lt_f, dec_le_t, dec_le_f, dec_eq_t, dec_eq_f, Bool.not_true, Bool.not_false, eX, ↓reduceIte, Nat.reduceEqDiff, Int.reduceToNat]
            refine hK _ _ ?_; clear hK K
          | refine OW_guardF rfl (lt_some (by decide)) rfl ?_
            simp only [eX, ↓reduceIte, Nat.reduceEqDiff, Int.reduceToNat]
          first
          | refine OW_guardT rfl (lt_some (by decide)) rfl (fun K hK r => ?_)
            simp only [x_pick, l_asBool, HL.ite_bool, if_true, if_false, Bool.false_eq_true, eX, ↓reduceIte, Nat.reduceEqDiff, Int.reduceToNat]
            refine hK _ _ ?_; clear hK K
          | refine OW_guardF rfl (lt_some (by decide)) rfl ?_
            simp only [eX, ↓reduceIte, Nat.reduceEqDiff, Int.reduceToNat]
          refine OW_opS (fun K hK r => ?_)
          simp only [x_pick, l_asBool, HL.ite_bool, if_true, if_false, Bool.false_eq_true, eX, ↓reduceIte, Nat.reduceEqDiff, Int.reduceToNat]
          refine hK _ _ ?_; clear hK K
          refine OW_as rfl ?_
          refine OW_nil ?_
          try simp only [Ex.thnH, Ex.inBlockH, ↓reduceIte, Nat.reduceEqDiff]
          refine hK2 _ _ ?_; try clear hK2 K2
          refine CW_ret ?_
          try simp only [Ex.thnH, Ex.inBlockH, ↓reduceIte, Nat.reduceEqDiff]
          refine ⟨[_], ⟨rfl, trivial⟩, _, Le.refl _, ?_, rfl⟩
          show Value.bool _ = _
          refine congrArg Value.bool ?_
          unfold regB
          first | (simp_all; done) | (simp_all; omega) | (simp_all <;> omega)


theorem register_ok (H : Hp) (u : Bool) (n : Int) : CallH Try.prog 51 #[.bool u, .int .i64 n] H (fun v H' => v = .bool (regB u n) ∧ H' = H) := by
  cases u
  · exact register_f H n
  · exact register_t H n

set_option maxRecDepth 100000 in
set_option maxHeartbeats 4000000 in
theorem rgood_ok (H : Hp) (x : Cd) (behind : Int) : CallH Try.prog 31 #[.agg x.cells.toArray, .int .i64 behind] H (fun v H' => v = .bool (goodC x behind) ∧ Le H H') := by
  refine CallH_enter (l := [_, _]) (rl := [.tmp 4]) (n := 85) Try.func31 rfl rfl rfl rfl rfl ?_
  simp only [envOf, Nat.reduceAdd]
  refine CW_seq (fun K1 hK1 => ?_)
  refine CW_region ?_
  refine OW_opS (fun K hK r => ?_)
  simp only [x_box, Value.cells, eX, ↓reduceIte, Nat.reduceEqDiff, Int.reduceToNat]
  intro b2 hb2
  have f2_H : H b2 = none := none_of_le lhA hb2
  try simp only [eX, ↓reduceIte, Nat.reduceEqDiff, Int.reduceToNat]
  refine hK _ _ ?_; clear hK K
  refine OW_as rfl ?_
  refine OW_nil ?_
  try simp only [Ex.thnH, Ex.inBlockH, ↓reduceIte, Nat.reduceEqDiff]
  refine hK1 _ _ ?_; try clear hK1 K1
  refine CW_seq (fun K2 hK2 => ?_)
  refine CW_region ?_
  refine OW_opS (fun K hK r => ?_)
  simp only [x_fieldAddr, fa47_0, add_mk, Nat.reduceAdd, Nat.zero_add, eX, ↓reduceIte, Nat.reduceEqDiff, Int.reduceToNat]
  refine hK _ _ ?_; clear hK K
  refine OW_opS (fun K hK r => ?_)
  simp only [x_load, eX, ↓reduceIte, Nat.reduceEqDiff, Int.reduceToNat]
  refine Lt_loadAt1 Try.underlying3 rfl hbA ldA ?_
  try simp only [eX, ↓reduceIte, Nat.reduceEqDiff, Int.reduceToNat]
  refine hK _ _ ?_; clear hK K
  refine OW_opS (fun K hK r => ?_)
  simp only [x_callF _ bd10, List.map_toArray, List.map_cons, List.map_nil, eX, ↓reduceIte, Nat.reduceEqDiff, Int.reduceToNat]
  refine (rshape_ok _ x.op).mono ?_
  rintro v H' ⟨rfl, rfl⟩
  try simp only [eX, ↓reduceIte, Nat.reduceEqDiff, Int.reduceToNat]
  refine hK _ _ ?_; clear hK K
  refine OW_as rfl ?_
  refine OW_nil ?_
  try simp only [Ex.thnH, Ex.inBlockH, ↓reduceIte, Nat.reduceEqDiff]
  refine hK2 _ _ ?_; try clear hK2 K2
  refine CW_seq (fun K3 hK3 => ?_)
  refine CW_seq (fun K4 hK4 => ?_)
  refine CW_drawE [0, 0, 0, 0, 6, 0, 1, 5, 0, 0, 0, 0, 2, 0, 1, 2, 0, 0] [0, 1, 2, 3, 5, 6, 4, 7, 8, 9, 10, 11, 12, 13, 14, 15, 16, 17] (by kernel_rfl) (by kernel_rfl) (fun R2 hR2 => ?_)
  apply TW_pure rfl (lt_some (by decide)) rfl
  · intro r
    simp only [x_move, eX, ↓reduceIte, Nat.reduceEqDiff]
    exact ⟨rfl, Le.refl _⟩
  simp only [eX, ↓reduceIte, Nat.reduceEqDiff, Int.reduceToNat]
  apply TW_pure rfl (lt_some (by decide)) rfl
  · intro r
    simp only [x_bin, g_string, b_seql, eX, ↓reduceIte, Nat.reduceEqDiff]
    rw [shp_nil_beq]
    exact ⟨rfl, Le.refl _⟩
  simp only [eX, ↓reduceIte, Nat.reduceEqDiff, Int.reduceToNat]
  apply TW_pure rfl (lt_some (by decide)) rfl
  · intro r
    simp only [x_move, eX, ↓reduceIte, Nat.reduceEqDiff]
    exact ⟨rfl, Le.refl _⟩
  simp only [eX, ↓reduceIte, Nat.reduceEqDiff, Int.reduceToNat]
  (first | refine TW_split (d := 11) rfl (fun g11 => ?_) (fun g11 => ?_) | skip)
  all_goals try (exfalso; exact cnA g11)
  all_goals (try simp only [decide_eq_true_eq, decide_eq_false_iff_not, Bool.not_eq_true, Bool.not_eq_false, Bool.and_eq_true, Bool.or_eq_true, Bool.or_eq_false_iff, Bool.not_eq_true, Bool.not_eq_eq_eq_not, Bool.not_true, Bool.not_false] at g11)
  all_goals
    try simp only [eX, ↓reduceIte, Nat.reduceEqDiff, Int.reduceToNat]
    first
    | apply TW_pureG rfl (lt_some (by decide)) rfl rfl
      · intro r
        simp only [x_move, eX, ↓reduceIte, Nat.reduceEqDiff]
        exact ⟨rfl, Le.refl _⟩
      simp only [eX, ↓reduceIte, Nat.reduceEqDiff, Int.reduceToNat]
    | refine TW_guardF rfl (lt_some (by decide)) rfl ?_
      simp only [eX, ↓reduceIte, Nat.reduceEqDiff, Int.reduceToNat]
    first
    | apply TW_pureG rfl (lt_some (by decide)) rfl rfl
      · intro r
        simp only [x_fieldAddr, fa47_2, add_mk, Nat.reduceAdd, Nat.zero_add, eX, ↓reduceIte, Nat.reduceEqDiff]
        exact ⟨rfl, Le.refl _⟩
      simp only [eX, ↓reduceIte, Nat.reduceEqDiff, Int.reduceToNat]
    | refine TW_guardF rfl (lt_some (by decide)) rfl ?_
      simp only [eX, ↓reduceIte, Nat.reduceEqDiff, Int.reduceToNat]
    first
    | apply TW_lookG rfl (lt_some (by decide)) rfl rfl
      · intro r
        simp only [x_load, eX, ↓reduceIte, Nat.reduceEqDiff]
        refine Lt_loadAt1 Try.underlying3 rfl hbA ldA ?_
        exact ⟨rfl, Le.refl _⟩
      simp only [eX, ↓reduceIte, Nat.reduceEqDiff, Int.reduceToNat]
    | refine TW_guardF rfl (lt_some (by decide)) rfl ?_
      simp only [eX, ↓reduceIte, Nat.reduceEqDiff, Int.reduceToNat]
    first
    | refine TW_growG rfl (lt_some (by decide)) rfl rfl (fun K hK r => ?_)
      simp only [x_callF _ bd52, List.map_toArray, List.map_cons, List.map_nil, eX, ↓reduceIte, Nat.reduceEqDiff, Int.reduceToNat]
      refine (uses_op _ x.op 98).mono ?_
      rintro v H' ⟨rfl, rfl⟩
      try simp only [eX, ↓reduceIte, Nat.reduceEqDiff, Int.reduceToNat]
      refine hK _ _ leA (fun R13_ hR13_ => ?_); clear hK K
    | refine TW_guardF rfl (lt_some (by decide)) rfl ?_
      simp only [eX, ↓reduceIte, Nat.reduceEqDiff, Int.reduceToNat]
    first
    | refine TW_fenceG rfl (lt_some (by decide)) rfl rfl (fun K hK r => ?_)
      simp only [x_callF _ bd51, List.map_toArray, List.map_cons, List.map_nil, eX, ↓reduceIte, Nat.reduceEqDiff, Int.reduceToNat]
      refine (register_ok _ (usesB x.op 98) x.b).mono ?_
      rintro v H' ⟨rfl, rfl⟩
      try simp only [eX, ↓reduceIte, Nat.reduceEqDiff, Int.reduceToNat]
      refine hK _ _ (fun R16_ hR16_ => ?_); clear hK K
    | refine TW_guardF rfl (lt_some (by decide)) rfl ?_
      simp only [eX, ↓reduceIte, Nat.reduceEqDiff, Int.reduceToNat]
    first
    | apply TW_pureG rfl (lt_some (by decide)) rfl rfl
      · intro r
        simp only [x_un, u_not, eX, ↓reduceIte, Nat.reduceEqDiff]
        exact ⟨rfl, Le.refl _⟩
      simp only [eX, ↓reduceIte, Nat.reduceEqDiff, Int.reduceToNat]
    | refine TW_guardF rfl (lt_some (by decide)) rfl ?_
      simp only [eX, ↓reduceIte, Nat.reduceEqDiff, Int.reduceToNat]
    apply TW_pure rfl (lt_some (by decide)) rfl
    · intro r
      simp only [x_pick, l_asBool, HL.ite_bool, if_true, if_false, Bool.false_eq_true, eX, ↓reduceIte, Nat.reduceEqDiff]
      exact ⟨rfl, Le.refl _⟩
    simp only [eX, ↓reduceIte, Nat.reduceEqDiff, Int.reduceToNat]
    apply TW_pure rfl (lt_some (by decide)) rfl
    · intro r
      simp only [x_move, eX, ↓reduceIte, Nat.reduceEqDiff]
      exact ⟨rfl, Le.refl _⟩
    simp only [eX, ↓reduceIte, Nat.reduceEqDiff, Int.reduceToNat]
    (first | refine TW_split (d := 19) rfl (fun g19 => ?_) (fun g19 => ?_) | skip)
    all_goals try (exfalso; exact cnA g19)
    all_goals (try simp only [decide_eq_true_eq, decide_eq_false_iff_not, Bool.not_eq_true, Bool.not_eq_false, Bool.and_eq_true, Bool.or_eq_true, Bool.or_eq_false_iff, Bool.not_eq_true, Bool.not_eq_eq_eq_not, Bool.not_true, Bool.not_false] at g19)
    all_goals
      try simp only [eX, ↓reduceIte, Nat.reduceEqDiff, Int.reduceToNat]
      first
      | apply TW_pureG rfl (lt_some (by decide)) rfl rfl
        · intro r
          simp only [x_move, eX, ↓reduceIte, Nat.reduceEqDiff]
          exact ⟨rfl, Le.refl _⟩
        simp only [eX, ↓reduceIte, Nat.reduceEqDiff, Int.reduceToNat]
      | refine TW_guardF rfl (lt_some (by decide)) rfl ?_
        simp only [eX, ↓reduceIte, Nat.reduceEqDiff, Int.reduceToNat]
      first
      | refine TW_chainG rfl (lt_some (by decide)) rfl rfl (fun K hK r => ?_)
        simp only [x_callF _ bd52, List.map_toArray, List.map_cons, List.map_nil, eX, ↓reduceIte, Nat.reduceEqDiff, Int.reduceToNat]
        refine (uses_op _ x.op 99).mono ?_
        rintro v H' ⟨rfl, rfl⟩
        try simp only [eX, ↓reduceIte, Nat.reduceEqDiff, Int.reduceToNat]
        refine hK _ _ leA ?_; clear hK K
      | refine TW_guardF rfl (lt_some (by decide)) rfl ?_
        simp only [eX, ↓reduceIte, Nat.reduceEqDiff, Int.reduceToNat]
      first
      | apply TW_pureG rfl (lt_some (by decide)) rfl rfl
        · intro r
          simp only [x_fieldAddr, fa47_3, add_mk, Nat.reduceAdd, Nat.zero_add, eX, ↓reduceIte, Nat.reduceEqDiff]
          exact ⟨rfl, Le.refl _⟩
        simp only [eX, ↓reduceIte, Nat.reduceEqDiff, Int.reduceToNat]
      | refine TW_guardF rfl (lt_some (by decide)) rfl ?_
        simp only [eX, ↓reduceIte, Nat.reduceEqDiff, Int.reduceToNat]
      first
      | apply TW_lookG rfl (lt_some (by decide)) rfl rfl
        · intro r
          simp only [x_load, eX, ↓reduceIte, Nat.reduceEqDiff]
          refine Lt_loadAt1 Try.underlying3 rfl hbA ldA ?_
          exact ⟨rfl, Le.refl _⟩
        simp only [eX, ↓reduceIte, Nat.reduceEqDiff, Int.reduceToNat]
      | refine TW_guardF rfl (lt_some (by decide)) rfl ?_
        simp only [eX, ↓reduceIte, Nat.reduceEqDiff, Int.reduceToNat]
      first
      | refine TW_chainG rfl (lt_some (by decide)) rfl rfl (fun K hK r => ?_)
        simp only [x_callF _ bd51, List.map_toArray, List.map_cons, List.map_nil, eX, ↓reduceIte, Nat.reduceEqDiff, Int.reduceToNat]
        refine (register_ok _ (usesB x.op 99) x.c).mono ?_
        rintro v H' ⟨rfl, rfl⟩
        try simp only [eX, ↓reduceIte, Nat.reduceEqDiff, Int.reduceToNat]
        refine hK _ _ leA ?_; clear hK K
      | refine TW_guardF rfl (lt_some (by decide)) rfl ?_
        simp only [eX, ↓reduceIte, Nat.reduceEqDiff, Int.reduceToNat]
      first
      | apply TW_pureG rfl (lt_some (by decide)) rfl rfl
        · intro r
          simp only [x_un, u_not, eX, ↓reduceIte, Nat.reduceEqDiff]
          exact ⟨rfl, Le.refl _⟩
        simp only [eX, ↓reduceIte, Nat.reduceEqDiff, Int.reduceToNat]
      | refine TW_guardF rfl (lt_some (by decide)) rfl ?_
        simp only [eX, ↓reduceIte, Nat.reduceEqDiff, Int.reduceToNat]
      apply TW_pure rfl (lt_some (by decide)) rfl
      · intro r
        simp only [x_pick, l_asBool, HL.ite_bool, if_true, if_false, Bool.false_eq_true, eX, ↓reduceIte, Nat.reduceEqDiff]
        exact ⟨rfl, Le.refl _⟩
      simp only [eX, ↓reduceIte, Nat.reduceEqDiff, Int.reduceToNat]
      refine TW_nil ?_
      try simp only [Ex.thnH, Ex.inBlockH, ↓reduceIte, Nat.reduceEqDiff]
      refine hK4 _ _ ?_; try clear hK4 K4
      refine CW_cond (fun r => rfl) (fun c26 => ?_) (fun c26 => ?_)
      · first
        | (exfalso; exact cnA c26; done)
        | skip
          (try simp only [decide_eq_true_eq, decide_eq_false_iff_not, Bool.not_eq_true, Bool.not_eq_false, Bool.and_eq_true, Bool.or_eq_true, Bool.or_eq_false_iff, Bool.not_eq_true, Bool.not_eq_eq_eq_not, Bool.not_true, Bool.not_false] at c26)
          refine CW_seq (fun K5 hK5 => ?_)
          refine CW_region ?_
          refine OW_as rfl ?_
          refine OW_nil ?_
          try simp only [Ex.thnH, Ex.inBlockH, ↓reduceIte, Nat.reduceEqDiff]
          refine hK5 _ _ ?_; try clear hK5 K5
          refine CW_ret ?_
          try simp only [Ex.thnH, Ex.inBlockH, ↓reduceIte, Nat.reduceEqDiff]
          refine ⟨[_], ⟨rfl, trivial⟩, _, Le.refl _, ?_, lhA⟩
          show Value.bool _ = _
          refine congrArg Value.bool ?_
          rw [← goodR_eq]
          unfold goodR
          first | (simp_all; done) | (simp_all; omega) | (simp_all <;> omega)
      · first
        | (exfalso; exact cnA c26; done)
        | skip
          (try simp only [decide_eq_true_eq, decide_eq_false_iff_not, Bool.not_eq_true, Bool.not_eq_false, Bool.and_eq_true, Bool.or_eq_true, Bool.or_eq_false_iff, Bool.not_eq_true, Bool.not_eq_eq_eq_not, Bool.not_true, Bool.not_false] at c26)
          refine CW_skip ?_
          try simp only [Ex.thnH, Ex.inBlockH, ↓reduceIte, Nat.reduceEqDiff]
          refine hK3 _ _ ?_; try clear hK3 K3
          refine CW_seq (fun K6 hK6 => ?_)
          refine CW_seq (fun K7 hK7 => ?_)
          refine CW_region ?_
          refine OW_opS (fun K hK r => ?_)
          simp only [x_fieldAddr, fa47_0, add_mk, Nat.reduceAdd, Nat.zero_add, eX, ↓reduceIte, Nat.reduceEqDiff, Int.reduceToNat]
          refine hK _ _ ?_; clear hK K
          refine OW_opS (fun K hK r => ?_)
          simp only [x_load, eX, ↓reduceIte, Nat.reduceEqDiff, Int.reduceToNat]
          refine Lt_loadAt1 Try.underlying3 rfl hbA ldA ?_
          try simp only [eX, ↓reduceIte, Nat.reduceEqDiff, Int.reduceToNat]
          refine hK _ _ ?_; clear hK K
          refine OW_opS (fun K hK r => ?_)
          simp (disch := (first | omega | decide)) only [x_bin, g_int, b_eql, dec_lt_t, dec_lt_f, dec_le_t, dec_le_f, dec_eq_t, dec_eq_f, Bool.not_true, Bool.not_false, eX, ↓reduceIte, Nat.reduceEqDiff, Int.reduceToNat]
          refine hK _ _ ?_; clear hK K
          refine OW_nil ?_
          try simp only [Ex.thnH, Ex.inBlockH, ↓reduceIte, Nat.reduceEqDiff]
          refine hK7 _ _ ?_; try clear hK7 K7
          refine CW_cond (fun r => rfl) (fun c29 => ?_) (fun c29 => ?_)
          · first
            | (exfalso; exact cnA c29; done)
            | skip
              (try simp only [decide_eq_true_eq, decide_eq_false_iff_not, Bool.not_eq_true, Bool.not_eq_false, Bool.and_eq_true, Bool.or_eq_true, Bool.or_eq_false_iff, Bool.not_eq_true, Bool.not_eq_eq_eq_not, Bool.not_true, Bool.not_false] at c29)
              refine CW_seq (fun K8 hK8 => ?_)
              refine CW_region ?_
              refine OW_opS (fun K hK r => ?_)
              simp only [x_fieldAddr, fa47_1, add_mk, Nat.reduceAdd, Nat.zero_add, eX, ↓reduceIte, Nat.reduceEqDiff, Int.reduceToNat]
              refine hK _ _ ?_; clear hK K
              refine OW_opS (fun K hK r => ?_)
              simp only [x_load, eX, ↓reduceIte, Nat.reduceEqDiff, Int.reduceToNat]
              refine Lt_loadAt1 Try.underlying3 rfl hbA ldA ?_
              try simp only [eX, ↓reduceIte, Nat.reduceEqDiff, Int.reduceToNat]
              refine hK _ _ ?_; clear hK K
              refine OW_opS (fun K hK r => ?_)
              simp (disch := (first | omega | decide)) only [x_bin, g_int, b_lss, dec_lt_t, dec_lt_f, dec_le_t, dec_le_f, dec_eq_t, dec_eq_f, Bool.not_true, Bool.not_false, eX, ↓reduceIte, Nat.reduceEqDiff, Int.reduceToNat]
              refine hK _ _ ?_; clear hK K
              refine OW_mv rfl ?_
              (first | refine OW_split (d := 33) rfl (fun g33 => ?_) (fun g33 => ?_) | skip)
              all_goals try (exfalso; exact cnA g33)
              all_goals (try simp only [decide_eq_true_eq, decide_eq_false_iff_not, Bool.not_eq_true, Bool.not_eq_false, Bool.and_eq_true, Bool.or_eq_true, Bool.or_eq_false_iff, Bool.not_eq_true, Bool.not_eq_eq_eq_not, Bool.not_true, Bool.not_false] at g33)
              all_goals
                try simp only [eX, ↓reduceIte, Nat.reduceEqDiff, Int.reduceToNat]
                first
                | refine OW_guardT rfl (lt_some (by decide)) rfl (fun K hK r => ?_)
                  simp only [x_fieldAddr, fa47_1, add_mk, Nat.reduceAdd, Nat.zero_add, eX, ↓reduceIte, Nat.reduceEqDiff, Int.reduceToNat]
                  refine hK _ _ ?_; clear hK K
                | refine OW_guardF rfl (lt_some (by decide)) rfl ?_
                  simp only [eX, ↓reduceIte, Nat.reduceEqDiff, Int.reduceToNat]
                first
                | refine OW_guardT rfl (lt_some (by decide)) rfl (fun K hK r => ?_)
                  simp only [x_load, eX, ↓reduceIte, Nat.reduceEqDiff, Int.reduceToNat]
                  refine Lt_loadAt1 Try.underlying3 rfl hbA ldA ?_
                  try simp only [eX, ↓reduceIte, Nat.reduceEqDiff, Int.reduceToNat]
                  refine hK _ _ ?_; clear hK K
                | refine OW_guardF rfl (lt_some (by decide)) rfl ?_
                  simp only [eX, ↓reduceIte, Nat.reduceEqDiff, Int.reduceToNat]
                first
                | refine OW_guardT rfl (lt_some (by decide)) rfl (fun K hK r => ?_)
                  simp only [x_move, eX, ↓reduceIte, Nat.reduceEqDiff, Int.reduceToNat]
                  refine hK _ _ ?_; clear hK K
                | refine OW_guardF rfl (lt_some (by decide)) rfl ?_
                  simp only [eX, ↓reduceIte, Nat.reduceEqDiff, Int.reduceToNat]
                first
                | refine OW_guardT rfl (lt_some (by decide)) rfl (fun K hK r => ?_)
                  simp (disch := (first | omega | decide)) only [x_bin, g_int, b_gtr, dec_lt_t, dec_lt_f, dec_le_t, dec_le_f, dec_eq_t, dec_eq_f, Bool.not_true, Bool.not_false, eX, ↓reduceIte, Nat.reduceEqDiff, Int.reduceToNat]
                  refine hK _ _ ?_; clear hK K
                | refine OW_guardF rfl (lt_some (by decide)) rfl ?_
                  simp only [eX, ↓reduceIte, Nat.reduceEqDiff, Int.reduceToNat]
                refine OW_opS (fun K hK r => ?_)
                simp only [x_pick, l_asBool, HL.ite_bool, if_true, if_false, Bool.false_eq_true, eX, ↓reduceIte, Nat.reduceEqDiff, Int.reduceToNat]
                refine hK _ _ ?_; clear hK K
                refine OW_nil ?_
                try simp only [Ex.thnH, Ex.inBlockH, ↓reduceIte, Nat.reduceEqDiff]
                refine hK8 _ _ ?_; try clear hK8 K8
                refine CW_cond (fun r => rfl) (fun c38 => ?_) (fun c38 => ?_)
                · first
                  | (exfalso; exact cnA c38; done)
                  | skip
                    (try simp only [decide_eq_true_eq, decide_eq_false_iff_not, Bool.not_eq_true, Bool.not_eq_false, Bool.and_eq_true, Bool.or_eq_true, Bool.or_eq_false_iff, Bool.not_eq_true, Bool.not_eq_eq_eq_not, Bool.not_true, Bool.not_false] at c38)
                    refine CW_seq (fun K9 hK9 => ?_)
                    refine CW_region ?_
                    refine OW_as rfl ?_
                    refine OW_nil ?_
                    try simp only [Ex.thnH, Ex.inBlockH, ↓reduceIte, Nat.reduceEqDiff]
                    refine hK9 _ _ ?_; try clear hK9 K9
                    refine CW_ret ?_
                    try simp only [Ex.thnH, Ex.inBlockH, ↓reduceIte, Nat.reduceEqDiff]
                    refine ⟨[_], ⟨rfl, trivial⟩, _, Le.refl _, ?_, lhA⟩
                    show Value.bool _ = _
                    refine congrArg Value.bool ?_
                    rw [← goodR_eq]
                    unfold goodR
                    first | (simp_all; done) | (simp_all; omega) | (simp_all <;> omega)
                · first
                  | (exfalso; exact cnA c38; done)
                  | skip
                    (try simp only [decide_eq_true_eq, decide_eq_false_iff_not, Bool.not_eq_true, Bool.not_eq_false, Bool.and_eq_true, Bool.or_eq_true, Bool.or_eq_false_iff, Bool.not_eq_true, Bool.not_eq_eq_eq_not, Bool.not_true, Bool.not_false] at c38)
                    refine CW_skip ?_
                    try simp only [Ex.thnH, Ex.inBlockH, ↓reduceIte, Nat.reduceEqDiff]
                    refine hK6 _ _ ?_; try clear hK6 K6
                    refine CW_seq (fun K10 hK10 => ?_)
                    refine CW_seq (fun K11 hK11 => ?_)
                    refine CW_region ?_
                    refine OW_mv rfl ?_
                    refine OW_opS (fun K hK r => ?_)
                    simp only [x_callF _ bd52, List.map_toArray, List.map_cons, List.map_nil, eX, ↓reduceIte, Nat.reduceEqDiff, Int.reduceToNat]
                    refine (uses_op _ x.op 116).mono ?_
                    rintro v H' ⟨rfl, rfl⟩
                    try simp only [eX, ↓reduceIte, Nat.reduceEqDiff, Int.reduceToNat]
                    refine hK _ _ ?_; clear hK K
                    refine OW_nil ?_
                    try simp only [Ex.thnH, Ex.inBlockH, ↓reduceIte, Nat.reduceEqDiff]
                    refine hK11 _ _ ?_; try clear hK11 K11
                    refine CW_cond (fun r => rfl) (fun c46 => ?_) (fun c46 => ?_)
                    · first
                      | (exfalso; exact cnA c46; done)
                      | skip
                        (try simp only [decide_eq_true_eq, decide_eq_false_iff_not, Bool.not_eq_true, Bool.not_eq_false, Bool.and_eq_true, Bool.or_eq_true, Bool.or_eq_false_iff, Bool.not_eq_true, Bool.not_eq_eq_eq_not, Bool.not_true, Bool.not_false] at c46)
                        refine CW_seq (fun K12 hK12 => ?_)
                        refine CW_region ?_
                        refine OW_opS (fun K hK r => ?_)
                        simp only [x_fieldAddr, fa47_4, add_mk, Nat.reduceAdd, Nat.zero_add, eX, ↓reduceIte, Nat.reduceEqDiff, Int.reduceToNat]
                        refine hK _ _ ?_; clear hK K
                        refine OW_opS (fun K hK r => ?_)
                        simp only [x_load, eX, ↓reduceIte, Nat.reduceEqDiff, Int.reduceToNat]
                        refine Lt_loadAt1 Try.underlying3 rfl hbA ldA ?_
                        try simp only [eX, ↓reduceIte, Nat.reduceEqDiff, Int.reduceToNat]
                        refine hK _ _ ?_; clear hK K
                        refine OW_opS (fun K hK r => ?_)
                        simp (disch := (first | omega | decide)) only [x_bin, g_int, b_lss, dec_lt_t, dec_lt_f, dec_le_t, dec_le_f, dec_eq_t, dec_eq_f, Bool.not_true, Bool.not_false, eX, ↓reduceIte, Nat.reduceEqDiff, Int.reduceToNat]
                        refine hK _ _ ?_; clear hK K
                        refine OW_mv rfl ?_
                        (first | refine OW_split (d := 50) rfl (fun g50 => ?_) (fun g50 => ?_) | skip)
                        all_goals try (exfalso; exact cnA g50)
                        all_goals (try simp only [decide_eq_true_eq, decide_eq_false_iff_not, Bool.not_eq_true, Bool.not_eq_false, Bool.and_eq_true, Bool.or_eq_true, Bool.or_eq_false_iff, Bool.not_eq_true, Bool.not_eq_eq_eq_not, Bool.not_true, Bool.not_false] at g50)
                        all_goals
                          try simp only [eX, ↓reduceIte, Nat.reduceEqDiff, Int.reduceToNat]
                          first
                          | refine OW_guardT rfl (lt_some (by decide)) rfl (fun K hK r => ?_)
                            simp only [x_fieldAddr, fa47_4, add_mk, Nat.reduceAdd, Nat.zero_add, eX, ↓reduceIte, Nat.reduceEqDiff, Int.reduceToNat]
                            refine hK _ _ ?_; clear hK K
                          | refine OW_guardF rfl (lt_some (by decide)) rfl ?_
                            simp only [eX, ↓reduceIte, Nat.reduceEqDiff, Int.reduceToNat]
                          first
                          | refine OW_guardT rfl (lt_some (by decide)) rfl (fun K hK r => ?_)
                            simp only [x_load, eX, ↓reduceIte, Nat.reduceEqDiff, Int.reduceToNat]
                            refine Lt_loadAt1 Try.underlying3 rfl hbA ldA ?_
                            try simp only [eX, ↓reduceIte, Nat.reduceEqDiff, Int.reduceToNat]
                            refine hK _ _ ?_; clear hK K
                          | refine OW_guardF rfl (lt_some (by decide)) rfl ?_
                            simp only [eX, ↓reduceIte, Nat.reduceEqDiff, Int.reduceToNat]
                          first
                          | refine OW_guardT rfl (lt_some (by decide)) rfl (fun K hK r => ?_)
                            simp (disch := (first | omega | decide)) only [x_bin, g_int, b_gtr, dec_lt_t, dec_lt_f, dec_le_t, dec_le_f, dec_eq_t, dec_eq_f, Bool.not_true, Bool.not_false, eX, ↓reduceIte, Nat.reduceEqDiff, Int.reduceToNat]
                            refine hK _ _ ?_; clear hK K
                          | refine OW_guardF rfl (lt_some (by decide)) rfl ?_
                            simp only [eX, ↓reduceIte, Nat.reduceEqDiff, Int.reduceToNat]
                          refine OW_opS (fun K hK r => ?_)
                          simp only [x_pick, l_asBool, HL.ite_bool, if_true, if_false, Bool.false_eq_true, eX, ↓reduceIte, Nat.reduceEqDiff, Int.reduceToNat]
                          refine hK _ _ ?_; clear hK K
                          refine OW_nil ?_
                          try simp only [Ex.thnH, Ex.inBlockH, ↓reduceIte, Nat.reduceEqDiff]
                          refine hK12 _ _ ?_; try clear hK12 K12
                          refine CW_cond (fun r => rfl) (fun c54 => ?_) (fun c54 => ?_)
                          · first
                            | (exfalso; exact cnA c54; done)
                            | skip
                              (try simp only [decide_eq_true_eq, decide_eq_false_iff_not, Bool.not_eq_true, Bool.not_eq_false, Bool.and_eq_true, Bool.or_eq_true, Bool.or_eq_false_iff, Bool.not_eq_true, Bool.not_eq_eq_eq_not, Bool.not_true, Bool.not_false] at c54)
                              refine CW_seq (fun K13 hK13 => ?_)
                              refine CW_region ?_
                              refine OW_as rfl ?_
                              refine OW_nil ?_
                              try simp only [Ex.thnH, Ex.inBlockH, ↓reduceIte, Nat.reduceEqDiff]
                              refine hK13 _ _ ?_; try clear hK13 K13
                              refine CW_ret ?_
                              try simp only [Ex.thnH, Ex.inBlockH, ↓reduceIte, Nat.reduceEqDiff]
                              refine ⟨[_], ⟨rfl, trivial⟩, _, Le.refl _, ?_, lhA⟩
                              show Value.bool _ = _
                              refine congrArg Value.bool ?_
                              rw [← goodR_eq]
                              unfold goodR
                              first | (simp_all; done) | (simp_all; omega) | (simp_all <;> omega)
                          · first
                            | (exfalso; exact cnA c54; done)
                            | skip
                              (try simp only [decide_eq_true_eq, decide_eq_false_iff_not, Bool.not_eq_true, Bool.not_eq_false, Bool.and_eq_true, Bool.or_eq_true, Bool.or_eq_false_iff, Bool.not_eq_true, Bool.not_eq_eq_eq_not, Bool.not_true, Bool.not_false] at c54)
                              refine CW_skip ?_
                              try simp only [Ex.thnH, Ex.inBlockH, ↓reduceIte, Nat.reduceEqDiff]
                              refine hK10 _ _ ?_; try clear hK10 K10
                              refine CW_seq (fun K14 hK14 => ?_)
                              refine CW_seq (fun K15 hK15 => ?_)
                              refine CW_region ?_
                              refine OW_mv rfl ?_
                              refine OW_opS (fun K hK r => ?_)
                              simp only [x_callF _ bd52, List.map_toArray, List.map_cons, List.map_nil, eX, ↓reduceIte, Nat.reduceEqDiff, Int.reduceToNat]
                              refine (uses_op _ x.op 107).mono ?_
                              rintro v H' ⟨rfl, rfl⟩
                              try simp only [eX, ↓reduceIte, Nat.reduceEqDiff, Int.reduceToNat]
                              refine hK _ _ ?_; clear hK K
                              refine OW_nil ?_
                              try simp only [Ex.thnH, Ex.inBlockH, ↓reduceIte, Nat.reduceEqDiff]
                              refine hK15 _ _ ?_; try clear hK15 K15
                              refine CW_cond (fun r => rfl) (fun c59 => ?_) (fun c59 => ?_)
                              · first
                                | (exfalso; exact cnA c59; done)
                                | skip
                                  (try simp only [decide_eq_true_eq, decide_eq_false_iff_not, Bool.not_eq_true, Bool.not_eq_false, Bool.and_eq_true, Bool.or_eq_true, Bool.or_eq_false_iff, Bool.not_eq_true, Bool.not_eq_eq_eq_not, Bool.not_true, Bool.not_false] at c59)
                                  refine CW_seq (fun K16 hK16 => ?_)
                                  refine CW_region ?_
                                  refine OW_opS (fun K hK r => ?_)
                                  simp only [x_fieldAddr, fa47_5, add_mk, Nat.reduceAdd, Nat.zero_add, eX, ↓reduceIte, Nat.reduceEqDiff, Int.reduceToNat]
                                  refine hK _ _ ?_; clear hK K
                                  refine OW_opS (fun K hK r => ?_)
                                  simp only [x_load, eX, ↓reduceIte, Nat.reduceEqDiff, Int.reduceToNat]
                                  refine Lt_loadAt1 Try.underlying3 rfl hbA ldA ?_
                                  try simp only [eX, ↓reduceIte, Nat.reduceEqDiff, Int.reduceToNat]
                                  refine hK _ _ ?_; clear hK K
                                  refine OW_opS (fun K hK r => ?_)
                                  simp (disch := (first | omega | decide)) only [x_bin, g_int, b_geq, dec_lt_t, dec_lt_f, dec_le_t, dec_le_f, dec_eq_t, dec_eq_f, Bool.not_true, Bool.not_false, eX, ↓reduceIte, Nat.reduceEqDiff, Int.reduceToNat]
                                  refine hK _ _ ?_; clear hK K
                                  refine OW_mv rfl ?_
                                  (first | refine OW_split (d := 63) rfl (fun g63 => ?_) (fun g63 => ?_) | skip)
                                  all_goals try (exfalso; exact cnA g63)
                                  all_goals (try simp only [decide_eq_true_eq, decide_eq_false_iff_not, Bool.not_eq_true, Bool.not_eq_false, Bool.and_eq_true, Bool.or_eq_true, Bool.or_eq_false_iff, Bool.not_eq_true, Bool.not_eq_eq_eq_not, Bool.not_true, Bool.not_false] at g63)
                                  all_goals
                                    try simp only [eX, ↓reduceIte, Nat.reduceEqDiff, Int.reduceToNat]
                                    first
                                    | refine OW_guardT rfl (lt_some (by decide)) rfl (fun K hK r => ?_)
                                      simp only [x_fieldAddr, fa47_5, add_mk, Nat.reduceAdd, Nat.zero_add, eX, ↓reduceIte, Nat.reduceEqDiff, Int.reduceToNat]
                                      refine hK _ _ ?_; clear hK K
                                    | refine OW_guardF rfl (lt_some (by decide)) rfl ?_
                                      simp only [eX, ↓reduceIte, Nat.reduceEqDiff, Int.reduceToNat]
                                    first
                                    | refine OW_guardT rfl (lt_some (by decide)) rfl (fun K hK r => ?_)
                                      simp only [x_load, eX, ↓reduceIte, Nat.reduceEqDiff, Int.reduceToNat]
                                      refine Lt_loadAt1 Try.underlying3 rfl hbA ldA ?_
                                      try simp only [eX, ↓reduceIte, Nat.reduceEqDiff, Int.reduceToNat]
                                      refine hK _ _ ?_; clear hK K
                                    | refine OW_guardF rfl (lt_some (by decide)) rfl ?_
                                      simp only [eX, ↓reduceIte, Nat.reduceEqDiff, Int.reduceToNat]
                                    first
                                    | refine OW_guardT rfl (lt_some (by decide)) rfl (fun K hK r => ?_)
                                      simp (disch := (first | omega | decide)) only [x_bin, g_int, b_leq, dec_lt_t, dec_lt_f, dec_le_t, dec_le_f, dec_eq_t, dec_eq_f, Bool.not_true, Bool.not_false, eX, ↓reduceIte, Nat.reduceEqDiff, Int.reduceToNat]
                                      refine hK _ _ ?_; clear hK K
                                    | refine OW_guardF rfl (lt_some (by decide)) rfl ?_
                                      simp only [eX, ↓reduceIte, Nat.reduceEqDiff, Int.reduceToNat]
                                    refine OW_opS (fun K hK r => ?_)
                                    simp only [x_pick, l_asBool, HL.ite_bool, if_true, if_false, Bool.false_eq_true, eX, ↓reduceIte, Nat.reduceEqDiff, Int.reduceToNat]
                                    refine hK _ _ ?_; clear hK K
                                    refine OW_as rfl ?_
                                    refine OW_nil ?_
                                    try simp only [Ex.thnH, Ex.inBlockH, ↓reduceIte, Nat.reduceEqDiff]
                                    refine hK16 _ _ ?_; try clear hK16 K16
                                    refine CW_ret ?_
                                    try simp only [Ex.thnH, Ex.inBlockH, ↓reduceIte, Nat.reduceEqDiff]
                                    refine ⟨[_], ⟨rfl, trivial⟩, _, Le.refl _, ?_, lhA⟩
                                    show Value.bool _ = _
                                    refine congrArg Value.bool ?_
                                    rw [← goodR_eq]
                                    unfold goodR
                                    first | (simp_all; done) | (simp_all; omega) | (simp_all <;> omega)
                              · first
                                | (exfalso; exact cnA c59; done)
                                | skip
                                  (try simp only [decide_eq_true_eq, decide_eq_false_iff_not, Bool.not_eq_true, Bool.not_eq_false, Bool.and_eq_true, Bool.or_eq_true, Bool.or_eq_false_iff, Bool.not_eq_true, Bool.not_eq_eq_eq_not, Bool.not_true, Bool.not_false] at c59)
                                  refine CW_skip ?_
                                  try simp only [Ex.thnH, Ex.inBlockH, ↓reduceIte, Nat.reduceEqDiff]
                                  refine hK14 _ _ ?_; try clear hK14 K14
                                  refine CW_seq (fun K17 hK17 => ?_)
                                  refine CW_seq (fun K18 hK18 => ?_)
                                  refine CW_region ?_
                                  refine OW_mv rfl ?_
                                  refine OW_opS (fun K hK r => ?_)
                                  simp only [x_callF _ bd52, List.map_toArray, List.map_cons, List.map_nil, eX, ↓reduceIte, Nat.reduceEqDiff, Int.reduceToNat]
                                  refine (uses_op _ x.op 106).mono ?_
                                  rintro v H' ⟨rfl, rfl⟩
                                  try simp only [eX, ↓reduceIte, Nat.reduceEqDiff, Int.reduceToNat]
                                  refine hK _ _ ?_; clear hK K
                                  refine OW_nil ?_
                                  try simp only [Ex.thnH, Ex.inBlockH, ↓reduceIte, Nat.reduceEqDiff]
                                  refine hK18 _ _ ?_; try clear hK18 K18
                                  refine CW_cond (fun r => rfl) (fun c69 => ?_) (fun c69 => ?_)
                                  · first
                                    | (exfalso; exact cnA c69; done)
                                    | skip
                                      (try simp only [decide_eq_true_eq, decide_eq_false_iff_not, Bool.not_eq_true, Bool.not_eq_false, Bool.and_eq_true, Bool.or_eq_true, Bool.or_eq_false_iff, Bool.not_eq_true, Bool.not_eq_eq_eq_not, Bool.not_true, Bool.not_false] at c69)
                                      refine CW_seq (fun K19 hK19 => ?_)
                                      refine CW_region ?_
                                      refine OW_opS (fun K hK r => ?_)
                                      simp only [x_fieldAddr, fa47_5, add_mk, Nat.reduceAdd, Nat.zero_add, eX, ↓reduceIte, Nat.reduceEqDiff, Int.reduceToNat]
                                      refine hK _ _ ?_; clear hK K
                                      refine OW_opS (fun K hK r => ?_)
                                      simp only [x_load, eX, ↓reduceIte, Nat.reduceEqDiff, Int.reduceToNat]
                                      refine Lt_loadAt1 Try.underlying3 rfl hbA ldA ?_
                                      try simp only [eX, ↓reduceIte, Nat.reduceEqDiff, Int.reduceToNat]
                                      refine hK _ _ ?_; clear hK K
                                      refine OW_opS (fun K hK r => ?_)
                                      simp (disch := (first | omega | decide)) only [x_bin, g_int, b_geq, dec_lt_t, dec_lt_f, dec_le_t, dec_le_f, dec_eq_t, dec_eq_f, Bool.not_true, Bool.not_false, eX, ↓reduceIte, Nat.reduceEqDiff, Int.reduceToNat]
                                      refine hK _ _ ?_; clear hK K
                                      refine OW_mv rfl ?_
                                      (first | refine OW_split (d := 73) rfl (fun g73 => ?_) (fun g73 => ?_) | skip)
                                      all_goals try (exfalso; exact cnA g73)
                                      all_goals (try simp only [decide_eq_true_eq, decide_eq_false_iff_not, Bool.not_eq_true, Bool.not_eq_false, Bool.and_eq_true, Bool.or_eq_true, Bool.or_eq_false_iff, Bool.not_eq_true, Bool.not_eq_eq_eq_not, Bool.not_true, Bool.not_false] at g73)
                                      all_goals
                                        try simp only [eX, ↓reduceIte, Nat.reduceEqDiff, Int.reduceToNat]
                                        first
                                        | refine OW_guardT rfl (lt_some (by decide)) rfl (fun K hK r => ?_)
                                          simp only [x_fieldAddr, fa47_5, add_mk, Nat.reduceAdd, Nat.zero_add, eX, ↓reduceIte, Nat.reduceEqDiff, Int.reduceToNat]
                                          refine hK _ _ ?_; clear hK K
                                        | refine OW_guardF rfl (lt_some (by decide)) rfl ?_
                                          simp only [eX, ↓reduceIte, Nat.reduceEqDiff, Int.reduceToNat]
                                        first
                                        | refine OW_guardT rfl (lt_some (by decide)) rfl (fun K hK r => ?_)
                                          simp only [x_load, eX, ↓reduceIte, Nat.reduceEqDiff, Int.reduceToNat]
                                          refine Lt_loadAt1 Try.underlying3 rfl hbA ldA ?_
                                          try simp only [eX, ↓reduceIte, Nat.reduceEqDiff, Int.reduceToNat]
                                          refine hK _ _ ?_; clear hK K
                                        | refine OW_guardF rfl (lt_some (by decide)) rfl ?_
                                          simp only [eX, ↓reduceIte, Nat.reduceEqDiff, Int.reduceToNat]
                                        first
                                        | refine OW_guardT rfl (lt_some (by decide)) rfl (fun K hK r => ?_)
                                          simp (disch := (first | omega | decide)) only [x_bin, g_int, b_leq, dec_lt_t, dec_lt_f, dec_le_t, dec_le_f, dec_eq_t, dec_eq_f, Bool.not_true, Bool.not_false, eX, ↓reduceIte, Nat.reduceEqDiff, Int.reduceToNat]
                                          refine hK _ _ ?_; clear hK K
                                        | refine OW_guardF rfl (lt_some (by decide)) rfl ?_
                                          simp only [eX, ↓reduceIte, Nat.reduceEqDiff, Int.reduceToNat]
                                        refine OW_opS (fun K hK r => ?_)
                                        simp only [x_pick, l_asBool, HL.ite_bool, if_true, if_false, Bool.false_eq_true, eX, ↓reduceIte, Nat.reduceEqDiff, Int.reduceToNat]
                                        refine hK _ _ ?_; clear hK K
                                        refine OW_as rfl ?_
                                        refine OW_nil ?_
                                        try simp only [Ex.thnH, Ex.inBlockH, ↓reduceIte, Nat.reduceEqDiff]
                                        refine hK19 _ _ ?_; try clear hK19 K19
                                        refine CW_ret ?_
                                        try simp only [Ex.thnH, Ex.inBlockH, ↓reduceIte, Nat.reduceEqDiff]
                                        refine ⟨[_], ⟨rfl, trivial⟩, _, Le.refl _, ?_, lhA⟩
                                        show Value.bool _ = _
                                        refine congrArg Value.bool ?_
                                        rw [← goodR_eq]
                                        unfold goodR
                                        first | (simp_all; done) | (simp_all; omega) | (simp_all <;> omega)
                                  · first
                                    | (exfalso; exact cnA c69; done)
                                    | skip
                                      (try simp only [decide_eq_true_eq, decide_eq_false_iff_not, Bool.not_eq_true, Bool.not_eq_false, Bool.and_eq_true, Bool.or_eq_true, Bool.or_eq_false_iff, Bool.not_eq_true, Bool.not_eq_eq_eq_not, Bool.not_true, Bool.not_false] at c69)
                                      refine CW_skip ?_
                                      try simp only [Ex.thnH, Ex.inBlockH, ↓reduceIte, Nat.reduceEqDiff]
                                      refine hK17 _ _ ?_; try clear hK17 K17
                                      refine CW_seq (fun K20 hK20 => ?_)
                                      refine CW_region ?_
                                      refine OW_mv rfl ?_
                                      refine OW_opS (fun K hK r => ?_)
                                      simp only [x_callF _ bd52, List.map_toArray, List.map_cons, List.map_nil, eX, ↓reduceIte, Nat.reduceEqDiff, Int.reduceToNat]
                                      refine (uses_op _ x.op 110).mono ?_
                                      rintro v H' ⟨rfl, rfl⟩
                                      try simp only [eX, ↓reduceIte, Nat.reduceEqDiff, Int.reduceToNat]
                                      refine hK _ _ ?_; clear hK K
                                      refine OW_mv rfl ?_
                                      (first | refine OW_split (d := 80) rfl (fun g80 => ?_) (fun g80 => ?_) | skip)
                                      all_goals try (exfalso; exact cnA g80)
                                      all_goals (try simp only [decide_eq_true_eq, decide_eq_false_iff_not, Bool.not_eq_true, Bool.not_eq_false, Bool.and_eq_true, Bool.or_eq_true, Bool.or_eq_false_iff, Bool.not_eq_true, Bool.not_eq_eq_eq_not, Bool.not_true, Bool.not_false] at g80)
                                      all_goals
                                        try simp only [eX, ↓reduceIte, Nat.reduceEqDiff, Int.reduceToNat]
                                        first
                                        | refine OW_guardT rfl (lt_some (by decide)) rfl (fun K hK r => ?_)
                                          simp only [x_fieldAddr, fa47_5, add_mk, Nat.reduceAdd, Nat.zero_add, eX, ↓reduceIte, Nat.reduceEqDiff, Int.reduceToNat]
                                          refine hK _ _ ?_; clear hK K
                                        | refine OW_guardF rfl (lt_some (by decide)) rfl ?_
                                          simp only [eX, ↓reduceIte, Nat.reduceEqDiff, Int.reduceToNat]
                                        first
                                        | refine OW_guardT rfl (lt_some (by decide)) rfl (fun K hK r => ?_)
                                          simp only [x_load, eX, ↓reduceIte, Nat.reduceEqDiff, Int.reduceToNat]
                                          refine Lt_loadAt1 Try.underlying3 rfl hbA ldA ?_
                                          try simp only [eX, ↓reduceIte, Nat.reduceEqDiff, Int.reduceToNat]
                                          refine hK _ _ ?_; clear hK K
                                        | refine OW_guardF rfl (lt_some (by decide)) rfl ?_
                                          simp only [eX, ↓reduceIte, Nat.reduceEqDiff, Int.reduceToNat]
                                        first
                                        | refine OW_guardT rfl (lt_some (by decide)) rfl (fun K hK r => ?_)
                                          simp (disch := (first | omega | decide)) only [x_bin, g_int, b_eql, dec_lt_t, dec_lt_f, dec_le_t, dec_le_f, dec_eq_t, dec_eq_f, Bool.not_true, Bool.not_false, eX, ↓reduceIte, Nat.reduceEqDiff, Int.reduceToNat]
                                          refine hK _ _ ?_; clear hK K
                                        | refine OW_guardF rfl (lt_some (by decide)) rfl ?_
                                          simp only [eX, ↓reduceIte, Nat.reduceEqDiff, Int.reduceToNat]
                                        refine OW_opS (fun K hK r => ?_)
                                        simp only [x_pick, l_asBool, HL.ite_bool, if_true, if_false, Bool.false_eq_true, eX, ↓reduceIte, Nat.reduceEqDiff, Int.reduceToNat]
                                        refine hK _ _ ?_; clear hK K
                                        refine OW_as rfl ?_
                                        refine OW_nil ?_
                                        try simp only [Ex.thnH, Ex.inBlockH, ↓reduceIte, Nat.reduceEqDiff]
                                        refine hK20 _ _ ?_; try clear hK20 K20
                                        refine CW_ret ?_
                                        try simp only [Ex.thnH, Ex.inBlockH, ↓reduceIte, Nat.reduceEqDiff]
                                        refine ⟨[_], ⟨rfl, trivial⟩, _, Le.refl _, ?_, lhA⟩
                                        show Value.bool _ = _
                                        refine congrArg Value.bool ?_
                                        rw [← goodR_eq]
                                        unfold goodR
                                        first | (simp_all; done) | (simp_all; omega) | (simp_all <;> omega)
                    · first
                      | (exfalso; exact cnA c46; done)
                      | skip
                        (try simp only [decide_eq_true_eq, decide_eq_false_iff_not, Bool.not_eq_true, Bool.not_eq_false, Bool.and_eq_true, Bool.or_eq_true, Bool.or_eq_false_iff, Bool.not_eq_true, Bool.not_eq_eq_eq_not, Bool.not_true, Bool.not_false] at c46)
                        refine CW_seq (fun K21 hK21 => ?_)
                        refine CW_region ?_
                        refine OW_opS (fun K hK r => ?_)
                        simp only [x_fieldAddr, fa47_4, add_mk, Nat.reduceAdd, Nat.zero_add, eX, ↓reduceIte, Nat.reduceEqDiff, Int.reduceToNat]
                        refine hK _ _ ?_; clear hK K
                        refine OW_opS (fun K hK r => ?_)
                        simp only [x_load, eX, ↓reduceIte, Nat.reduceEqDiff, Int.reduceToNat]
                        refine Lt_loadAt1 Try.underlying3 rfl hbA ldA ?_
                        try simp only [eX, ↓reduceIte, Nat.reduceEqDiff, Int.reduceToNat]
                        refine hK _ _ ?_; clear hK K
                        refine OW_opS (fun K hK r => ?_)
                        simp (disch := (first | omega | decide)) only [x_bin, g_int, b_neq, dec_lt_t, dec_lt_f, dec_le_t, dec_le_f, dec_eq_t, dec_eq_f, Bool.not_true, Bool.not_false, eX, ↓reduceIte, Nat.reduceEqDiff, Int.reduceToNat]
                        refine hK _ _ ?_; clear hK K
                        refine OW_nil ?_
                        try simp only [Ex.thnH, Ex.inBlockH, ↓reduceIte, Nat.reduceEqDiff]
                        refine hK21 _ _ ?_; try clear hK21 K21
                        refine CW_cond (fun r => rfl) (fun c57 => ?_) (fun c57 => ?_)
                        · first
                          | (exfalso; exact cnA c57; done)
                          | skip
                            (try simp only [decide_eq_true_eq, decide_eq_false_iff_not, Bool.not_eq_true, Bool.not_eq_false, Bool.and_eq_true, Bool.or_eq_true, Bool.or_eq_false_iff, Bool.not_eq_true, Bool.not_eq_eq_eq_not, Bool.not_true, Bool.not_false] at c57)
                            refine CW_seq (fun K22 hK22 => ?_)
                            refine CW_region ?_
                            refine OW_as rfl ?_
                            refine OW_nil ?_
                            try simp only [Ex.thnH, Ex.inBlockH, ↓reduceIte, Nat.reduceEqDiff]
                            refine hK22 _ _ ?_; try clear hK22 K22
                            refine CW_ret ?_
                            try simp only [Ex.thnH, Ex.inBlockH, ↓reduceIte, Nat.reduceEqDiff]
                            refine ⟨[_], ⟨rfl, trivial⟩, _, Le.refl _, ?_, lhA⟩
                            show Value.bool _ = _
                            refine congrArg Value.bool ?_
                            rw [← goodR_eq]
                            unfold goodR
                            first | (simp_all; done) | (simp_all; omega) | (simp_all <;> omega)
                        · first
                          | (exfalso; exact cnA c57; done)
                          | skip
                            (try simp only [decide_eq_true_eq, decide_eq_false_iff_not, Bool.not_eq_true, Bool.not_eq_false, Bool.and_eq_true, Bool.or_eq_true, Bool.or_eq_false_iff, Bool.not_eq_true, Bool.not_eq_eq_eq_not, Bool.not_true, Bool.not_false] at c57)
                            refine CW_skip ?_
                            try simp only [Ex.thnH, Ex.inBlockH, ↓reduceIte, Nat.reduceEqDiff]
                            refine hK10 _ _ ?_; try clear hK10 K10
                            refine CW_seq (fun K23 hK23 => ?_)
                            refine CW_seq (fun K24 hK24 => ?_)
                            refine CW_region ?_
                            refine OW_mv rfl ?_
                            refine OW_opS (fun K hK r => ?_)
                            simp only [x_callF _ bd52, List.map_toArray, List.map_cons, List.map_nil, eX, ↓reduceIte, Nat.reduceEqDiff, Int.reduceToNat]
                            refine (uses_op _ x.op 107).mono ?_
                            rintro v H' ⟨rfl, rfl⟩
                            try simp only [eX, ↓reduceIte, Nat.reduceEqDiff, Int.reduceToNat]
                            refine hK _ _ ?_; clear hK K
                            refine OW_nil ?_
                            try simp only [Ex.thnH, Ex.inBlockH, ↓reduceIte, Nat.reduceEqDiff]
                            refine hK24 _ _ ?_; try clear hK24 K24
                            refine CW_cond (fun r => rfl) (fun c59 => ?_) (fun c59 => ?_)
                            · first
                              | (exfalso; exact cnA c59; done)
                              | skip
                                (try simp only [decide_eq_true_eq, decide_eq_false_iff_not, Bool.not_eq_true, Bool.not_eq_false, Bool.and_eq_true, Bool.or_eq_true, Bool.or_eq_false_iff, Bool.not_eq_true, Bool.not_eq_eq_eq_not, Bool.not_true, Bool.not_false] at c59)
                                refine CW_seq (fun K25 hK25 => ?_)
                                refine CW_region ?_
                                refine OW_opS (fun K hK r => ?_)
                                simp only [x_fieldAddr, fa47_5, add_mk, Nat.reduceAdd, Nat.zero_add, eX, ↓reduceIte, Nat.reduceEqDiff, Int.reduceToNat]
                                refine hK _ _ ?_; clear hK K
                                refine OW_opS (fun K hK r => ?_)
                                simp only [x_load, eX, ↓reduceIte, Nat.reduceEqDiff, Int.reduceToNat]
                                refine Lt_loadAt1 Try.underlying3 rfl hbA ldA ?_
                                try simp only [eX, ↓reduceIte, Nat.reduceEqDiff, Int.reduceToNat]
                                refine hK _ _ ?_; clear hK K
                                refine OW_opS (fun K hK r => ?_)
                                simp (disch := (first | omega | decide)) only [x_bin, g_int, b_geq, dec_lt_t, dec_lt_f, dec_le_t, dec_le_f, dec_eq_t, dec_eq_f, Bool.not_true, Bool.not_false, eX, ↓reduceIte, Nat.reduceEqDiff, Int.reduceToNat]
                                refine hK _ _ ?_; clear hK K
                                refine OW_mv rfl ?_
                                (first | refine OW_split (d := 63) rfl (fun g63 => ?_) (fun g63 => ?_) | skip)
                                all_goals try (exfalso; exact cnA g63)
                                all_goals (try simp only [decide_eq_true_eq, decide_eq_false_iff_not, Bool.not_eq_true, Bool.not_eq_false, Bool.and_eq_true, Bool.or_eq_true, Bool.or_eq_false_iff, Bool.not_eq_true, Bool.not_eq_eq_eq_not, Bool.not_true, Bool.not_false] at g63)
                                all_goals
                                  try simp only [eX, ↓reduceIte, Nat.reduceEqDiff, Int.reduceToNat]
                                  first
                                  | refine OW_guardT rfl (lt_some (by decide)) rfl (fun K hK r => ?_)
                                    simp only [x_fieldAddr, fa47_5, add_mk, Nat.reduceAdd, Nat.zero_add, eX, ↓reduceIte, Nat.reduceEqDiff, Int.reduceToNat]
                                    refine hK _ _ ?_; clear hK K
                                  | refine OW_guardF rfl (lt_some (by decide)) rfl ?_
                                    simp only [eX, ↓reduceIte, Nat.reduceEqDiff, Int.reduceToNat]
                                  first
                                  | refine OW_guardT rfl (lt_some (by decide)) rfl (fun K hK r => ?_)
                                    simp only [x_load, eX, ↓reduceIte, Nat.reduceEqDiff, Int.reduceToNat]
                                    refine Lt_loadAt1 Try.underlying3 rfl hbA ldA ?_
                                    try simp only [eX, ↓reduceIte, Nat.reduceEqDiff, Int.reduceToNat]
                                    refine hK _ _ ?_; clear hK K
                                  | refine OW_guardF rfl (lt_some (by decide)) rfl ?_
                                    simp only [eX, ↓reduceIte, Nat.reduceEqDiff, Int.reduceToNat]
                                  first
                                  | refine OW_guardT rfl (lt_some (by decide)) rfl (fun K hK r => ?_)
                                    simp (disch := (first | omega | decide)) only [x_bin, g_int, b_leq, dec_lt_t, dec_lt_f, dec_le_t, dec_le_f, dec_eq_t, dec_eq_f, Bool.not_true, Bool.not_false, eX, ↓reduceIte, Nat.reduceEqDiff, Int.reduceToNat]
                                    refine hK _ _ ?_; clear hK K
                                  | refine OW_guardF rfl (lt_some (by decide)) rfl ?_
                                    simp only [eX, ↓reduceIte, Nat.reduceEqDiff, Int.reduceToNat]
                                  refine OW_opS (fun K hK r => ?_)
                                  simp only [x_pick, l_asBool, HL.ite_bool, if_true, if_false, Bool.false_eq_true, eX, ↓reduceIte, Nat.reduceEqDiff, Int.reduceToNat]
                                  refine hK _ _ ?_; clear hK K
                                  refine OW_as rfl ?_
                                  refine OW_nil ?_
                                  try simp only [Ex.thnH, Ex.inBlockH, ↓reduceIte, Nat.reduceEqDiff]
                                  refine hK25 _ _ ?_; try clear hK25 K25
                                  refine CW_ret ?_
                                  try simp only [Ex.thnH, Ex.inBlockH, ↓reduceIte, Nat.reduceEqDiff]
                                  refine ⟨[_], ⟨rfl, trivial⟩, _, Le.refl _, ?_, lhA⟩
                                  show Value.bool _ = _
                                  refine congrArg Value.bool ?_
                                  rw [← goodR_eq]
                                  unfold goodR
                                  first | (simp_all; done) | (simp_all; omega) | (simp_all <;> omega)
                            · first
                              | (exfalso; exact cnA c59; done)
                              | skip
                                (try simp only [decide_eq_true_eq, decide_eq_false_iff_not, Bool.not_eq_true, Bool.not_eq_false, Bool.and_eq_true, Bool.or_eq_true, Bool.or_eq_false_iff, Bool.not_eq_true, Bool.not_eq_eq_eq_not, Bool.not_true, Bool.not_false] at c59)
                                refine CW_skip ?_
                                try simp only [Ex.thnH, Ex.inBlockH, ↓reduceIte, Nat.reduceEqDiff]
                                refine hK23 _ _ ?_; try clear hK23 K23
                                refine CW_seq (fun K26 hK26 => ?_)
                                refine CW_seq (fun K27 hK27 => ?_)
                                refine CW_region ?_
                                refine OW_mv rfl ?_
                                refine OW_opS (fun K hK r => ?_)
                                simp only [x_callF _ bd52, List.map_toArray, List.map_cons, List.map_nil, eX, ↓reduceIte, Nat.reduceEqDiff, Int.reduceToNat]
                                refine (uses_op _ x.op 106).mono ?_
                                rintro v H' ⟨rfl, rfl⟩
                                try simp only [eX, ↓reduceIte, Nat.reduceEqDiff, Int.reduceToNat]
                                refine hK _ _ ?_; clear hK K
                                refine OW_nil ?_
                                try simp only [Ex.thnH, Ex.inBlockH, ↓reduceIte, Nat.reduceEqDiff]
                                refine hK27 _ _ ?_; try clear hK27 K27
                                refine CW_cond (fun r => rfl) (fun c69 => ?_) (fun c69 => ?_)
                                · first
                                  | (exfalso; exact cnA c69; done)
                                  | skip
                                    (try simp only [decide_eq_true_eq, decide_eq_false_iff_not, Bool.not_eq_true, Bool.not_eq_false, Bool.and_eq_true, Bool.or_eq_true, Bool.or_eq_false_iff, Bool.not_eq_true, Bool.not_eq_eq_eq_not, Bool.not_true, Bool.not_false] at c69)
                                    refine CW_seq (fun K28 hK28 => ?_)
                                    refine CW_region ?_
                                    refine OW_opS (fun K hK r => ?_)
                                    simp only [x_fieldAddr, fa47_5, add_mk, Nat.reduceAdd, Nat.zero_add, eX, ↓reduceIte, Nat.reduceEqDiff, Int.reduceToNat]
                                    refine hK _ _ ?_; clear hK K
                                    refine OW_opS (fun K hK r => ?_)
                                    simp only [x_load, eX, ↓reduceIte, Nat.reduceEqDiff, Int.reduceToNat]
                                    refine Lt_loadAt1 Try.underlying3 rfl hbA ldA ?_
                                    try simp only [eX, ↓reduceIte, Nat.reduceEqDiff, Int.reduceToNat]
                                    refine hK _ _ ?_; clear hK K
                                    refine OW_opS (fun K hK r => ?_)
                                    simp (disch := (first | omega | decide)) only [x_bin, g_int, b_geq, dec_lt_t, dec_lt_f, dec_le_t, dec_le_f, dec_eq_t, dec_eq_f, Bool.not_true, Bool.not_false, eX, ↓reduceIte, Nat.reduceEqDiff, Int.reduceToNat]
                                    refine hK _ _ ?_; clear hK K
                                    refine OW_mv rfl ?_
                                    (first | refine OW_split (d := 73) rfl (fun g73 => ?_) (fun g73 => ?_) | skip)
                                    all_goals try (exfalso; exact cnA g73)
                                    all_goals (try simp only [decide_eq_true_eq, decide_eq_false_iff_not, Bool.not_eq_true, Bool.not_eq_false, Bool.and_eq_true, Bool.or_eq_true, Bool.or_eq_false_iff, Bool.not_eq_true, Bool.not_eq_eq_eq_not, Bool.not_true, Bool.not_false] at g73)
                                    all_goals
                                      try simp only [eX, ↓reduceIte, Nat.reduceEqDiff, Int.reduceToNat]
                                      first
                                      | refine OW_guardT rfl (lt_some (by decide)) rfl (fun K hK r => ?_)
                                        simp only [x_fieldAddr, fa47_5, add_mk, Nat.reduceAdd, Nat.zero_add, eX, ↓reduceIte, Nat.reduceEqDiff, Int.reduceToNat]
                                        refine hK _ _ ?_; clear hK K
                                      | refine OW_guardF rfl (lt_some (by decide)) rfl ?_
                                        simp only [eX, ↓reduceIte, Nat.reduceEqDiff, Int.reduceToNat]
                                      first
                                      | refine OW_guardT rfl (lt_some (by decide)) rfl (fun K hK r => ?_)
                                        simp only [x_load, eX, ↓reduceIte, Nat.reduceEqDiff, Int.reduceToNat]
                                        refine Lt_loadAt1 Try.underlying3 rfl hbA ldA ?_
                                        try simp only [eX, ↓reduceIte, Nat.reduceEqDiff, Int.reduceToNat]
                                        refine hK _ _ ?_; clear hK K
                                      | refine OW_guardF rfl (lt_some (by decide)) rfl ?_
                                        simp only [eX, ↓reduceIte, Nat.reduceEqDiff, Int.reduceToNat]
                                      first
                                      | refine OW_guardT rfl (lt_some (by decide)) rfl (fun K hK r => ?_)
                                        simp (disch := (first | omega | decide)) only [x_bin, g_int, b_leq, dec_lt_t, dec_lt_f, dec_le_t, dec_le_f, dec_eq_t, dec_eq_f, Bool.not_true, Bool.not_false, eX, ↓reduceIte, Nat.reduceEqDiff, Int.reduceToNat]
                                        refine hK _ _ ?_; clear hK K
                                      | refine OW_guardF rfl (lt_some (by decide)) rfl ?_
                                        simp only [eX, ↓reduceIte, Nat.reduceEqDiff, Int.reduceToNat]
                                      refine OW_opS (fun K hK r => ?_)
                                      simp only [x_pick, l_asBool, HL.ite_bool, if_true, if_false, Bool.false_eq_true, eX, ↓reduceIte, Nat.reduceEqDiff, Int.reduceToNat]
                                      refine hK _ _ ?_; clear hK K
                                      refine OW_as rfl ?_
                                      refine OW_nil ?_
                                      try simp only [Ex.thnH, Ex.inBlockH, ↓reduceIte, Nat.reduceEqDiff]
                                      refine hK28 _ _ ?_; try clear hK28 K28
                                      refine CW_ret ?_
                                      try simp only [Ex.thnH, Ex.inBlockH, ↓reduceIte, Nat.reduceEqDiff]
                                      refine ⟨[_], ⟨rfl, trivial⟩, _, Le.refl _, ?_, lhA⟩
                                      show Value.bool _ = _
                                      refine congrArg Value.bool ?_
                                      rw [← goodR_eq]
                                      unfold goodR
                                      first | (simp_all; done) | (simp_all; omega) | (simp_all <;> omega)
                                · first
                                  | (exfalso; exact cnA c69; done)
                                  | skip
                                    (try simp only [decide_eq_true_eq, decide_eq_false_iff_not, Bool.not_eq_true, Bool.not_eq_false, Bool.and_eq_true, Bool.or_eq_true, Bool.or_eq_false_iff, Bool.not_eq_true, Bool.not_eq_eq_eq_not, Bool.not_true, Bool.not_false] at c69)
                                    refine CW_skip ?_
                                    try simp only [Ex.thnH, Ex.inBlockH, ↓reduceIte, Nat.reduceEqDiff]
                                    refine hK26 _ _ ?_; try clear hK26 K26
                                    refine CW_seq (fun K29 hK29 => ?_)
                                    refine CW_region ?_
                                    refine OW_mv rfl ?_
                                    refine OW_opS (fun K hK r => ?_)
                                    simp only [x_callF _ bd52, List.map_toArray, List.map_cons, List.map_nil, eX, ↓reduceIte, Nat.reduceEqDiff, Int.reduceToNat]
                                    refine (uses_op _ x.op 110).mono ?_
                                    rintro v H' ⟨rfl, rfl⟩
                                    try simp only [eX, ↓reduceIte, Nat.reduceEqDiff, Int.reduceToNat]
                                    refine hK _ _ ?_; clear hK K
                                    refine OW_mv rfl ?_
                                    (first | refine OW_split (d := 80) rfl (fun g80 => ?_) (fun g80 => ?_) | skip)
                                    all_goals try (exfalso; exact cnA g80)
                                    all_goals (try simp only [decide_eq_true_eq, decide_eq_false_iff_not, Bool.not_eq_true, Bool.not_eq_false, Bool.and_eq_true, Bool.or_eq_true, Bool.or_eq_false_iff, Bool.not_eq_true, Bool.not_eq_eq_eq_not, Bool.not_true, Bool.not_false] at g80)
                                    all_goals
                                      try simp only [eX, ↓reduceIte, Nat.reduceEqDiff, Int.reduceToNat]
                                      first
                                      | refine OW_guardT rfl (lt_some (by decide)) rfl (fun K hK r => ?_)
                                        simp only [x_fieldAddr, fa47_5, add_mk, Nat.reduceAdd, Nat.zero_add, eX, ↓reduceIte, Nat.reduceEqDiff, Int.reduceToNat]
                                        refine hK _ _ ?_; clear hK K
                                      | refine OW_guardF rfl (lt_some (by decide)) rfl ?_
                                        simp only [eX, ↓reduceIte, Nat.reduceEqDiff, Int.reduceToNat]
                                      first
                                      | refine OW_guardT rfl (lt_some (by decide)) rfl (fun K hK r => ?_)
                                        simp only [x_load, eX, ↓reduceIte, Nat.reduceEqDiff, Int.reduceToNat]
                                        refine Lt_loadAt1 Try.underlying3 rfl hbA ldA ?_
                                        try simp only [eX, ↓reduceIte, Nat.reduceEqDiff, Int.reduceToNat]
                                        refine hK _ _ ?_; clear hK K
                                      | refine OW_guardF rfl (lt_some (by decide)) rfl ?_
                                        simp only [eX, ↓reduceIte, Nat.reduceEqDiff, Int.reduceToNat]
                                      first
                                      | refine OW_guardT rfl (lt_some (by decide)) rfl (fun K hK r => ?_)
                                        simp (disch := (first | omega | decide)) only [x_bin, g_int, b_eql, dec_lt_t, dec_lt_f, dec_le_t, dec_le_f, dec_eq_t, dec_eq_f, Bool.not_true, Bool.not_false, eX, ↓reduceIte, Nat.reduceEqDiff, Int.reduceToNat]
                                        refine hK _ _ ?_; clear hK K
                                      | refine OW_guardF rfl (lt_some (by decide)) rfl ?_
                                        simp only [eX, ↓reduceIte, Nat.reduceEqDiff, Int.reduceToNat]
                                      refine OW_opS (fun K hK r => ?_)
                                      simp only [x_pick, l_asBool, HL.ite_bool, if_true, if_false, Bool.false_eq_true, eX, ↓reduceIte, Nat.reduceEqDiff, Int.reduceToNat]
                                      refine hK _ _ ?_; clear hK K
                                      refine OW_as rfl ?_
                                      refine OW_nil ?_
                                      try simp only [Ex.thnH, Ex.inBlockH, ↓reduceIte, Nat.reduceEqDiff]
                                      refine hK29 _ _ ?_; try clear hK29 K29
                                      refine CW_ret ?_
                                      try simp only [Ex.thnH, Ex.inBlockH, ↓reduceIte, Nat.reduceEqDiff]
                                      refine ⟨[_], ⟨rfl, trivial⟩, _, Le.refl _, ?_, lhA⟩
                                      show Value.bool _ = _
                                      refine congrArg Value.bool ?_
                                      rw [← goodR_eq]
                                      unfold goodR
                                      first | (simp_all; done) | (simp_all; omega) | (simp_all <;> omega)
          · first
            | (exfalso; exact cnA c29; done)
            | skip
              (try simp only [decide_eq_true_eq, decide_eq_false_iff_not, Bool.not_eq_true, Bool.not_eq_false, Bool.and_eq_true, Bool.or_eq_true, Bool.or_eq_false_iff, Bool.not_eq_true, Bool.not_eq_eq_eq_not, Bool.not_true, Bool.not_false] at c29)
              refine CW_seq (fun K30 hK30 => ?_)
              refine CW_drawE [0, 2, 0, 1, 3, 0] [0, 1, 2, 3, 4, 5] (by kernel_rfl) (by kernel_rfl) (fun R7 hR7 => ?_)
              apply TW_pure rfl (lt_some (by decide)) rfl
              · intro r
                simp only [x_move, eX, ↓reduceIte, Nat.reduceEqDiff]
                exact ⟨rfl, Le.refl _⟩
              simp only [eX, ↓reduceIte, Nat.reduceEqDiff, Int.reduceToNat]
              refine TW_chain rfl (lt_some (by decide)) rfl (fun K hK r => ?_)
              simp only [x_callF _ bd52, List.map_toArray, List.map_cons, List.map_nil, eX, ↓reduceIte, Nat.reduceEqDiff, Int.reduceToNat]
              refine (uses_op _ x.op 97).mono ?_
              rintro v H' ⟨rfl, rfl⟩
              try simp only [eX, ↓reduceIte, Nat.reduceEqDiff, Int.reduceToNat]
              refine hK _ _ leA ?_; clear hK K
              apply TW_pure rfl (lt_some (by decide)) rfl
              · intro r
                simp only [x_fieldAddr, fa47_1, add_mk, Nat.reduceAdd, Nat.zero_add, eX, ↓reduceIte, Nat.reduceEqDiff]
                exact ⟨rfl, Le.refl _⟩
              simp only [eX, ↓reduceIte, Nat.reduceEqDiff, Int.reduceToNat]
              apply TW_look rfl (lt_some (by decide)) rfl
              · intro r
                simp only [x_load, eX, ↓reduceIte, Nat.reduceEqDiff]
                refine Lt_loadAt1 Try.underlying3 rfl hbA ldA ?_
                exact ⟨rfl, Le.refl _⟩
              simp only [eX, ↓reduceIte, Nat.reduceEqDiff, Int.reduceToNat]
              refine TW_last rfl (lt_some (by decide)) rfl (fun K hK r => ?_)
              simp only [x_callF _ bd51, List.map_toArray, List.map_cons, List.map_nil, eX, ↓reduceIte, Nat.reduceEqDiff, Int.reduceToNat]
              refine (register_ok _ (usesB x.op 97) x.a).mono ?_
              rintro v H' ⟨rfl, rfl⟩
              try simp only [eX, ↓reduceIte, Nat.reduceEqDiff, Int.reduceToNat]
              refine hK _ _ ?_; clear hK K
              apply TW_pure rfl (lt_some (by decide)) rfl
              · intro r
                simp only [x_un, u_not, eX, ↓reduceIte, Nat.reduceEqDiff]
                exact ⟨rfl, Le.refl _⟩
              simp only [eX, ↓reduceIte, Nat.reduceEqDiff, Int.reduceToNat]
              refine TW_nil ?_
              try simp only [Ex.thnH, Ex.inBlockH, ↓reduceIte, Nat.reduceEqDiff]
              refine hK30 _ _ ?_; try clear hK30 K30
              refine CW_cond (fun r => rfl) (fun c44 => ?_) (fun c44 => ?_)
              · first
                | (exfalso; exact cnA c44; done)
                | skip
                  (try simp only [decide_eq_true_eq, decide_eq_false_iff_not, Bool.not_eq_true, Bool.not_eq_false, Bool.and_eq_true, Bool.or_eq_true, Bool.or_eq_false_iff, Bool.not_eq_true, Bool.not_eq_eq_eq_not, Bool.not_true, Bool.not_false] at c44)
                  refine CW_seq (fun K31 hK31 => ?_)
                  refine CW_region ?_
                  refine OW_as rfl ?_
                  refine OW_nil ?_
                  try simp only [Ex.thnH, Ex.inBlockH, ↓reduceIte, Nat.reduceEqDiff]
                  refine hK31 _ _ ?_; try clear hK31 K31
                  refine CW_ret ?_
                  try simp only [Ex.thnH, Ex.inBlockH, ↓reduceIte, Nat.reduceEqDiff]
                  refine ⟨[_], ⟨rfl, trivial⟩, _, Le.refl _, ?_, lhA⟩
                  show Value.bool _ = _
                  refine congrArg Value.bool ?_
                  rw [← goodR_eq]
                  unfold goodR
                  first | (simp_all; done) | (simp_all; omega) | (simp_all <;> omega)
              · first
                | (exfalso; exact cnA c44; done)
                | skip
                  (try simp only [decide_eq_true_eq, decide_eq_false_iff_not, Bool.not_eq_true, Bool.not_eq_false, Bool.and_eq_true, Bool.or_eq_true, Bool.or_eq_false_iff, Bool.not_eq_true, Bool.not_eq_eq_eq_not, Bool.not_true, Bool.not_false] at c44)
                  refine CW_skip ?_
                  try simp only [Ex.thnH, Ex.inBlockH, ↓reduceIte, Nat.reduceEqDiff]
                  refine hK6 _ _ ?_; try clear hK6 K6
                  refine CW_seq (fun K32 hK32 => ?_)
                  refine CW_seq (fun K33 hK33 => ?_)
                  refine CW_region ?_
                  refine OW_mv rfl ?_
                  refine OW_opS (fun K hK r => ?_)
                  simp only [x_callF _ bd52, List.map_toArray, List.map_cons, List.map_nil, eX, ↓reduceIte, Nat.reduceEqDiff, Int.reduceToNat]
                  refine (uses_op _ x.op 116).mono ?_
                  rintro v H' ⟨rfl, rfl⟩
                  try simp only [eX, ↓reduceIte, Nat.reduceEqDiff, Int.reduceToNat]
                  refine hK _ _ ?_; clear hK K
                  refine OW_nil ?_
                  try simp only [Ex.thnH, Ex.inBlockH, ↓reduceIte, Nat.reduceEqDiff]
                  refine hK33 _ _ ?_; try clear hK33 K33
                  refine CW_cond (fun r => rfl) (fun c46 => ?_) (fun c46 => ?_)
                  · first
                    | (exfalso; exact cnA c46; done)
                    | skip
                      (try simp only [decide_eq_true_eq, decide_eq_false_iff_not, Bool.not_eq_true, Bool.not_eq_false, Bool.and_eq_true, Bool.or_eq_true, Bool.or_eq_false_iff, Bool.not_eq_true, Bool.not_eq_eq_eq_not, Bool.not_true, Bool.not_false] at c46)
                      refine CW_seq (fun K34 hK34 => ?_)
                      refine CW_region ?_
                      refine OW_opS (fun K hK r => ?_)
                      simp only [x_fieldAddr, fa47_4, add_mk, Nat.reduceAdd, Nat.zero_add, eX, ↓reduceIte, Nat.reduceEqDiff, Int.reduceToNat]
                      refine hK _ _ ?_; clear hK K
                      refine OW_opS (fun K hK r => ?_)
                      simp only [x_load, eX, ↓reduceIte, Nat.reduceEqDiff, Int.reduceToNat]
                      refine Lt_loadAt1 Try.underlying3 rfl hbA ldA ?_
                      try simp only [eX, ↓reduceIte, Nat.reduceEqDiff, Int.reduceToNat]
                      refine hK _ _ ?_; clear hK K
                      refine OW_opS (fun K hK r => ?_)
                      simp (disch := (first | omega | decide)) only [x_bin, g_int, b_lss, dec_lt_t, dec_lt_f, dec_le_t, dec_le_f, dec_eq_t, dec_eq_f, Bool.not_true, Bool.not_false, eX, ↓reduceIte, Nat.reduceEqDiff, Int.reduceToNat]
                      refine hK _ _ ?_; clear hK K
                      refine OW_mv rfl ?_
                      (first | refine OW_split (d := 50) rfl (fun g50 => ?_) (fun g50 => ?_) | skip)
                      all_goals try (exfalso; exact cnA g50)
                      all_goals (try simp only [decide_eq_true_eq, decide_eq_false_iff_not, Bool.not_eq_true, Bool.not_eq_false, Bool.and_eq_true, Bool.or_eq_true, Bool.or_eq_false_iff, Bool.not_eq_true, Bool.not_eq_eq_eq_not, Bool.not_true, Bool.not_false] at g50)
                      all_goals
                        try simp only [eX, ↓reduceIte, Nat.reduceEqDiff, Int.reduceToNat]
                        first
                        | refine OW_guardT rfl (lt_some (by decide)) rfl (fun K hK r => ?_)
                          simp only [x_fieldAddr, fa47_4, add_mk, Nat.reduceAdd, Nat.zero_add, eX, ↓reduceIte, Nat.reduceEqDiff, Int.reduceToNat]
                          refine hK _ _ ?_; clear hK K
                        | refine OW_guardF rfl (lt_some (by decide)) rfl ?_
                          simp only [eX, ↓reduceIte, Nat.reduceEqDiff, Int.reduceToNat]
                        first
                        | refine OW_guardT rfl (lt_some (by decide)) rfl (fun K hK r => ?_)
                          simp only [x_load, eX, ↓reduceIte, Nat.reduceEqDiff, Int.reduceToNat]
                          refine Lt_loadAt1 Try.underlying3 rfl hbA ldA ?_
                          try simp only [eX, ↓reduceIte, Nat.reduceEqDiff, Int.reduceToNat]
                          refine hK _ _ ?_; clear hK K
                        | refine OW_guardF rfl (lt_some (by decide)) rfl ?_
                          simp only [eX, ↓reduceIte, Nat.reduceEqDiff, Int.reduceToNat]
                        first
                        | refine OW_guardT rfl (lt_some (by decide)) rfl (fun K hK r => ?_)
                          simp (disch := (first | omega | decide)) only [x_bin, g_int, b_gtr, dec_lt_t, dec_lt_f, dec_le_t, dec_le_f, dec_eq_t, dec_eq_f, Bool.not_true, Bool.not_false, eX, ↓reduceIte, Nat.reduceEqDiff, Int.reduceToNat]
                          refine hK _ _ ?_; clear hK K
                        | refine OW_guardF rfl (lt_some (by decide)) rfl ?_
                          simp only [eX, ↓reduceIte, Nat.reduceEqDiff, Int.reduceToNat]
                        refine OW_opS (fun K hK r => ?_)
                        simp only [x_pick, l_asBool, HL.ite_bool, if_true, if_false, Bool.false_eq_true, eX, ↓reduceIte, Nat.reduceEqDiff, Int.reduceToNat]
                        refine hK _ _ ?_; clear hK K
                        refine OW_nil ?_
                        try simp only [Ex.thnH, Ex.inBlockH, ↓reduceIte, Nat.reduceEqDiff]
                        refine hK34 _ _ ?_; try clear hK34 K34
                        refine CW_cond (fun r => rfl) (fun c54 => ?_) (fun c54 => ?_)
                        · first
                          | (exfalso; exact cnA c54; done)
                          | skip
                            (try simp only [decide_eq_true_eq, decide_eq_false_iff_not, Bool.not_eq_true, Bool.not_eq_false, Bool.and_eq_true, Bool.or_eq_true, Bool.or_eq_false_iff, Bool.not_eq_true, Bool.not_eq_eq_eq_not, Bool.not_true, Bool.not_false] at c54)
                            refine CW_seq (fun K35 hK35 => ?_)
                            refine CW_region ?_
                            refine OW_as rfl ?_
                            refine OW_nil ?_
                            try simp only [Ex.thnH, Ex.inBlockH, ↓reduceIte, Nat.reduceEqDiff]
                            refine hK35 _ _ ?_; try clear hK35 K35
                            refine CW_ret ?_
                            try simp only [Ex.thnH, Ex.inBlockH, ↓reduceIte, Nat.reduceEqDiff]
                            refine ⟨[_], ⟨rfl, trivial⟩, _, Le.refl _, ?_, lhA⟩
                            show Value.bool _ = _
                            refine congrArg Value.bool ?_
                            rw [← goodR_eq]
                            unfold goodR
                            first | (simp_all; done) | (simp_all; omega) | (simp_all <;> omega)
                        · first
                          | (exfalso; exact cnA c54; done)
                          | skip
                            (try simp only [decide_eq_true_eq, decide_eq_false_iff_not, Bool.not_eq_true, Bool.not_eq_false, Bool.and_eq_true, Bool.or_eq_true, Bool.or_eq_false_iff, Bool.not_eq_true, Bool.not_eq_eq_eq_not, Bool.not_true, Bool.not_false] at c54)
                            refine CW_skip ?_
                            try simp only [Ex.thnH, Ex.inBlockH, ↓reduceIte, Nat.reduceEqDiff]
                            refine hK32 _ _ ?_; try clear hK32 K32
                            refine CW_seq (fun K36 hK36 => ?_)
                            refine CW_seq (fun K37 hK37 => ?_)
                            refine CW_region ?_
                            refine OW_mv rfl ?_
                            refine OW_opS (fun K hK r => ?_)
                            simp only [x_callF _ bd52, List.map_toArray, List.map_cons, List.map_nil, eX, ↓reduceIte, Nat.reduceEqDiff, Int.reduceToNat]
                            refine (uses_op _ x.op 107).mono ?_
                            rintro v H' ⟨rfl, rfl⟩
                            try simp only [eX, ↓reduceIte, Nat.reduceEqDiff, Int.reduceToNat]
                            refine hK _ _ ?_; clear hK K
                            refine OW_nil ?_
                            try simp only [Ex.thnH, Ex.inBlockH, ↓reduceIte, Nat.reduceEqDiff]
                            refine hK37 _ _ ?_; try clear hK37 K37
                            refine CW_cond (fun r => rfl) (fun c59 => ?_) (fun c59 => ?_)
                            · first
                              | (exfalso; exact cnA c59; done)
                              | skip
                                (try simp only [decide_eq_true_eq, decide_eq_false_iff_not, Bool.not_eq_true, Bool.not_eq_false, Bool.and_eq_true, Bool.or_eq_true, Bool.or_eq_false_iff, Bool.not_eq_true, Bool.not_eq_eq_eq_not, Bool.not_true, Bool.not_false] at c59)
                                refine CW_seq (fun K38 hK38 => ?_)
                                refine CW_region ?_
                                refine OW_opS (fun K hK r => ?_)
                                simp only [x_fieldAddr, fa47_5, add_mk, Nat.reduceAdd, Nat.zero_add, eX, ↓reduceIte, Nat.reduceEqDiff, Int.reduceToNat]
                                refine hK _ _ ?_; clear hK K
                                refine OW_opS (fun K hK r => ?_)
                                simp only [x_load, eX, ↓reduceIte, Nat.reduceEqDiff, Int.reduceToNat]
                                refine Lt_loadAt1 Try.underlying3 rfl hbA ldA ?_
                                try simp only [eX, ↓reduceIte, Nat.reduceEqDiff, Int.reduceToNat]
                                refine hK _ _ ?_; clear hK K
                                refine OW_opS (fun K hK r => ?_)
                                simp (disch := (first | omega | decide)) only [x_bin, g_int, b_geq, dec_lt_t, dec_lt_f, dec_le_t, dec_le_f, dec_eq_t, dec_eq_f, Bool.not_true, Bool.not_false, eX, ↓reduceIte, Nat.reduceEqDiff, Int.reduceToNat]
                                refine hK _ _ ?_; clear hK K
                                refine OW_mv rfl ?_
                                (first | refine OW_split (d := 63) rfl (fun g63 => ?_) (fun g63 => ?_) | skip)
                                all_goals try (exfalso; exact cnA g63)
                                all_goals (try simp only [decide_eq_true_eq, decide_eq_false_iff_not, Bool.not_eq_true, Bool.not_eq_false, Bool.and_eq_true, Bool.or_eq_true, Bool.or_eq_false_iff, Bool.not_eq_true, Bool.not_eq_eq_eq_not, Bool.not_true, Bool.not_false] at g63)
                                all_goals
                                  try simp only [eX, ↓reduceIte, Nat.reduceEqDiff, Int.reduceToNat]
                                  first
                                  | refine OW_guardT rfl (lt_some (by decide)) rfl (fun K hK r => ?_)
                                    simp only [x_fieldAddr, fa47_5, add_mk, Nat.reduceAdd, Nat.zero_add, eX, ↓reduceIte, Nat.reduceEqDiff, Int.reduceToNat]
                                    refine hK _ _ ?_; clear hK K
                                  | refine OW_guardF rfl (lt_some (by decide)) rfl ?_
                                    simp only [eX, ↓reduceIte, Nat.reduceEqDiff, Int.reduceToNat]
                                  first
                                  | refine OW_guardT rfl (lt_some (by decide)) rfl (fun K hK r => ?_)
                                    simp only [x_load, eX, ↓reduceIte, Nat.reduceEqDiff, Int.reduceToNat]
                                    refine Lt_loadAt1 Try.underlying3 rfl hbA ldA ?_
                                    try simp only [eX, ↓reduceIte, Nat.reduceEqDiff, Int.reduceToNat]
                                    refine hK _ _ ?_; clear hK K
                                  | refine OW_guardF rfl (lt_some (by decide)) rfl ?_
                                    simp only [eX, ↓reduceIte, Nat.reduceEqDiff, Int.reduceToNat]
                                  first
                                  | refine OW_guardT rfl (lt_some (by decide)) rfl (fun K hK r => ?_)
                                    simp (disch := (first | omega | decide)) only [x_bin, g_int, b_leq, dec_lt_t, dec_lt_f, dec_le_t, dec_le_f, dec_eq_t, dec_eq_f, Bool.not_true, Bool.not_false, eX, ↓reduceIte, Nat.reduceEqDiff, Int.reduceToNat]
                                    refine hK _ _ ?_; clear hK K
                                  | refine OW_guardF rfl (lt_some (by decide)) rfl ?_
                                    simp only [eX, ↓reduceIte, Nat.reduceEqDiff, Int.reduceToNat]
                                  refine OW_opS (fun K hK r => ?_)
                                  simp only [x_pick, l_asBool, HL.ite_bool, if_true, if_false, Bool.false_eq_true, eX, ↓reduceIte, Nat.reduceEqDiff, Int.reduceToNat]
                                  refine hK _ _ ?_; clear hK K
                                  refine OW_as rfl ?_
                                  refine OW_nil ?_
                                  try simp only [Ex.thnH, Ex.inBlockH, ↓reduceIte, Nat.reduceEqDiff]
                                  refine hK38 _ _ ?_; try clear hK38 K38
                                  refine CW_ret ?_
                                  try simp only [Ex.thnH, Ex.inBlockH, ↓reduceIte, Nat.reduceEqDiff]
                                  refine ⟨[_], ⟨rfl, trivial⟩, _, Le.refl _, ?_, lhA⟩
                                  show Value.bool _ = _
                                  refine congrArg Value.bool ?_
                                  rw [← goodR_eq]
                                  unfold goodR
                                  first | (simp_all; done) | (simp_all; omega) | (simp_all <;> omega)
                            · first
                              | (exfalso; exact cnA c59; done)
                              | skip
                                (try simp only [decide_eq_true_eq, decide_eq_false_iff_not, Bool.not_eq_true, Bool.not_eq_false, Bool.and_eq_true, Bool.or_eq_true, Bool.or_eq_false_iff, Bool.not_eq_true, Bool.not_eq_eq_eq_not, Bool.not_true, Bool.not_false] at c59)
                                refine CW_skip ?_
                                try simp only [Ex.thnH, Ex.inBlockH, ↓reduceIte, Nat.reduceEqDiff]
                                refine hK36 _ _ ?_; try clear hK36 K36
                                refine CW_seq (fun K39 hK39 => ?_)
                                refine CW_seq (fun K40 hK40 => ?_)
                                refine CW_region ?_
                                refine OW_mv rfl ?_
                                refine OW_opS (fun K hK r => ?_)
                                simp only [x_callF _ bd52, List.map_toArray, List.map_cons, List.map_nil, eX, ↓reduceIte, Nat.reduceEqDiff, Int.reduceToNat]
                                refine (uses_op _ x.op 106).mono ?_
                                rintro v H' ⟨rfl, rfl⟩
                                try simp only [eX, ↓reduceIte, Nat.reduceEqDiff, Int.reduceToNat]
                                refine hK _ _ ?_; clear hK K
                                refine OW_nil ?_
                                try simp only [Ex.thnH, Ex.inBlockH, ↓reduceIte, Nat.reduceEqDiff]
                                refine hK40 _ _ ?_; try clear hK40 K40
                                refine CW_cond (fun r => rfl) (fun c69 => ?_) (fun c69 => ?_)
                                · first
                                  | (exfalso; exact cnA c69; done)
                                  | skip
                                    (try simp only [decide_eq_true_eq, decide_eq_false_iff_not, Bool.not_eq_true, Bool.not_eq_false, Bool.and_eq_true, Bool.or_eq_true, Bool.or_eq_false_iff, Bool.not_eq_true, Bool.not_eq_eq_eq_not, Bool.not_true, Bool.not_false] at c69)
                                    refine CW_seq (fun K41 hK41 => ?_)
                                    refine CW_region ?_
                                    refine OW_opS (fun K hK r => ?_)
                                    simp only [x_fieldAddr, fa47_5, add_mk, Nat.reduceAdd, Nat.zero_add, eX, ↓reduceIte, Nat.reduceEqDiff, Int.reduceToNat]
                                    refine hK _ _ ?_; clear hK K
                                    refine OW_opS (fun K hK r => ?_)
                                    simp only [x_load, eX, ↓reduceIte, Nat.reduceEqDiff, Int.reduceToNat]
                                    refine Lt_loadAt1 Try.underlying3 rfl hbA ldA ?_
                                    try simp only [eX, ↓reduceIte, Nat.reduceEqDiff, Int.reduceToNat]
                                    refine hK _ _ ?_; clear hK K
                                    refine OW_opS (fun K hK r => ?_)
                                    simp (disch := (first | omega | decide)) only [x_bin, g_int, b_geq, dec_lt_t, dec_lt_f, dec_le_t, dec_le_f, dec_eq_t, dec_eq_f, Bool.not_true, Bool.not_false, eX, ↓reduceIte, Nat.reduceEqDiff, Int.reduceToNat]
                                    refine hK _ _ ?_; clear hK K
                                    refine OW_mv rfl ?_
                                    (first | refine OW_split (d := 73) rfl (fun g73 => ?_) (fun g73 => ?_) | skip)
                                    all_goals try (exfalso; exact cnA g73)
                                    all_goals (try simp only [decide_eq_true_eq, decide_eq_false_iff_not, Bool.not_eq_true, Bool.not_eq_false, Bool.and_eq_true, Bool.or_eq_true, Bool.or_eq_false_iff, Bool.not_eq_true, Bool.not_eq_eq_eq_not, Bool.not_true, Bool.not_false] at g73)
                                    all_goals
                                      try simp only [eX, ↓reduceIte, Nat.reduceEqDiff, Int.reduceToNat]
                                      first
                                      | refine OW_guardT rfl (lt_some (by decide)) rfl (fun K hK r => ?_)
                                        simp only [x_fieldAddr, fa47_5, add_mk, Nat.reduceAdd, Nat.zero_add, eX, ↓reduceIte, Nat.reduceEqDiff, Int.reduceToNat]
                                        refine hK _ _ ?_; clear hK K
                                      | refine OW_guardF rfl (lt_some (by decide)) rfl ?_
                                        simp only [eX, ↓reduceIte, Nat.reduceEqDiff, Int.reduceToNat]
                                      first
                                      | refine OW_guardT rfl (lt_some (by decide)) rfl (fun K hK r => ?_)
                                        simp only [x_load, eX, ↓reduceIte, Nat.reduceEqDiff, Int.reduceToNat]
                                        refine Lt_loadAt1 Try.underlying3 rfl hbA ldA ?_
                                        try simp only [eX, ↓reduceIte, Nat.reduceEqDiff, Int.reduceToNat]
                                        refine hK _ _ ?_; clear hK K
                                      | refine OW_guardF rfl (lt_some (by decide)) rfl ?_
                                        simp only [eX, ↓reduceIte, Nat.reduceEqDiff, Int.reduceToNat]
                                      first
                                      | refine OW_guardT rfl (lt_some (by decide)) rfl (fun K hK r => ?_)
                                        simp (disch := (first | omega | decide)) only [x_bin, g_int, b_leq, dec_lt_t, dec_lt_f, dec_le_t, dec_le_f, dec_eq_t, dec_eq_f, Bool.not_true, Bool.not_false, eX, ↓reduceIte, Nat.reduceEqDiff, Int.reduceToNat]
                                        refine hK _ _ ?_; clear hK K
                                      | refine OW_guardF rfl (lt_some (by decide)) rfl ?_
                                        simp only [eX, ↓reduceIte, Nat.reduceEqDiff, Int.reduceToNat]
                                      refine OW_opS (fun K hK r => ?_)
                                      simp only [x_pick, l_asBool, HL.ite_bool, if_true, if_false, Bool.false_eq_true, eX, ↓reduceIte, Nat.reduceEqDiff, Int.reduceToNat]
                                      refine hK _ _ ?_; clear hK K
                                      refine OW_as rfl ?_
                                      refine OW_nil ?_
                                      try simp only [Ex.thnH, Ex.inBlockH, ↓reduceIte, Nat.reduceEqDiff]
                                      refine hK41 _ _ ?_; try clear hK41 K41
                                      refine CW_ret ?_
                                      try simp only [Ex.thnH, Ex.inBlockH, ↓reduceIte, Nat.reduceEqDiff]
                                      refine ⟨[_], ⟨rfl, trivial⟩, _, Le.refl _, ?_, lhA⟩
                                      show Value.bool _ = _
                                      refine congrArg Value.bool ?_
                                      rw [← goodR_eq]
                                      unfold goodR
                                      first | (simp_all; done) | (simp_all; omega) | (simp_all <;> omega)
                                · first
                                  | (exfalso; exact cnA c69; done)
                                  | skip
                                    (try simp only [decide_eq_true_eq, decide_eq_false_iff_not, Bool.not_eq_true, Bool.not_eq_false, Bool.and_eq_true, Bool.or_eq_true, Bool.or_eq_false_iff, Bool.not_eq_true, Bool.not_eq_eq_eq_not, Bool.not_true, Bool.not_false] at c69)
                                    refine CW_skip ?_
                                    try simp only [Ex.thnH, Ex.inBlockH, ↓reduceIte, Nat.reduceEqDiff]
                                    refine hK39 _ _ ?_; try clear hK39 K39
                                    refine CW_seq (fun K42 hK42 => ?_)
                                    refine CW_region ?_
                                    refine OW_mv rfl ?_
                                    refine OW_opS (fun K hK r => ?_)
                                    simp only [x_callF _ bd52, List.map_toArray, List.map_cons, List.map_nil, eX, ↓reduceIte, Nat.reduceEqDiff, Int.reduceToNat]
                                    refine (uses_op _ x.op 110).mono ?_
                                    rintro v H' ⟨rfl, rfl⟩
                                    try simp only [eX, ↓reduceIte, Nat.reduceEqDiff, Int.reduceToNat]
                                    refine hK _ _ ?_; clear hK K
                                    refine OW_mv rfl ?_
                                    (first | refine OW_split (d := 80) rfl (fun g80 => ?_) (fun g80 => ?_) | skip)
                                    all_goals try (exfalso; exact cnA g80)
                                    all_goals (try simp only [decide_eq_true_eq, decide_eq_false_iff_not, Bool.not_eq_true, Bool.not_eq_false, Bool.and_eq_true, Bool.or_eq_true, Bool.or_eq_false_iff, Bool.not_eq_true, Bool.not_eq_eq_eq_not, Bool.not_true, Bool.not_false] at g80)
                                    all_goals
                                      try simp only [eX, ↓reduceIte, Nat.reduceEqDiff, Int.reduceToNat]
                                      first
                                      | refine OW_guardT rfl (lt_some (by decide)) rfl (fun K hK r => ?_)
                                        simp only [x_fieldAddr, fa47_5, add_mk, Nat.reduceAdd, Nat.zero_add, eX, ↓reduceIte, Nat.reduceEqDiff, Int.reduceToNat]
                                        refine hK _ _ ?_; clear hK K
                                      | refine OW_guardF rfl (lt_some (by decide)) rfl ?_
                                        simp only [eX, ↓reduceIte, Nat.reduceEqDiff, Int.reduceToNat]
                                      first
                                      | refine OW_guardT rfl (lt_some (by decide)) rfl (fun K hK r => ?_)
                                        simp only [x_load, eX, ↓reduceIte, Nat.reduceEqDiff, Int.reduceToNat]
                                        refine Lt_loadAt1 Try.underlying3 rfl hbA ldA ?_
                                        try simp only [eX, ↓reduceIte, Nat.reduceEqDiff, Int.reduceToNat]
                                        refine hK _ _ ?_; clear hK K
                                      | refine OW_guardF rfl (lt_some (by decide)) rfl ?_
                                        simp only [eX, ↓reduceIte, Nat.reduceEqDiff, Int.reduceToNat]
                                      first
                                      | refine OW_guardT rfl (lt_some (by decide)) rfl (fun K hK r => ?_)
                                        simp (disch := (first | omega | decide)) only [x_bin, g_int, b_eql, dec_lt_t, dec_lt_f, dec_le_t, dec_le_f, dec_eq_t, dec_eq_f, Bool.not_true, Bool.not_false, eX, ↓reduceIte, Nat.reduceEqDiff, Int.reduceToNat]
                                        refine hK _ _ ?_; clear hK K
                                      | refine OW_guardF rfl (lt_some (by decide)) rfl ?_
                                        simp only [eX, ↓reduceIte, Nat.reduceEqDiff, Int.reduceToNat]
                                      refine OW_opS (fun K hK r => ?_)
                                      simp only [x_pick, l_asBool, HL.ite_bool, if_true, if_false, Bool.false_eq_true, eX, ↓reduceIte, Nat.reduceEqDiff, Int.reduceToNat]
                                      refine hK _ _ ?_; clear hK K
                                      refine OW_as rfl ?_
                                      refine OW_nil ?_
                                      try simp only [Ex.thnH, Ex.inBlockH, ↓reduceIte, Nat.reduceEqDiff]
                                      refine hK42 _ _ ?_; try clear hK42 K42
                                      refine CW_ret ?_
                                      try simp only [Ex.thnH, Ex.inBlockH, ↓reduceIte, Nat.reduceEqDiff]
                                      refine ⟨[_], ⟨rfl, trivial⟩, _, Le.refl _, ?_, lhA⟩
                                      show Value.bool _ = _
                                      refine congrArg Value.bool ?_
                                      rw [← goodR_eq]
                                      unfold goodR
                                      first | (simp_all; done) | (simp_all; omega) | (simp_all <;> omega)
                  · first
                    | (exfalso; exact cnA c46; done)
                    | skip
                      (try simp only [decide_eq_true_eq, decide_eq_false_iff_not, Bool.not_eq_true, Bool.not_eq_false, Bool.and_eq_true, Bool.or_eq_true, Bool.or_eq_false_iff, Bool.not_eq_true, Bool.not_eq_eq_eq_not, Bool.not_true, Bool.not_false] at c46)
                      refine CW_seq (fun K43 hK43 => ?_)
                      refine CW_region ?_
                      refine OW_opS (fun K hK r => ?_)
                      simp only [x_fieldAddr, fa47_4, add_mk, Nat.reduceAdd, Nat.zero_add, eX, ↓reduceIte, Nat.reduceEqDiff, Int.reduceToNat]
                      refine hK _ _ ?_; clear hK K
                      refine OW_opS (fun K hK r => ?_)
                      simp only [x_load, eX, ↓reduceIte, Nat.reduceEqDiff, Int.reduceToNat]
                      refine Lt_loadAt1 Try.underlying3 rfl hbA ldA ?_
                      try simp only [eX, ↓reduceIte, Nat.reduceEqDiff, Int.reduceToNat]
                      refine hK _ _ ?_; clear hK K
                      refine OW_opS (fun K hK r => ?_)
                      simp (disch := (first | omega | decide)) only [x_bin, g_int, b_neq, dec_lt_t, dec_lt_f, dec_le_t, dec_le_f, dec_eq_t, dec_eq_f, Bool.not_true, Bool.not_false, eX, ↓reduceIte, Nat.reduceEqDiff, Int.reduceToNat]
                      refine hK _ _ ?_; clear hK K
                      refine OW_nil ?_
                      try simp only [Ex.thnH, Ex.inBlockH, ↓reduceIte, Nat.reduceEqDiff]
                      refine hK43 _ _ ?_; try clear hK43 K43
                      refine CW_cond (fun r => rfl) (fun c57 => ?_) (fun c57 => ?_)
                      · first
                        | (exfalso; exact cnA c57; done)
                        | skip
                          (try simp only [decide_eq_true_eq, decide_eq_false_iff_not, Bool.not_eq_true, Bool.not_eq_false, Bool.and_eq_true, Bool.or_eq_true, Bool.or_eq_false_iff, Bool.not_eq_true, Bool.not_eq_eq_eq_not, Bool.not_true, Bool.not_false] at c57)
                          refine CW_seq (fun K44 hK44 => ?_)
                          refine CW_region ?_
                          refine OW_as rfl ?_
                          refine OW_nil ?_
                          try simp only [Ex.thnH, Ex.inBlockH, ↓reduceIte, Nat.reduceEqDiff]
                          refine hK44 _ _ ?_; try clear hK44 K44
                          refine CW_ret ?_
                          try simp only [Ex.thnH, Ex.inBlockH, ↓reduceIte, Nat.reduceEqDiff]
                          refine ⟨[_], ⟨rfl, trivial⟩, _, Le.refl _, ?_, lhA⟩
                          show Value.bool _ = _
                          refine congrArg Value.bool ?_
                          rw [← goodR_eq]
                          unfold goodR
                          first | (simp_all; done) | (simp_all; omega) | (simp_all <;> omega)
                      · first
                        | (exfalso; exact cnA c57; done)
                        | skip
                          (try simp only [decide_eq_true_eq, decide_eq_false_iff_not, Bool.not_eq_true, Bool.not_eq_false, Bool.and_eq_true, Bool.or_eq_true, Bool.or_eq_false_iff, Bool.not_eq_true, Bool.not_eq_eq_eq_not, Bool.not_true, Bool.not_false] at c57)
                          refine CW_skip ?_
                          try simp only [Ex.thnH, Ex.inBlockH, ↓reduceIte, Nat.reduceEqDiff]
                          refine hK32 _ _ ?_; try clear hK32 K32
                          refine CW_seq (fun K45 hK45 => ?_)
                          refine CW_seq (fun K46 hK46 => ?_)
                          refine CW_region ?_
                          refine OW_mv rfl ?_
                          refine OW_opS (fun K hK r => ?_)
                          simp only [x_callF _ bd52, List.map_toArray, List.map_cons, List.map_nil, eX, ↓reduceIte, Nat.reduceEqDiff, Int.reduceToNat]
                          refine (uses_op _ x.op 107).mono ?_
                          rintro v H' ⟨rfl, rfl⟩
                          try simp only [eX, ↓reduceIte, Nat.reduceEqDiff, Int.reduceToNat]
                          refine hK _ _ ?_; clear hK K
                          refine OW_nil ?_
                          try simp only [Ex.thnH, Ex.inBlockH, ↓reduceIte, Nat.reduceEqDiff]
                          refine hK46 _ _ ?_; try clear hK46 K46
                          refine CW_cond (fun r => rfl) (fun c59 => ?_) (fun c59 => ?_)
                          · first
                            | (exfalso; exact cnA c59; done)
                            | skip
                              (try simp only [decide_eq_true_eq, decide_eq_false_iff_not, Bool.not_eq_true, Bool.not_eq_false, Bool.and_eq_true, Bool.or_eq_true, Bool.or_eq_false_iff, Bool.not_eq_true, Bool.not_eq_eq_eq_not, Bool.not_true, Bool.not_false] at c59)
                              refine CW_seq (fun K47 hK47 => ?_)
                              refine CW_region ?_
                              refine OW_opS (fun K hK r => ?_)
                              simp only [x_fieldAddr, fa47_5, add_mk, Nat.reduceAdd, Nat.zero_add, eX, ↓reduceIte, Nat.reduceEqDiff, Int.reduceToNat]
                              refine hK _ _ ?_; clear hK K
                              refine OW_opS (fun K hK r => ?_)
                              simp only [x_load, eX, ↓reduceIte, Nat.reduceEqDiff, Int.reduceToNat]
                              refine Lt_loadAt1 Try.underlying3 rfl hbA ldA ?_
                              try simp only [eX, ↓reduceIte, Nat.reduceEqDiff, Int.reduceToNat]
                              refine hK _ _ ?_; clear hK K
                              refine OW_opS (fun K hK r => ?_)
                              simp (disch := (first | omega | decide)) only [x_bin, g_int, b_geq, dec_lt_t, dec_lt_f, dec_le_t, dec_le_f, dec_eq_t, dec_eq_f, Bool.not_true, Bool.not_false, eX, ↓reduceIte, Nat.reduceEqDiff, Int.reduceToNat]
                              refine hK _ _ ?_; clear hK K
                              refine OW_mv rfl ?_
                              (first | refine OW_split (d := 63) rfl (fun g63 => ?_) (fun g63 => ?_) | skip)
                              all_goals try (exfalso; exact cnA g63)
                              all_goals (try simp only [decide_eq_true_eq, decide_eq_false_iff_not, Bool.not_eq_true, Bool.not_eq_false, Bool.and_eq_true, Bool.or_eq_true, Bool.or_eq_false_iff, Bool.not_eq_true, Bool.not_eq_eq_eq_not, Bool.not_true, Bool.not_false] at g63)
                              all_goals
                                try simp only [eX, ↓reduceIte, Nat.reduceEqDiff, Int.reduceToNat]
                                first
                                | refine OW_guardT rfl (lt_some (by decide)) rfl (fun K hK r => ?_)
                                  simp only [x_fieldAddr, fa47_5, add_mk, Nat.reduceAdd, Nat.zero_add, eX, ↓reduceIte, Nat.reduceEqDiff, Int.reduceToNat]
                                  refine hK _ _ ?_; clear hK K
                                | refine OW_guardF rfl (lt_some (by decide)) rfl ?_
                                  simp only [eX, ↓reduceIte, Nat.reduceEqDiff, Int.reduceToNat]
                                first
                                | refine OW_guardT rfl (lt_some (by decide)) rfl (fun K hK r => ?_)
                                  simp only [x_load, eX, ↓reduceIte, Nat.reduceEqDiff, Int.reduceToNat]
                                  refine Lt_loadAt1 Try.underlying3 rfl hbA ldA ?_
                                  try simp only [eX, ↓reduceIte, Nat.reduceEqDiff, Int.reduceToNat]
                                  refine hK _ _ ?_; clear hK K
                                | refine OW_guardF rfl (lt_some (by decide)) rfl ?_
                                  simp only [eX, ↓reduceIte, Nat.reduceEqDiff, Int.reduceToNat]
                                first
                                | refine OW_guardT rfl (lt_some (by decide)) rfl (fun K hK r => ?_)
                                  simp (disch := (first | omega | decide)) only [x_bin, g_int, b_leq, dec_lt_t, dec_lt_f, dec_le_t, dec_le_f, dec_eq_t, dec_eq_f, Bool.not_true, Bool.not_false, eX, ↓reduceIte, Nat.reduceEqDiff, Int.reduceToNat]
                                  refine hK _ _ ?_; clear hK K
                                | refine OW_guardF rfl (lt_some (by decide)) rfl ?_
                                  simp only [eX, ↓reduceIte, Nat.reduceEqDiff, Int.reduceToNat]
                                refine OW_opS (fun K hK r => ?_)
                                simp only [x_pick, l_asBool, HL.ite_bool, if_true, if_false, Bool.false_eq_true, eX, ↓reduceIte, Nat.reduceEqDiff, Int.reduceToNat]
                                refine hK _ _ ?_; clear hK K
                                refine OW_as rfl ?_
                                refine OW_nil ?_
                                try simp only [Ex.thnH, Ex.inBlockH, ↓reduceIte, Nat.reduceEqDiff]
                                refine hK47 _ _ ?_; try clear hK47 K47
                                refine CW_ret ?_
                                try simp only [Ex.thnH, Ex.inBlockH, ↓reduceIte, Nat.reduceEqDiff]
                                refine ⟨[_], ⟨rfl, trivial⟩, _, Le.refl _, ?_, lhA⟩
                                show Value.bool _ = _
                                refine congrArg Value.bool ?_
                                rw [← goodR_eq]
                                unfold goodR
                                first | (simp_all; done) | (simp_all; omega) | (simp_all <;> omega)
                          · first
                            | (exfalso; exact cnA c59; done)
                            | skip
                              (try simp only [decide_eq_true_eq, decide_eq_false_iff_not, Bool.not_eq_true, Bool.not_eq_false, Bool.and_eq_true, Bool.or_eq_true, Bool.or_eq_false_iff, Bool.not_eq_true, Bool.not_eq_eq_eq_not, Bool.not_true, Bool.not_false] at c59)
                              refine CW_skip ?_
                              try simp only [Ex.thnH, Ex.inBlockH, ↓reduceIte, Nat.reduceEqDiff]
                              refine hK45 _ _ ?_; try clear hK45 K45
                              refine CW_seq (fun K48 hK48 => ?_)
                              refine CW_seq (fun K49 hK49 => ?_)
                              refine CW_region ?_
                              refine OW_mv rfl ?_
                              refine OW_opS (fun K hK r => ?_)
                              simp only [x_callF _ bd52, List.map_toArray, List.map_cons, List.map_nil, eX, ↓reduceIte, Nat.reduceEqDiff, Int.reduceToNat]
                              refine (uses_op _ x.op 106).mono ?_
                              rintro v H' ⟨rfl, rfl⟩
                              try simp only [eX, ↓reduceIte, Nat.reduceEqDiff, Int.reduceToNat]
                              refine hK _ _ ?_; clear hK K
                              refine OW_nil ?_
                              try simp only [Ex.thnH, Ex.inBlockH, ↓reduceIte, Nat.reduceEqDiff]
                              refine hK49 _ _ ?_; try clear hK49 K49
                              refine CW_cond (fun r => rfl) (fun c69 => ?_) (fun c69 => ?_)
                              · first
                                | (exfalso; exact cnA c69; done)
                                | skip
                                  (try simp only [decide_eq_true_eq, decide_eq_false_iff_not, Bool.not_eq_true, Bool.not_eq_false, Bool.and_eq_true, Bool.or_eq_true, Bool.or_eq_false_iff, Bool.not_eq_true, Bool.not_eq_eq_eq_not, Bool.not_true, Bool.not_false] at c69)
                                  refine CW_seq (fun K50 hK50 => ?_)
                                  refine CW_region ?_
                                  refine OW_opS (fun K hK r => ?_)
                                  simp only [x_fieldAddr, fa47_5, add_mk, Nat.reduceAdd, Nat.zero_add, eX, ↓reduceIte, Nat.reduceEqDiff, Int.reduceToNat]
                                  refine hK _ _ ?_; clear hK K
                                  refine OW_opS (fun K hK r => ?_)
                                  simp only [x_load, eX, ↓reduceIte, Nat.reduceEqDiff, Int.reduceToNat]
                                  refine Lt_loadAt1 Try.underlying3 rfl hbA ldA ?_
                                  try simp only [eX, ↓reduceIte, Nat.reduceEqDiff, Int.reduceToNat]
                                  refine hK _ _ ?_; clear hK K
                                  refine OW_opS (fun K hK r => ?_)
                                  simp (disch := (first | omega | decide)) only [x_bin, g_int, b_geq, dec_lt_t, dec_lt_f, dec_le_t, dec_le_f, dec_eq_t, dec_eq_f, Bool.not_true, Bool.not_false, eX, ↓reduceIte, Nat.reduceEqDiff, Int.reduceToNat]
                                  refine hK _ _ ?_; clear hK K
                                  refine OW_mv rfl ?_
                                  (first | refine OW_split (d := 73) rfl (fun g73 => ?_) (fun g73 => ?_) | skip)
                                  all_goals try (exfalso; exact cnA g73)
                                  all_goals (try simp only [decide_eq_true_eq, decide_eq_false_iff_not, Bool.not_eq_true, Bool.not_eq_false, Bool.and_eq_true, Bool.or_eq_true, Bool.or_eq_false_iff, Bool.not_eq_true, Bool.not_eq_eq_eq_not, Bool.not_true, Bool.not_false] at g73)
                                  all_goals
                                    try simp only [eX, ↓reduceIte, Nat.reduceEqDiff, Int.reduceToNat]
                                    first
                                    | refine OW_guardT rfl (lt_some (by decide)) rfl (fun K hK r => ?_)
                                      simp only [x_fieldAddr, fa47_5, add_mk, Nat.reduceAdd, Nat.zero_add, eX, ↓reduceIte, Nat.reduceEqDiff, Int.reduceToNat]
                                      refine hK _ _ ?_; clear hK K
                                    | refine OW_guardF rfl (lt_some (by decide)) rfl ?_
                                      simp only [eX, ↓reduceIte, Nat.reduceEqDiff, Int.reduceToNat]
                                    first
                                    | refine OW_guardT rfl (lt_some (by decide)) rfl (fun K hK r => ?_)
                                      simp only [x_load, eX, ↓reduceIte, Nat.reduceEqDiff, Int.reduceToNat]
                                      refine Lt_loadAt1 Try.underlying3 rfl hbA ldA ?_
                                      try simp only [eX, ↓reduceIte, Nat.reduceEqDiff, Int.reduceToNat]
                                      refine hK _ _ ?_; clear hK K
                                    | refine OW_guardF rfl (lt_some (by decide)) rfl ?_
                                      simp only [eX, ↓reduceIte, Nat.reduceEqDiff, Int.reduceToNat]
                                    first
                                    | refine OW_guardT rfl (lt_some (by decide)) rfl (fun K hK r => ?_)
                                      simp (disch := (first | omega | decide)) only [x_bin, g_int, b_leq, dec_lt_t, dec_lt_f, dec_le_t, dec_le_f, dec_eq_t, dec_eq_f, Bool.not_true, Bool.not_false, eX, ↓reduceIte, Nat.reduceEqDiff, Int.reduceToNat]
                                      refine hK _ _ ?_; clear hK K
                                    | refine OW_guardF rfl (lt_some (by decide)) rfl ?_
                                      simp only [eX, ↓reduceIte, Nat.reduceEqDiff, Int.reduceToNat]
                                    refine OW_opS (fun K hK r => ?_)
                                    simp only [x_pick, l_asBool, HL.ite_bool, if_true, if_false, Bool.false_eq_true, eX, ↓reduceIte, Nat.reduceEqDiff, Int.reduceToNat]
                                    refine hK _ _ ?_; clear hK K
                                    refine OW_as rfl ?_
                                    refine OW_nil ?_
                                    try simp only [Ex.thnH, Ex.inBlockH, ↓reduceIte, Nat.reduceEqDiff]
                                    refine hK50 _ _ ?_; try clear hK50 K50
                                    refine CW_ret ?_
                                    try simp only [Ex.thnH, Ex.inBlockH, ↓reduceIte, Nat.reduceEqDiff]
                                    refine ⟨[_], ⟨rfl, trivial⟩, _, Le.refl _, ?_, lhA⟩
                                    show Value.bool _ = _
                                    refine congrArg Value.bool ?_
                                    rw [← goodR_eq]
                                    unfold goodR
                                    first | (simp_all; done) | (simp_all; omega) | (simp_all <;> omega)
                              · first
                                | (exfalso; exact cnA c69; done)
                                | skip
                                  (try simp only [decide_eq_true_eq, decide_eq_false_iff_not, Bool.not_eq_true, Bool.not_eq_false, Bool.and_eq_true, Bool.or_eq_true, Bool.or_eq_false_iff, Bool.not_eq_true, Bool.not_eq_eq_eq_not, Bool.not_true, Bool.not_false] at c69)
                                  refine CW_skip ?_
                                  try simp only [Ex.thnH, Ex.inBlockH, ↓reduceIte, Nat.reduceEqDiff]
                                  refine hK48 _ _ ?_; try clear hK48 K48
                                  refine CW_seq (fun K51 hK51 => ?_)
                                  refine CW_region ?_
                                  refine OW_mv rfl ?_
                                  refine OW_opS (fun K hK r => ?_)
                                  simp only [x_callF _ bd52, List.map_toArray, List.map_cons, List.map_nil, eX, ↓reduceIte, Nat.reduceEqDiff, Int.reduceToNat]
                                  refine (uses_op _ x.op 110).mono ?_
                                  rintro v H' ⟨rfl, rfl⟩
                                  try simp only [eX, ↓reduceIte, Nat.reduceEqDiff, Int.reduceToNat]
                                  refine hK _ _ ?_; clear hK K
                                  refine OW_mv rfl ?_
                                  (first | refine OW_split (d := 80) rfl (fun g80 => ?_) (fun g80 => ?_) | skip)
                                  all_goals try (exfalso; exact cnA g80)
                                  all_goals (try simp only [decide_eq_true_eq, decide_eq_false_iff_not, Bool.not_eq_true, Bool.not_eq_false, Bool.and_eq_true, Bool.or_eq_true, Bool.or_eq_false_iff, Bool.not_eq_true, Bool.not_eq_eq_eq_not, Bool.not_true, Bool.not_false] at g80)
                                  all_goals
                                    try simp only [eX, ↓reduceIte, Nat.reduceEqDiff, Int.reduceToNat]
                                    first
                                    | refine OW_guardT rfl (lt_some (by decide)) rfl (fun K hK r => ?_)
                                      simp only [x_fieldAddr, fa47_5, add_mk, Nat.reduceAdd, Nat.zero_add, eX, ↓reduceIte, Nat.reduceEqDiff, Int.reduceToNat]
                                      refine hK _ _ ?_; clear hK K
                                    | refine OW_guardF rfl (lt_some (by decide)) rfl ?_
                                      simp only [eX, ↓reduceIte, Nat.reduceEqDiff, Int.reduceToNat]
                                    first
                                    | refine OW_guardT rfl (lt_some (by decide)) rfl (fun K hK r => ?_)
                                      simp only [x_load, eX, ↓reduceIte, Nat.reduceEqDiff, Int.reduceToNat]
                                      refine Lt_loadAt1 Try.underlying3 rfl hbA ldA ?_
                                      try simp only [eX, ↓reduceIte, Nat.reduceEqDiff, Int.reduceToNat]
                                      refine hK _ _ ?_; clear hK K
                                    | refine OW_guardF rfl (lt_some (by decide)) rfl ?_
                                      simp only [eX, ↓reduceIte, Nat.reduceEqDiff, Int.reduceToNat]
                                    first
                                    | refine OW_guardT rfl (lt_some (by decide)) rfl (fun K hK r => ?_)
                                      simp (disch := (first | omega | decide)) only [x_bin, g_int, b_eql, dec_lt_t, dec_lt_f, dec_le_t, dec_le_f, dec_eq_t, dec_eq_f, Bool.not_true, Bool.not_false, eX, ↓reduceIte, Nat.reduceEqDiff, Int.reduceToNat]
                                      refine hK _ _ ?_; clear hK K
                                    | refine OW_guardF rfl (lt_some (by decide)) rfl ?_
                                      simp only [eX, ↓reduceIte, Nat.reduceEqDiff, Int.reduceToNat]
                                    refine OW_opS (fun K hK r => ?_)
                                    simp only [x_pick, l_asBool, HL.ite_bool, if_true, if_false, Bool.false_eq_true, eX, ↓reduceIte, Nat.reduceEqDiff, Int.reduceToNat]
                                    refine hK _ _ ?_; clear hK K
                                    refine OW_as rfl ?_
                                    refine OW_nil ?_
                                    try simp only [Ex.thnH, Ex.inBlockH, ↓reduceIte, Nat.reduceEqDiff]
                                    refine hK51 _ _ ?_; try clear hK51 K51
                                    refine CW_ret ?_
                                    try simp only [Ex.thnH, Ex.inBlockH, ↓reduceIte, Nat.reduceEqDiff]
                                    refine ⟨[_], ⟨rfl, trivial⟩, _, Le.refl _, ?_, lhA⟩
                                    show Value.bool _ = _
                                    refine congrArg Value.bool ?_
                                    rw [← goodR_eq]
                                    unfold goodR
                                    first | (simp_all; done) | (simp_all; omega) | (simp_all <;> omega)

end Go.Proofs.Ytlkopcgoaldpeaa.HL
