/- Parts of the proof, one behind the other: V67, V69, V68, V70, V72. -/
import Derived.Test.YtigofhhonnbkmaaX5
set_option linter.unusedSimpArgs false
set_option linter.unusedVariables false
section
namespace Go.Proofs.Ytigofhhonnbkmaa.HL
open Go Go.Proofs
set_option linter.unusedSimpArgs false
set_option linter.unusedVariables false
attribute [local irreducible] Lt Lq CW OW TW CallH

set_option maxRecDepth 100000 in
set_option maxHeartbeats 4000000 in
theorem rGood_ok (H : Hp) (m : Mf) (ma : Option Addr) (mc : Nat) (hm : Holds H 1 (.slice ma m.hd.length mc) m.hd.length (i64s m.hd)) (hml : m.hd.length ≤ 1000000) : CallH Try.prog 11 #[.agg #[.int .i64 m.gen, .int .i64 m.ep, .int .i64 m.ba, .int .i64 m.ar, .int .i64 m.ln, .slice ma m.hd.length mc]] H (fun v H' => v = .bool m.good ∧ H' = H) := by
  refine CallH_enter (l := [_]) (rl := [.tmp 2]) (n := 85) Try.func11 rfl rfl rfl rfl rfl ?_
  simp only [envOf, Nat.reduceAdd]
  refine CW_seq (fun K1 hK1 => ?_)
  refine CW_region ?_
  refine OW_opS (fun K hK r => ?_)
  simp only [x_box, Value.cells, eX, ↓reduceIte, Nat.reduceEqDiff, Int.reduceToNat]
  intro b1 hb1
  have f1_H : H b1 = none := none_of_le lhA hb1
  try simp only [eX, ↓reduceIte, Nat.reduceEqDiff, Int.reduceToNat]
  refine hK _ _ ?_; clear hK K
  refine OW_as rfl ?_
  refine OW_nil ?_
  try simp only [Ex.thnH, Ex.inBlockH, ↓reduceIte, Nat.reduceEqDiff]
  refine hK1 _ _ ?_; try clear hK1 K1
  refine CW_seq (fun K2 hK2 => ?_)
  refine CW_seq (fun K3 hK3 => ?_)
  refine CW_region ?_
  refine OW_opS (fun K hK r => ?_)
  simp only [x_fieldAddr, fa24_0, add_mk, Nat.reduceAdd, Nat.zero_add, eX, ↓reduceIte, Nat.reduceEqDiff, Int.reduceToNat]
  refine hK _ _ ?_; clear hK K
  refine OW_opS (fun K hK r => ?_)
  simp only [x_load, eX, ↓reduceIte, Nat.reduceEqDiff, Int.reduceToNat]
  refine Lt_loadAt1 Try.underlying3 rfl hbA ldA ?_
  try simp only [eX, ↓reduceIte, Nat.reduceEqDiff, Int.reduceToNat]
  refine hK _ _ ?_; clear hK K
  refine OW_opS (fun K hK r => ?_)
  simp (disch := (first | omega | decide)) only [x_bin, g_int, b_lss, dec_lt_t, dec_lt_f, dec_le_t, dec_le_f, dec_eq_t, dec_eq_f, Bool.not_true, Bool.not_false, eX, ↓reduceIte, Nat.reduceEqDiff, Int.reduceToNat]
  refine hK _ _ ?_; clear hK K
  refine OW_mv rfl ?_
  (first | refine OW_split (d := 7) rfl (fun g7 => ?_) (fun g7 => ?_) | skip)
  all_goals try (exfalso; exact cnA g7)
  all_goals (try simp only [decide_eq_true_eq, decide_eq_false_iff_not, Bool.not_eq_true, Bool.not_eq_false, Bool.and_eq_true, Bool.or_eq_true, Bool.or_eq_false_iff, Bool.not_eq_true, Bool.not_eq_eq_eq_not, Bool.not_true, Bool.not_false] at g7)
  all_goals
    try simp only [eX, ↓reduceIte, Nat.reduceEqDiff, Int.reduceToNat]
    first
    | refine OW_guardT rfl (lt_some (by decide)) rfl (fun K hK r => ?_)
      simp only [x_fieldAddr, fa24_0, add_mk, Nat.reduceAdd, Nat.zero_add, eX, ↓reduceIte, Nat.reduceEqDiff, Int.reduceToNat]
      refine hK _ _ ?_; clear hK K
    | refine OW_guardF rfl (lt_some (by decide)) rfl ?_
      simp only [eX, ↓reduceIte, Nat.reduceEqDiff, Int.reduceToNat]
    first
    | refine OW_guardT rfl (lt_some (by decide)) rfl (fun K hK r => ?_)
      simp only [x_load, eX, ↓reduceIte, Nat.reduceEqDiff, Int.reduceToNat]
      refine Lt_loadAt1 Try.underlying3 rfl hbA ldA ?_
      try simp only [eX, ↓reduceIte, Nat.reduceEqDiff, Int.reduceToNat]
      refine hK _ _ ?_; clear hK K
    | refine OW_guardF rfl (lt_some (by decide)) rfl ?_
      simp only [eX, ↓reduceIte, Nat.reduceEqDiff, Int.reduceToNat]
    first
    | refine OW_guardT rfl (lt_some (by decide)) rfl (fun K hK r => ?_)
      simp (disch := (first | omega | decide)) only [x_bin, g_int, b_gtr, dec_lt_t, dec_lt_f, dec_le_t, dec_le_f, dec_eq_t, dec_eq_f, Bool.not_true, Bool.not_false, eX, ↓reduceIte, Nat.reduceEqDiff, Int.reduceToNat]
      refine hK _ _ ?_; clear hK K
    | refine OW_guardF rfl (lt_some (by decide)) rfl ?_
      simp only [eX, ↓reduceIte, Nat.reduceEqDiff, Int.reduceToNat]
    refine OW_opS (fun K hK r => ?_)
    simp only [x_pick, l_asBool, HL.ite_bool, if_true, if_false, Bool.false_eq_true, eX, ↓reduceIte, Nat.reduceEqDiff, Int.reduceToNat]
    refine hK _ _ ?_; clear hK K
    refine OW_mv rfl ?_
    (first | refine OW_split (d := 12) rfl (fun g12 => ?_) (fun g12 => ?_) | skip)
    all_goals try (exfalso; exact cnA g12)
    all_goals (try simp only [decide_eq_true_eq, decide_eq_false_iff_not, Bool.not_eq_true, Bool.not_eq_false, Bool.and_eq_true, Bool.or_eq_true, Bool.or_eq_false_iff, Bool.not_eq_true, Bool.not_eq_eq_eq_not, Bool.not_true, Bool.not_false] at g12)
    all_goals
      try simp only [eX, ↓reduceIte, Nat.reduceEqDiff, Int.reduceToNat]
      first
      | refine OW_guardT rfl (lt_some (by decide)) rfl (fun K hK r => ?_)
        simp only [x_fieldAddr, fa24_1, add_mk, Nat.reduceAdd, Nat.zero_add, eX, ↓reduceIte, Nat.reduceEqDiff, Int.reduceToNat]
        refine hK _ _ ?_; clear hK K
      | refine OW_guardF rfl (lt_some (by decide)) rfl ?_
        simp only [eX, ↓reduceIte, Nat.reduceEqDiff, Int.reduceToNat]
      first
      | refine OW_guardT rfl (lt_some (by decide)) rfl (fun K hK r => ?_)
        simp only [x_load, eX, ↓reduceIte, Nat.reduceEqDiff, Int.reduceToNat]
        refine Lt_loadAt1 Try.underlying3 rfl hbA ldA ?_
        try simp only [eX, ↓reduceIte, Nat.reduceEqDiff, Int.reduceToNat]
        refine hK _ _ ?_; clear hK K
      | refine OW_guardF rfl (lt_some (by decide)) rfl ?_
        simp only [eX, ↓reduceIte, Nat.reduceEqDiff, Int.reduceToNat]
      first
      | refine OW_guardT rfl (lt_some (by decide)) rfl (fun K hK r => ?_)
        simp (disch := (first | omega | decide)) only [x_bin, g_int, b_lss, dec_lt_t, dec_lt_f, dec_le_t, dec_le_f, dec_eq_t, dec_eq_f, Bool.not_true, Bool.not_false, eX, ↓reduceIte, Nat.reduceEqDiff, Int.reduceToNat]
        refine hK _ _ ?_; clear hK K
      | refine OW_guardF rfl (lt_some (by decide)) rfl ?_
        simp only [eX, ↓reduceIte, Nat.reduceEqDiff, Int.reduceToNat]
      refine OW_opS (fun K hK r => ?_)
      simp only [x_pick, l_asBool, HL.ite_bool, if_true, if_false, Bool.false_eq_true, eX, ↓reduceIte, Nat.reduceEqDiff, Int.reduceToNat]
      refine hK _ _ ?_; clear hK K
      refine OW_mv rfl ?_
      (first | refine OW_split (d := 17) rfl (fun g17 => ?_) (fun g17 => ?_) | skip)
      all_goals try (exfalso; exact cnA g17)
      all_goals (try simp only [decide_eq_true_eq, decide_eq_false_iff_not, Bool.not_eq_true, Bool.not_eq_false, Bool.and_eq_true, Bool.or_eq_true, Bool.or_eq_false_iff, Bool.not_eq_true, Bool.not_eq_eq_eq_not, Bool.not_true, Bool.not_false] at g17)
      all_goals
        try simp only [eX, ↓reduceIte, Nat.reduceEqDiff, Int.reduceToNat]
        first
        | refine OW_guardT rfl (lt_some (by decide)) rfl (fun K hK r => ?_)
          simp only [x_fieldAddr, fa24_1, add_mk, Nat.reduceAdd, Nat.zero_add, eX, ↓reduceIte, Nat.reduceEqDiff, Int.reduceToNat]
          refine hK _ _ ?_; clear hK K
        | refine OW_guardF rfl (lt_some (by decide)) rfl ?_
          simp only [eX, ↓reduceIte, Nat.reduceEqDiff, Int.reduceToNat]
        first
        | refine OW_guardT rfl (lt_some (by decide)) rfl (fun K hK r => ?_)
          simp only [x_load, eX, ↓reduceIte, Nat.reduceEqDiff, Int.reduceToNat]
          refine Lt_loadAt1 Try.underlying3 rfl hbA ldA ?_
          try simp only [eX, ↓reduceIte, Nat.reduceEqDiff, Int.reduceToNat]
          refine hK _ _ ?_; clear hK K
        | refine OW_guardF rfl (lt_some (by decide)) rfl ?_
          simp only [eX, ↓reduceIte, Nat.reduceEqDiff, Int.reduceToNat]
        first
        | refine OW_guardT rfl (lt_some (by decide)) rfl (fun K hK r => ?_)
          simp (disch := (first | omega | decide)) only [x_bin, g_int, b_gtr, dec_lt_t, dec_lt_f, dec_le_t, dec_le_f, dec_eq_t, dec_eq_f, Bool.not_true, Bool.not_false, eX, ↓reduceIte, Nat.reduceEqDiff, Int.reduceToNat]
          refine hK _ _ ?_; clear hK K
        | refine OW_guardF rfl (lt_some (by decide)) rfl ?_
          simp only [eX, ↓reduceIte, Nat.reduceEqDiff, Int.reduceToNat]
        refine OW_opS (fun K hK r => ?_)
        simp only [x_pick, l_asBool, HL.ite_bool, if_true, if_false, Bool.false_eq_true, eX, ↓reduceIte, Nat.reduceEqDiff, Int.reduceToNat]
        refine hK _ _ ?_; clear hK K
        refine OW_mv rfl ?_
        (first | refine OW_split (d := 22) rfl (fun g22 => ?_) (fun g22 => ?_) | skip)
        all_goals try (exfalso; exact cnA g22)
        all_goals (try simp only [decide_eq_true_eq, decide_eq_false_iff_not, Bool.not_eq_true, Bool.not_eq_false, Bool.and_eq_true, Bool.or_eq_true, Bool.or_eq_false_iff, Bool.not_eq_true, Bool.not_eq_eq_eq_not, Bool.not_true, Bool.not_false] at g22)
        all_goals
          try simp only [eX, ↓reduceIte, Nat.reduceEqDiff, Int.reduceToNat]
          first
          | refine OW_guardT rfl (lt_some (by decide)) rfl (fun K hK r => ?_)
            simp only [x_fieldAddr, fa24_2, add_mk, Nat.reduceAdd, Nat.zero_add, eX, ↓reduceIte, Nat.reduceEqDiff, Int.reduceToNat]
            refine hK _ _ ?_; clear hK K
          | refine OW_guardF rfl (lt_some (by decide)) rfl ?_
            simp only [eX, ↓reduceIte, Nat.reduceEqDiff, Int.reduceToNat]
          first
          | refine OW_guardT rfl (lt_some (by decide)) rfl (fun K hK r => ?_)
            simp only [x_load, eX, ↓reduceIte, Nat.reduceEqDiff, Int.reduceToNat]
            refine Lt_loadAt1 Try.underlying3 rfl hbA ldA ?_
            try simp only [eX, ↓reduceIte, Nat.reduceEqDiff, Int.reduceToNat]
            refine hK _ _ ?_; clear hK K
          | refine OW_guardF rfl (lt_some (by decide)) rfl ?_
            simp only [eX, ↓reduceIte, Nat.reduceEqDiff, Int.reduceToNat]
          first
          | refine OW_guardT rfl (lt_some (by decide)) rfl (fun K hK r => ?_)
            simp (disch := (first | omega | decide)) only [x_bin, g_int, b_lss, dec_lt_t, dec_lt_f, dec_le_t, dec_le_f, dec_eq_t, dec_eq_f, Bool.not_true, Bool.not_false, eX, ↓reduceIte, Nat.reduceEqDiff, Int.reduceToNat]
            refine hK _ _ ?_; clear hK K
          | refine OW_guardF rfl (lt_some (by decide)) rfl ?_
            simp only [eX, ↓reduceIte, Nat.reduceEqDiff, Int.reduceToNat]
          refine OW_opS (fun K hK r => ?_)
          simp only [x_pick, l_asBool, HL.ite_bool, if_true, if_false, Bool.false_eq_true, eX, ↓reduceIte, Nat.reduceEqDiff, Int.reduceToNat]
          refine hK _ _ ?_; clear hK K
          refine OW_mv rfl ?_
          (first | refine OW_split (d := 27) rfl (fun g27 => ?_) (fun g27 => ?_) | skip)
          all_goals try (exfalso; exact cnA g27)
          all_goals (try simp only [decide_eq_true_eq, decide_eq_false_iff_not, Bool.not_eq_true, Bool.not_eq_false, Bool.and_eq_true, Bool.or_eq_true, Bool.or_eq_false_iff, Bool.not_eq_true, Bool.not_eq_eq_eq_not, Bool.not_true, Bool.not_false] at g27)
          all_goals
            try simp only [eX, ↓reduceIte, Nat.reduceEqDiff, Int.reduceToNat]
            first
            | refine OW_guardT rfl (lt_some (by decide)) rfl (fun K hK r => ?_)
              simp only [x_fieldAddr, fa24_2, add_mk, Nat.reduceAdd, Nat.zero_add, eX, ↓reduceIte, Nat.reduceEqDiff, Int.reduceToNat]
              refine hK _ _ ?_; clear hK K
            | refine OW_guardF rfl (lt_some (by decide)) rfl ?_
              simp only [eX, ↓reduceIte, Nat.reduceEqDiff, Int.reduceToNat]
            first
            | refine OW_guardT rfl (lt_some (by decide)) rfl (fun K hK r => ?_)
              simp only [x_load, eX, ↓reduceIte, Nat.reduceEqDiff, Int.reduceToNat]
              refine Lt_loadAt1 Try.underlying3 rfl hbA ldA ?_
              try simp only [eX, ↓reduceIte, Nat.reduceEqDiff, Int.reduceToNat]
              refine hK _ _ ?_; clear hK K
            | refine OW_guardF rfl (lt_some (by decide)) rfl ?_
              simp only [eX, ↓reduceIte, Nat.reduceEqDiff, Int.reduceToNat]
            first
            | refine OW_guardT rfl (lt_some (by decide)) rfl (fun K hK r => ?_)
              simp (disch := (first | omega | decide)) only [x_bin, g_int, b_gtr, dec_lt_t, dec_lt_f, dec_le_t, dec_le_f, dec_eq_t, dec_eq_f, Bool.not_true, Bool.not_false, eX, ↓reduceIte, Nat.reduceEqDiff, Int.reduceToNat]
              refine hK _ _ ?_; clear hK K
            | refine OW_guardF rfl (lt_some (by decide)) rfl ?_
              simp only [eX, ↓reduceIte, Nat.reduceEqDiff, Int.reduceToNat]
            refine OW_opS (fun K hK r => ?_)
            simp only [x_pick, l_asBool, HL.ite_bool, if_true, if_false, Bool.false_eq_true, eX, ↓reduceIte, Nat.reduceEqDiff, Int.reduceToNat]
            refine hK _ _ ?_; clear hK K
            refine OW_mv rfl ?_
            (first | refine OW_split (d := 32) rfl (fun g32 => ?_) (fun g32 => ?_) | skip)
            all_goals try (exfalso; exact cnA g32)
            all_goals (try simp only [decide_eq_true_eq, decide_eq_false_iff_not, Bool.not_eq_true, Bool.not_eq_false, Bool.and_eq_true, Bool.or_eq_true, Bool.or_eq_false_iff, Bool.not_eq_true, Bool.not_eq_eq_eq_not, Bool.not_true, Bool.not_false] at g32)
            all_goals
              try simp only [eX, ↓reduceIte, Nat.reduceEqDiff, Int.reduceToNat]
              first
              | refine OW_guardT rfl (lt_some (by decide)) rfl (fun K hK r => ?_)
                simp only [x_fieldAddr, fa24_3, add_mk, Nat.reduceAdd, Nat.zero_add, eX, ↓reduceIte, Nat.reduceEqDiff, Int.reduceToNat]
                refine hK _ _ ?_; clear hK K
              | refine OW_guardF rfl (lt_some (by decide)) rfl ?_
                simp only [eX, ↓reduceIte, Nat.reduceEqDiff, Int.reduceToNat]
              first
              | refine OW_guardT rfl (lt_some (by decide)) rfl (fun K hK r => ?_)
                simp only [x_load, eX, ↓reduceIte, Nat.reduceEqDiff, Int.reduceToNat]
                refine Lt_loadAt1 Try.underlying3 rfl hbA ldA ?_
                try simp only [eX, ↓reduceIte, Nat.reduceEqDiff, Int.reduceToNat]
                refine hK _ _ ?_; clear hK K
              | refine OW_guardF rfl (lt_some (by decide)) rfl ?_
                simp only [eX, ↓reduceIte, Nat.reduceEqDiff, Int.reduceToNat]
              first
              | refine OW_guardT rfl (lt_some (by decide)) rfl (fun K hK r => ?_)
                simp (disch := (first | omega | decide)) only [x_bin, g_int, b_lss, dec_lt_t, dec_lt_f, dec_le_t, dec_le_f, dec_eq_t, dec_eq_f, Bool.not_true, Bool.not_false, eX, ↓reduceIte, Nat.reduceEqDiff, Int.reduceToNat]
                refine hK _ _ ?_; clear hK K
              | refine OW_guardF rfl (lt_some (by decide)) rfl ?_
                simp only [eX, ↓reduceIte, Nat.reduceEqDiff, Int.reduceToNat]
              refine OW_opS (fun K hK r => ?_)
              simp only [x_pick, l_asBool, HL.ite_bool, if_true, if_false, Bool.false_eq_true, eX, ↓reduceIte, Nat.reduceEqDiff, Int.reduceToNat]
              refine hK _ _ ?_; clear hK K
              refine OW_mv rfl ?_
              (first | refine OW_split (d := 37) rfl (fun g37 => ?_) (fun g37 => ?_) | skip)
              all_goals try (exfalso; exact cnA g37)
              all_goals (try simp only [decide_eq_true_eq, decide_eq_false_iff_not, Bool.not_eq_true, Bool.not_eq_false, Bool.and_eq_true, Bool.or_eq_true, Bool.or_eq_false_iff, Bool.not_eq_true, Bool.not_eq_eq_eq_not, Bool.not_true, Bool.not_false] at g37)
              all_goals
                try simp only [eX, ↓reduceIte, Nat.reduceEqDiff, Int.reduceToNat]
                first
                | refine OW_guardT rfl (lt_some (by decide)) rfl (fun K hK r => ?_)
                  simp only [x_fieldAddr, fa24_3, add_mk, Nat.reduceAdd, Nat.zero_add, eX, ↓reduceIte, Nat.reduceEqDiff, Int.reduceToNat]
                  refine hK _ _ ?_; clear hK K
                | refine OW_guardF rfl (lt_some (by decide)) rfl ?_
                  simp only [eX, ↓reduceIte, Nat.reduceEqDiff, Int.reduceToNat]
                first
                | refine OW_guardT rfl (lt_some (by decide)) rfl (fun K hK r => ?_)
                  simp only [x_load, eX, ↓reduceIte, Nat.reduceEqDiff, Int.reduceToNat]
                  refine Lt_loadAt1 Try.underlying3 rfl hbA ldA ?_
                  try simp only [eX, ↓reduceIte, Nat.reduceEqDiff, Int.reduceToNat]
                  refine hK _ _ ?_; clear hK K
                | refine OW_guardF rfl (lt_some (by decide)) rfl ?_
                  simp only [eX, ↓reduceIte, Nat.reduceEqDiff, Int.reduceToNat]
                first
                | refine OW_guardT rfl (lt_some (by decide)) rfl (fun K hK r => ?_)
                  simp (disch := (first | omega | decide)) only [x_bin, g_int, b_gtr, dec_lt_t, dec_lt_f, dec_le_t, dec_le_f, dec_eq_t, dec_eq_f, Bool.not_true, Bool.not_false, eX, ↓reduceIte, Nat.reduceEqDiff, Int.reduceToNat]
                  refine hK _ _ ?_; clear hK K
                | refine OW_guardF rfl (lt_some (by decide)) rfl ?_
                  simp only [eX, ↓reduceIte, Nat.reduceEqDiff, Int.reduceToNat]
                refine OW_opS (fun K hK r => ?_)
                simp only [x_pick, l_asBool, HL.ite_bool, if_true, if_false, Bool.false_eq_true, eX, ↓reduceIte, Nat.reduceEqDiff, Int.reduceToNat]
                refine hK _ _ ?_; clear hK K
                refine OW_mv rfl ?_
                (first | refine OW_split (d := 42) rfl (fun g42 => ?_) (fun g42 => ?_) | skip)
                all_goals try (exfalso; exact cnA g42)
                all_goals (try simp only [decide_eq_true_eq, decide_eq_false_iff_not, Bool.not_eq_true, Bool.not_eq_false, Bool.and_eq_true, Bool.or_eq_true, Bool.or_eq_false_iff, Bool.not_eq_true, Bool.not_eq_eq_eq_not, Bool.not_true, Bool.not_false] at g42)
                all_goals
                  try simp only [eX, ↓reduceIte, Nat.reduceEqDiff, Int.reduceToNat]
                  first
                  | refine OW_guardT rfl (lt_some (by decide)) rfl (fun K hK r => ?_)
                    simp only [x_fieldAddr, fa24_4, add_mk, Nat.reduceAdd, Nat.zero_add, eX, ↓reduceIte, Nat.reduceEqDiff, Int.reduceToNat]
                    refine hK _ _ ?_; clear hK K
                  | refine OW_guardF rfl (lt_some (by decide)) rfl ?_
                    simp only [eX, ↓reduceIte, Nat.reduceEqDiff, Int.reduceToNat]
                  first
                  | refine OW_guardT rfl (lt_some (by decide)) rfl (fun K hK r => ?_)
                    simp only [x_load, eX, ↓reduceIte, Nat.reduceEqDiff, Int.reduceToNat]
                    refine Lt_loadAt1 Try.underlying3 rfl hbA ldA ?_
                    try simp only [eX, ↓reduceIte, Nat.reduceEqDiff, Int.reduceToNat]
                    refine hK _ _ ?_; clear hK K
                  | refine OW_guardF rfl (lt_some (by decide)) rfl ?_
                    simp only [eX, ↓reduceIte, Nat.reduceEqDiff, Int.reduceToNat]
                  first
                  | refine OW_guardT rfl (lt_some (by decide)) rfl (fun K hK r => ?_)
                    simp (disch := (first | omega | decide)) only [x_bin, g_int, b_lss, dec_lt_t, dec_lt_f, dec_le_t, dec_le_f, dec_eq_t, dec_eq_f, Bool.not_true, Bool.not_false, eX, ↓reduceIte, Nat.reduceEqDiff, Int.reduceToNat]
                    refine hK _ _ ?_; clear hK K
                  | refine OW_guardF rfl (lt_some (by decide)) rfl ?_
                    simp only [eX, ↓reduceIte, Nat.reduceEqDiff, Int.reduceToNat]
                  refine OW_opS (fun K hK r => ?_)
                  simp only [x_pick, l_asBool, HL.ite_bool, if_true, if_false, Bool.false_eq_true, eX, ↓reduceIte, Nat.reduceEqDiff, Int.reduceToNat]
                  refine hK _ _ ?_; clear hK K
                  refine OW_mv rfl ?_
                  (first | refine OW_split (d := 47) rfl (fun g47 => ?_) (fun g47 => ?_) | skip)
                  all_goals try (exfalso; exact cnA g47)
                  all_goals (try simp only [decide_eq_true_eq, decide_eq_false_iff_not, Bool.not_eq_true, Bool.not_eq_false, Bool.and_eq_true, Bool.or_eq_true, Bool.or_eq_false_iff, Bool.not_eq_true, Bool.not_eq_eq_eq_not, Bool.not_true, Bool.not_false] at g47)
                  all_goals
                    try simp only [eX, ↓reduceIte, Nat.reduceEqDiff, Int.reduceToNat]
                    first
                    | refine OW_guardT rfl (lt_some (by decide)) rfl (fun K hK r => ?_)
                      simp only [x_fieldAddr, fa24_4, add_mk, Nat.reduceAdd, Nat.zero_add, eX, ↓reduceIte, Nat.reduceEqDiff, Int.reduceToNat]
                      refine hK _ _ ?_; clear hK K
                    | refine OW_guardF rfl (lt_some (by decide)) rfl ?_
                      simp only [eX, ↓reduceIte, Nat.reduceEqDiff, Int.reduceToNat]
                    first
                    | refine OW_guardT rfl (lt_some (by decide)) rfl (fun K hK r => ?_)
                      simp only [x_load, eX, ↓reduceIte, Nat.reduceEqDiff, Int.reduceToNat]
                      refine Lt_loadAt1 Try.underlying3 rfl hbA ldA ?_
                      try simp only [eX, ↓reduceIte, Nat.reduceEqDiff, Int.reduceToNat]
                      refine hK _ _ ?_; clear hK K
                    | refine OW_guardF rfl (lt_some (by decide)) rfl ?_
                      simp only [eX, ↓reduceIte, Nat.reduceEqDiff, Int.reduceToNat]
                    first
                    | refine OW_guardT rfl (lt_some (by decide)) rfl (fun K hK r => ?_)
                      simp (disch := (first | omega | decide)) only [x_bin, g_int, b_gtr, dec_lt_t, dec_lt_f, dec_le_t, dec_le_f, dec_eq_t, dec_eq_f, Bool.not_true, Bool.not_false, eX, ↓reduceIte, Nat.reduceEqDiff, Int.reduceToNat]
                      refine hK _ _ ?_; clear hK K
                    | refine OW_guardF rfl (lt_some (by decide)) rfl ?_
                      simp only [eX, ↓reduceIte, Nat.reduceEqDiff, Int.reduceToNat]
                    refine OW_opS (fun K hK r => ?_)
                    simp only [x_pick, l_asBool, HL.ite_bool, if_true, if_false, Bool.false_eq_true, eX, ↓reduceIte, Nat.reduceEqDiff, Int.reduceToNat]
                    refine hK _ _ ?_; clear hK K
                    refine OW_mv rfl ?_
                    (first | refine OW_split (d := 52) rfl (fun g52 => ?_) (fun g52 => ?_) | skip)
                    all_goals try (exfalso; exact cnA g52)
                    all_goals (try simp only [decide_eq_true_eq, decide_eq_false_iff_not, Bool.not_eq_true, Bool.not_eq_false, Bool.and_eq_true, Bool.or_eq_true, Bool.or_eq_false_iff, Bool.not_eq_true, Bool.not_eq_eq_eq_not, Bool.not_true, Bool.not_false] at g52)
                    all_goals
                      try simp only [eX, ↓reduceIte, Nat.reduceEqDiff, Int.reduceToNat]
                      first
                      | refine OW_guardT rfl (lt_some (by decide)) rfl (fun K hK r => ?_)
                        simp only [x_fieldAddr, fa24_5, add_mk, Nat.reduceAdd, Nat.zero_add, eX, ↓reduceIte, Nat.reduceEqDiff, Int.reduceToNat]
                        refine hK _ _ ?_; clear hK K
                      | refine OW_guardF rfl (lt_some (by decide)) rfl ?_
                        simp only [eX, ↓reduceIte, Nat.reduceEqDiff, Int.reduceToNat]
                      first
                      | refine OW_guardT rfl (lt_some (by decide)) rfl (fun K hK r => ?_)
                        simp only [x_load, eX, ↓reduceIte, Nat.reduceEqDiff, Int.reduceToNat]
                        refine Lt_loadAt1 Try.underlying22 rfl hbA ldA ?_
                        try simp only [eX, ↓reduceIte, Nat.reduceEqDiff, Int.reduceToNat]
                        refine hK _ _ ?_; clear hK K
                      | refine OW_guardF rfl (lt_some (by decide)) rfl ?_
                        simp only [eX, ↓reduceIte, Nat.reduceEqDiff, Int.reduceToNat]
                      first
                      | refine OW_guardT rfl (lt_some (by decide)) rfl (fun K hK r => ?_)
                        simp only [x_builtin, l_len, List.map_toArray, List.map_cons, List.map_nil, i_len_slice _ _ Try.underlying22, eX, ↓reduceIte, Nat.reduceEqDiff, Int.reduceToNat]
                        refine hK _ _ ?_; clear hK K
                      | refine OW_guardF rfl (lt_some (by decide)) rfl ?_
                        simp only [eX, ↓reduceIte, Nat.reduceEqDiff, Int.reduceToNat]
                      first
                      | refine OW_guardT rfl (lt_some (by decide)) rfl (fun K hK r => ?_)
                        simp (disch := (first | omega | decide)) only [x_bin, g_int, b_lss, dec_lt_t, dec_lt_f, dec_le_t, dec_le_f, dec_eq_t, dec_eq_f, Bool.not_true, Bool.not_false, eX, ↓reduceIte, Nat.reduceEqDiff, Int.reduceToNat]
                        refine hK _ _ ?_; clear hK K
                      | refine OW_guardF rfl (lt_some (by decide)) rfl ?_
                        simp only [eX, ↓reduceIte, Nat.reduceEqDiff, Int.reduceToNat]
                      refine OW_opS (fun K hK r => ?_)
                      simp only [x_pick, l_asBool, HL.ite_bool, if_true, if_false, Bool.false_eq_true, eX, ↓reduceIte, Nat.reduceEqDiff, Int.reduceToNat]
                      refine hK _ _ ?_; clear hK K
                      refine OW_mv rfl ?_
                      (first | refine OW_split (d := 58) rfl (fun g58 => ?_) (fun g58 => ?_) | skip)
                      all_goals try (exfalso; exact cnA g58)
                      all_goals (try simp only [decide_eq_true_eq, decide_eq_false_iff_not, Bool.not_eq_true, Bool.not_eq_false, Bool.and_eq_true, Bool.or_eq_true, Bool.or_eq_false_iff, Bool.not_eq_true, Bool.not_eq_eq_eq_not, Bool.not_true, Bool.not_false] at g58)
                      all_goals
                        try simp only [eX, ↓reduceIte, Nat.reduceEqDiff, Int.reduceToNat]
                        first
                        | refine OW_guardT rfl (lt_some (by decide)) rfl (fun K hK r => ?_)
                          simp only [x_fieldAddr, fa24_5, add_mk, Nat.reduceAdd, Nat.zero_add, eX, ↓reduceIte, Nat.reduceEqDiff, Int.reduceToNat]
                          refine hK _ _ ?_; clear hK K
                        | refine OW_guardF rfl (lt_some (by decide)) rfl ?_
                          simp only [eX, ↓reduceIte, Nat.reduceEqDiff, Int.reduceToNat]
                        first
                        | refine OW_guardT rfl (lt_some (by decide)) rfl (fun K hK r => ?_)
                          simp only [x_load, eX, ↓reduceIte, Nat.reduceEqDiff, Int.reduceToNat]
                          refine Lt_loadAt1 Try.underlying22 rfl hbA ldA ?_
                          try simp only [eX, ↓reduceIte, Nat.reduceEqDiff, Int.reduceToNat]
                          refine hK _ _ ?_; clear hK K
                        | refine OW_guardF rfl (lt_some (by decide)) rfl ?_
                          simp only [eX, ↓reduceIte, Nat.reduceEqDiff, Int.reduceToNat]
                        first
                        | refine OW_guardT rfl (lt_some (by decide)) rfl (fun K hK r => ?_)
                          simp only [x_builtin, l_len, List.map_toArray, List.map_cons, List.map_nil, i_len_slice _ _ Try.underlying22, eX, ↓reduceIte, Nat.reduceEqDiff, Int.reduceToNat]
                          refine hK _ _ ?_; clear hK K
                        | refine OW_guardF rfl (lt_some (by decide)) rfl ?_
                          simp only [eX, ↓reduceIte, Nat.reduceEqDiff, Int.reduceToNat]
                        first
                        | refine OW_guardT rfl (lt_some (by decide)) rfl (fun K hK r => ?_)
                          simp (disch := (first | omega | decide)) only [x_bin, g_int, b_gtr, dec_lt_t, dec_lt_f, dec_le_t, dec_le_f, dec_eq_t, dec_eq_f, Bool.not_true, Bool.not_false, eX, ↓reduceIte, Nat.reduceEqDiff, Int.reduceToNat]
                          refine hK _ _ ?_; clear hK K
                        | refine OW_guardF rfl (lt_some (by decide)) rfl ?_
                          simp only [eX, ↓reduceIte, Nat.reduceEqDiff, Int.reduceToNat]
                        refine OW_opS (fun K hK r => ?_)
                        simp only [x_pick, l_asBool, HL.ite_bool, if_true, if_false, Bool.false_eq_true, eX, ↓reduceIte, Nat.reduceEqDiff, Int.reduceToNat]
                        refine hK _ _ ?_; clear hK K
                        refine OW_nil ?_
                        try simp only [Ex.thnH, Ex.inBlockH, ↓reduceIte, Nat.reduceEqDiff]
                        refine hK3 _ _ ?_; try clear hK3 K3
                        refine CW_cond (fun r => rfl) (fun c63 => ?_) (fun c63 => ?_)
                        · first
                          | (exfalso; exact cnA c63; done)
                          | skip
                            skip
                            refine CW_seq (fun K4 hK4 => ?_)
                            refine CW_region ?_
                            refine OW_as rfl ?_
                            refine OW_nil ?_
                            try simp only [Ex.thnH, Ex.inBlockH, ↓reduceIte, Nat.reduceEqDiff]
                            refine hK4 _ _ ?_; try clear hK4 K4
                            refine CW_ret ?_
                            try simp only [Ex.thnH, Ex.inBlockH, ↓reduceIte, Nat.reduceEqDiff]
                            have hb : m.good = false := by
                              cases hg : m.good with
                              | false => rfl
                              | true =>
                                exfalso
                                obtain ⟨h1, h2, h3, h4, h5, h6, _⟩ := Mf.good_iff.1 hg
                                first
                                | omega
                                | (simp only [decide_eq_true_eq] at c63; omega)
                            rw [hb]
                            exact ⟨[_], ⟨rfl, trivial⟩, H, lhA, rfl, rfl⟩
                        · first
                          | (exfalso; exact cnA c63; done)
                          | skip
                            have hrg : (1 ≤ m.gen ∧ m.gen ≤ 17179869183) ∧ (1 ≤ m.ep ∧ m.ep ≤ 65535) ∧ (0 ≤ m.ba ∧ m.ba ≤ 281474976710655) ∧ (0 ≤ m.ar ∧ m.ar ≤ 1) ∧ (0 ≤ m.ln ∧ m.ln ≤ 1048576) ∧ 1 ≤ m.hd.length ∧ m.hd.length ≤ 4 := by first | omega | (cases c63; done) | (simp only [decide_eq_false_iff_not] at c63; omega)
                            clear c63
                            refine CW_skip ?_
                            try simp only [Ex.thnH, Ex.inBlockH, ↓reduceIte, Nat.reduceEqDiff]
                            refine hK2 _ _ ?_; try clear hK2 K2
                            refine CW_seq (fun K5 hK5 => ?_)
                            refine CW_seq (fun K6 hK6 => ?_)
                            refine CW_region ?_
                            refine OW_as rfl ?_
                            refine OW_nil ?_
                            try simp only [Ex.thnH, Ex.inBlockH, ↓reduceIte, Nat.reduceEqDiff]
                            refine hK6 _ _ ?_; try clear hK6 K6
                            refine CW_block ?_
                            refine CW_loop (fun m_ e H_ => ∃ k : Nat, k ≤ m.hd.length ∧ m_ = m.hd.length - k ∧ (∀ x ∈ m.hd.take k, 0 ≤ x ∧ x ≤ 4294967294) ∧ Le (H.upd b1 (.cells #[.int .i64 m.gen, .int .i64 m.ep, .int .i64 m.ba, .int .i64 m.ar, .int .i64 m.ln, .slice ma m.hd.length mc] 24)) H_ ∧ Env.has [(1, .pointer (some ⟨b1, 0, none⟩)), (3, .int .i64 k)] e) (m.hd.length) ?_ ?_
                            · skip
                              exact ⟨0, by omega, by omega, (fun x hx => by simp at hx), Le.refl _, rfl, rfl, trivial⟩
                            intro m_ e_ H_ hI_
                            obtain ⟨k, hk, rfl, hall, hlH, he⟩ := hI_
                            refine CW_env he.sub ?_; clear he e_
                            have k1 := hlH b1 _ (upd_same _ _ _)
                            have hHH : Le H H_ := Le.trans (le_upd _ _ _ hb1) hlH
                            refine CW_seq (fun K7 hK7 => ?_)
                            refine CW_seq (fun K8 hK8 => ?_)
                            refine CW_region ?_
                            refine OW_mv rfl ?_
                            refine OW_opS (fun K hK r => ?_)
                            simp only [x_fieldAddr, fa24_5, add_mk, Nat.reduceAdd, Nat.zero_add, eX, ↓reduceIte, Nat.reduceEqDiff, Int.reduceToNat]
                            refine hK _ _ ?_; clear hK K
                            refine OW_opS (fun K hK r => ?_)
                            simp only [x_load, eX, ↓reduceIte, Nat.reduceEqDiff, Int.reduceToNat]
                            refine Lt_loadAt1 Try.underlying22 rfl hbA ldA ?_
                            try simp only [eX, ↓reduceIte, Nat.reduceEqDiff, Int.reduceToNat]
                            refine hK _ _ ?_; clear hK K
                            refine OW_opS (fun K hK r => ?_)
                            simp only [x_builtin, l_len, List.map_toArray, List.map_cons, List.map_nil, i_len_slice _ _ Try.underlying22, eX, ↓reduceIte, Nat.reduceEqDiff, Int.reduceToNat]
                            refine hK _ _ ?_; clear hK K
                            refine OW_opS (fun K hK r => ?_)
                            simp (disch := (first | omega | decide)) only [x_bin, g_int, b_lss, dec_lt_t, dec_lt_f, dec_le_t, dec_le_f, dec_eq_t, dec_eq_f, Bool.not_true, Bool.not_false, eX, ↓reduceIte, Nat.reduceEqDiff, Int.reduceToNat]
                            refine hK _ _ ?_; clear hK K
                            refine OW_nil ?_
                            try simp only [Ex.thnH, Ex.inBlockH, ↓reduceIte, Nat.reduceEqDiff]
                            refine hK8 _ _ ?_; try clear hK8 K8
                            refine CW_cond (fun r => rfl) (fun c68 => ?_) (fun c68 => ?_)
                            · first
                              | (exfalso; exact cnA c68; done)
                              | skip
                                (try simp only [decide_eq_true_eq, decide_eq_false_iff_not, Bool.not_eq_true, Bool.not_eq_false, Bool.and_eq_true, Bool.or_eq_true, Bool.or_eq_false_iff, Bool.not_eq_true, Bool.not_eq_eq_eq_not, Bool.not_true, Bool.not_false] at c68)
                                obtain ⟨bw, ow, qw, Tw, Fw, rfl, hbw, hsw, atw⟩ := (hm.le (Le.trans (le_upd _ _ _ hb1) hlH)).at (by omega)
                                try have n_bw_b1 : bw ≠ b1 := ne_of_none hbw f1_H
                                refine CW_skip ?_
                                try simp only [Ex.thnH, Ex.inBlockH, ↓reduceIte, Nat.reduceEqDiff]
                                refine hK7 _ _ ?_; try clear hK7 K7
                                refine CW_seq (fun K9 hK9 => ?_)
                                refine CW_block ?_
                                refine CW_seq (fun K10 hK10 => ?_)
                                refine CW_region ?_
                                refine OW_opS (fun K hK r => ?_)
                                simp only [x_fieldAddr, fa24_5, add_mk, Nat.reduceAdd, Nat.zero_add, eX, ↓reduceIte, Nat.reduceEqDiff, Int.reduceToNat]
                                refine hK _ _ ?_; clear hK K
                                refine OW_opS (fun K hK r => ?_)
                                simp only [x_load, eX, ↓reduceIte, Nat.reduceEqDiff, Int.reduceToNat]
                                refine Lt_loadAt1 Try.underlying22 rfl hbA ldA ?_
                                try simp only [eX, ↓reduceIte, Nat.reduceEqDiff, Int.reduceToNat]
                                refine hK _ _ ?_; clear hK K
                                refine OW_mv rfl ?_
                                refine OW_opS (fun K hK r => ?_)
                                simp only [x_indexAddr, eX, ↓reduceIte, Nat.reduceEqDiff, Int.reduceToNat]
                                refine Lt_indexS Try.underlying22 sz3 ixA ixA ?_
                                try simp only [add_mk, Nat.mul_one, Nat.zero_add, Int.reduceToNat]
                                try simp only [eX, ↓reduceIte, Nat.reduceEqDiff, Int.reduceToNat]
                                refine hK _ _ ?_; clear hK K
                                refine OW_opS (fun K hK r => ?_)
                                simp only [x_load, eX, ↓reduceIte, Nat.reduceEqDiff, Int.reduceToNat]
                                refine Lt_loadAt1 Try.underlying3 rfl hbA (v := .int .i64 (m.hd.getD k 0)) (by first | exact ints_at atw rfl _ (by omega) | (simp only [Int.toNat_natCast, Nat.mul_one]; exact ints_at atw rfl _ (by omega))) ?_
                                refine hK _ _ ?_; clear hK K
                                refine OW_opS (fun K hK r => ?_)
                                simp (disch := (first | omega | decide)) only [x_bin, g_int, b_lss, dec_lt_t, dec_lt_f, dec_le_t, dec_le_f, dec_eq_t, dec_eq_f, Bool.not_true, Bool.not_false, eX, ↓reduceIte, Nat.reduceEqDiff, Int.reduceToNat]
                                refine hK _ _ ?_; clear hK K
                                refine OW_mv rfl ?_
                                (first | refine OW_split (d := 77) rfl (fun g77 => ?_) (fun g77 => ?_) | skip)
                                all_goals try (exfalso; exact cnA g77)
                                all_goals (try simp only [decide_eq_true_eq, decide_eq_false_iff_not, Bool.not_eq_true, Bool.not_eq_false, Bool.and_eq_true, Bool.or_eq_true, Bool.or_eq_false_iff, Bool.not_eq_true, Bool.not_eq_eq_eq_not, Bool.not_true, Bool.not_false] at g77)
                                all_goals
                                  try simp only [eX, ↓reduceIte, Nat.reduceEqDiff, Int.reduceToNat]
                                  first
                                  | refine OW_guardT rfl (lt_some (by decide)) rfl (fun K hK r => ?_)
                                    simp only [x_fieldAddr, fa24_5, add_mk, Nat.reduceAdd, Nat.zero_add, eX, ↓reduceIte, Nat.reduceEqDiff, Int.reduceToNat]
                                    refine hK _ _ ?_; clear hK K
                                  | refine OW_guardF rfl (lt_some (by decide)) rfl ?_
                                    simp only [eX, ↓reduceIte, Nat.reduceEqDiff, Int.reduceToNat]
                                  first
                                  | refine OW_guardT rfl (lt_some (by decide)) rfl (fun K hK r => ?_)
                                    simp only [x_load, eX, ↓reduceIte, Nat.reduceEqDiff, Int.reduceToNat]
                                    refine Lt_loadAt1 Try.underlying22 rfl hbA ldA ?_
                                    try simp only [eX, ↓reduceIte, Nat.reduceEqDiff, Int.reduceToNat]
                                    refine hK _ _ ?_; clear hK K
                                  | refine OW_guardF rfl (lt_some (by decide)) rfl ?_
                                    simp only [eX, ↓reduceIte, Nat.reduceEqDiff, Int.reduceToNat]
                                  first
                                  | refine OW_guardT rfl (lt_some (by decide)) rfl (fun K hK r => ?_)
                                    simp only [x_move, eX, ↓reduceIte, Nat.reduceEqDiff, Int.reduceToNat]
                                    refine hK _ _ ?_; clear hK K
                                  | refine OW_guardF rfl (lt_some (by decide)) rfl ?_
                                    simp only [eX, ↓reduceIte, Nat.reduceEqDiff, Int.reduceToNat]
                                  first
                                  | refine OW_guardT rfl (lt_some (by decide)) rfl (fun K hK r => ?_)
                                    simp only [x_indexAddr, eX, ↓reduceIte, Nat.reduceEqDiff, Int.reduceToNat]
                                    refine Lt_indexS Try.underlying22 sz3 ixA ixA ?_
                                    try simp only [add_mk, Nat.mul_one, Nat.zero_add, Int.reduceToNat]
                                    try simp only [eX, ↓reduceIte, Nat.reduceEqDiff, Int.reduceToNat]
                                    refine hK _ _ ?_; clear hK K
                                  | refine OW_guardF rfl (lt_some (by decide)) rfl ?_
                                    simp only [eX, ↓reduceIte, Nat.reduceEqDiff, Int.reduceToNat]
                                  first
                                  | refine OW_guardT rfl (lt_some (by decide)) rfl (fun K hK r => ?_)
                                    simp only [x_load, eX, ↓reduceIte, Nat.reduceEqDiff, Int.reduceToNat]
                                    refine Lt_loadAt1 Try.underlying3 rfl hbA (v := .int .i64 (m.hd.getD k 0)) (by first | exact ints_at atw rfl _ (by omega) | (simp only [Int.toNat_natCast, Nat.mul_one]; exact ints_at atw rfl _ (by omega))) ?_
                                    refine hK _ _ ?_; clear hK K
                                  | refine OW_guardF rfl (lt_some (by decide)) rfl ?_
                                    simp only [eX, ↓reduceIte, Nat.reduceEqDiff, Int.reduceToNat]
                                  first
                                  | refine OW_guardT rfl (lt_some (by decide)) rfl (fun K hK r => ?_)
                                    simp (disch := (first | omega | decide)) only [x_bin, g_int, b_gtr, dec_lt_t, dec_lt_f, dec_le_t, dec_le_f, dec_eq_t, dec_eq_f, Bool.not_true, Bool.not_false, eX, ↓reduceIte, Nat.reduceEqDiff, Int.reduceToNat]
                                    refine hK _ _ ?_; clear hK K
                                  | refine OW_guardF rfl (lt_some (by decide)) rfl ?_
                                    simp only [eX, ↓reduceIte, Nat.reduceEqDiff, Int.reduceToNat]
                                  refine OW_opS (fun K hK r => ?_)
                                  simp only [x_pick, l_asBool, HL.ite_bool, if_true, if_false, Bool.false_eq_true, eX, ↓reduceIte, Nat.reduceEqDiff, Int.reduceToNat]
                                  refine hK _ _ ?_; clear hK K
                                  refine OW_nil ?_
                                  try simp only [Ex.thnH, Ex.inBlockH, ↓reduceIte, Nat.reduceEqDiff]
                                  refine hK10 _ _ ?_; try clear hK10 K10
                                  refine CW_cond (fun r => rfl) (fun c84 => ?_) (fun c84 => ?_)
                                  · first
                                    | (exfalso; exact cnA c84; done)
                                    | skip
                                      have hex : ¬ (0 ≤ m.hd.getD k 0 ∧ m.hd.getD k 0 ≤ 4294967294) := by first | omega | (simp only [decide_eq_true_eq] at c84; omega)
                                      refine CW_seq (fun K11 hK11 => ?_)
                                      refine CW_region ?_
                                      refine OW_as rfl ?_
                                      refine OW_nil ?_
                                      try simp only [Ex.thnH, Ex.inBlockH, ↓reduceIte, Nat.reduceEqDiff]
                                      refine hK11 _ _ ?_; try clear hK11 K11
                                      refine CW_ret ?_
                                      try simp only [Ex.thnH, Ex.inBlockH, ↓reduceIte, Nat.reduceEqDiff]
                                      have hb : m.good = false := by
                                        cases hg : m.good with
                                        | false => rfl
                                        | true =>
                                          exfalso
                                          have hh := (Mf.good_iff.1 hg).h (m.hd.getD k 0) (by rw [List.getD_eq_getElem?_getD, List.getElem?_eq_getElem (by omega)]; exact List.getElem_mem _)
                                          exact hex hh
                                      rw [hb]
                                      exact ⟨[_], ⟨rfl, trivial⟩, H, lhA, rfl, rfl⟩
                                  · first
                                    | (exfalso; exact cnA c84; done)
                                    | skip
                                      have hin : 0 ≤ m.hd.getD k 0 ∧ m.hd.getD k 0 ≤ 4294967294 := by first | omega | (cases c84; done) | (simp only [decide_eq_false_iff_not] at c84; omega)
                                      refine CW_skip ?_
                                      try simp only [Ex.thnH, Ex.inBlockH, ↓reduceIte, Nat.reduceEqDiff]
                                      refine hK9 _ _ ?_; try clear hK9 K9
                                      refine CW_region ?_
                                      refine OW_mv rfl ?_
                                      refine OW_opS (fun K hK r => ?_)
                                      simp (disch := (first | omega | decide)) only [x_bin, g_int, b_add, wrap_i64, wrap_u64, wrap_u32, wrap_u8, eX, ↓reduceIte, Nat.reduceEqDiff, Int.reduceToNat]
                                      refine hK _ _ ?_; clear hK K
                                      refine OW_as rfl ?_
                                      refine OW_nil ?_
                                      try simp only [Ex.thnH, Ex.inBlockH, ↓reduceIte, Nat.reduceEqDiff]
                                      refine ⟨m.hd.length - (k + 1), by omega, k + 1, by omega, rfl, ?_, hlH, rfl, rfl, trivial⟩
                                      intro x hx
                                      rw [take_snoc (by omega)] at hx
                                      rcases List.mem_append.1 hx with h | h
                                      · exact hall x h
                                      · simp only [List.mem_singleton] at h
                                        subst h
                                        omega
                            · first
                              | (exfalso; exact cnA c68; done)
                              | skip
                                (try simp only [decide_eq_true_eq, decide_eq_false_iff_not, Bool.not_eq_true, Bool.not_eq_false, Bool.and_eq_true, Bool.or_eq_true, Bool.or_eq_false_iff, Bool.not_eq_true, Bool.not_eq_eq_eq_not, Bool.not_true, Bool.not_false] at c68)
                                obtain rfl : k = m.hd.length := by omega
                                rw [List.take_length] at hall
                                refine CW_exit ?_
                                try simp only [Ex.thnH, Ex.inBlockH, ↓reduceIte, Nat.reduceEqDiff]
                                refine hK5 _ _ ?_; try clear hK5 K5
                                refine CW_seq (fun K12 hK12 => ?_)
                                refine CW_region ?_
                                refine OW_as rfl ?_
                                refine OW_nil ?_
                                try simp only [Ex.thnH, Ex.inBlockH, ↓reduceIte, Nat.reduceEqDiff]
                                refine hK12 _ _ ?_; try clear hK12 K12
                                refine CW_ret ?_
                                try simp only [Ex.thnH, Ex.inBlockH, ↓reduceIte, Nat.reduceEqDiff]
                                have hg : m.good = true := Mf.good_iff.2 ⟨hrg.1, hrg.2.1, hrg.2.2.1, hrg.2.2.2.1, hrg.2.2.2.2.1, hrg.2.2.2.2.2, hall⟩
                                rw [hg]
                                exact ⟨[_], ⟨rfl, trivial⟩, H, lhA, rfl, rfl⟩

end Go.Proofs.Ytigofhhonnbkmaa.HL
end
section
namespace Go.Proofs.Ytigofhhonnbkmaa.HL
open Go Go.Proofs
set_option linter.unusedSimpArgs false
set_option linter.unusedVariables false
attribute [local irreducible] Lt Lq CW OW TW CallH

theorem OwnS.cap {H : Hp} {E : TypeId} {w n m c : Nat} {a : Option Addr} {cs : List Value} {rs : Option Nat} (h : OwnS H E w (.slice a m c) n cs rs) : n ≤ c := by
  obtain ⟨_, ⟨h1, h2, _⟩ | ⟨r, cap, d, h1, _, h3, _⟩⟩ := h
  · omega
  · injection h1 with _ _ e; omega


end Go.Proofs.Ytigofhhonnbkmaa.HL
end
section
namespace Go.Proofs.Ytigofhhonnbkmaa.HL
open Go Go.Proofs
set_option linter.unusedSimpArgs false
set_option linter.unusedVariables false
attribute [local irreducible] Lt Lq CW OW TW CallH

set_option maxRecDepth 100000 in
set_option maxHeartbeats 8000000 in
theorem rMSeal_ok (H : Hp) (m : Mf) (ma : Option Addr) (mc : Nat) (hm : Holds H 1 (.slice ma m.hd.length mc) m.hd.length (i64s m.hd)) (hml : m.hd.length ≤ 1000000) (hgd : m.good = true) : CallH Try.prog 16 #[.agg #[.int .i64 m.gen, .int .i64 m.ep, .int .i64 m.ba, .int .i64 m.ar, .int .i64 m.ln, .slice ma m.hd.length mc]] H (fun v H' => v = .agg (u8s m.sealB).toArray ∧ Le H H') := by
  refine CallH_enter (l := [_]) (rl := [.cell 2 30]) (n := 63) Try.func16 rfl rfl rfl rfl rfl ?_
  simp only [envOf, Nat.reduceAdd]
  have hok := Mf.good_iff.1 hgd
  have hgg := hok.g; have hge := hok.e; have hgb := hok.b; have hga := hok.a; have hgl := hok.l; have hgn := hok.n
  have hsl := sealI_len m.gen 3 m.by_
  have hml36 := hok.len
  refine CW_seq (fun K1 hK1 => ?_)
  refine CW_region ?_
  refine OW_opS (fun K hK r => ?_)
  simp only [x_box, Value.cells, eX, ↓reduceIte, Nat.reduceEqDiff, Int.reduceToNat]
  intro b1 hb1
  have f1_H : H b1 = none := none_of_le lhA hb1
  try simp only [eX, ↓reduceIte, Nat.reduceEqDiff, Int.reduceToNat]
  refine hK _ _ ?_; clear hK K
  refine OW_opS (fun K hK r => ?_)
  simp only [x_alloc, zr30, orF_some, Value.cells, eX, ↓reduceIte, Nat.reduceEqDiff, Int.reduceToNat]
  intro b2 hb2
  try have n2_b1 : b1 ≠ b2 := ne_of_none hbA hb2
  have f2_H : H b2 = none := none_of_le lhA hb2
  obtain ⟨G, hG⟩ : ∃ G : Hp, G = ((H.upd b1 (.cells #[.int .i64 m.gen, .int .i64 m.ep, .int .i64 m.ba, .int .i64 m.ar, .int .i64 m.ln, .slice ma m.hd.length mc] 24)).upd b2 (.cells (Array.replicate 64 (.int .u8 0)) 30)) := ⟨_, rfl⟩
  have g1 : G b1 = some (.cells #[.int .i64 m.gen, .int .i64 m.ep, .int .i64 m.ba, .int .i64 m.ar, .int .i64 m.ln, .slice ma m.hd.length mc] 24) := by rw [hG]; exact hbA
  have g2 : G b2 = some (.cells (Array.replicate 64 (.int .u8 0)) 30) := by rw [hG]; exact hbA
  have lHG : Le H G := by rw [hG]; exact lhA
  try simp only [eX, ↓reduceIte, Nat.reduceEqDiff, Int.reduceToNat]
  refine hK _ _ ?_; clear hK K
  refine OW_nil ?_
  try simp only [Ex.thnH, Ex.inBlockH, ↓reduceIte, Nat.reduceEqDiff]
  refine hK1 _ _ ?_; try clear hK1 K1
  refine CW_seq (fun K2 hK2 => ?_)
  refine CW_region ?_
  refine OW_opS (fun K hK r => ?_)
  simp only [x_fieldAddr, fa24_1, add_mk, Nat.reduceAdd, Nat.zero_add, eX, ↓reduceIte, Nat.reduceEqDiff, Int.reduceToNat]
  refine hK _ _ ?_; clear hK K
  refine OW_opS (fun K hK r => ?_)
  simp only [x_load, eX, ↓reduceIte, Nat.reduceEqDiff, Int.reduceToNat]
  refine Lt_loadAt1 Try.underlying3 rfl hbA ldA ?_
  try simp only [eX, ↓reduceIte, Nat.reduceEqDiff, Int.reduceToNat]
  refine hK _ _ ?_; clear hK K
  refine OW_opS (fun K hK r => ?_)
  simp (disch := (first | omega | decide)) only [x_convert, c_int _ _ _ _ Try.underlying3 Try.underlying84, wrap_i64, wrap_u64, wrap_u32, wrap_u8, eX, ↓reduceIte, Nat.reduceEqDiff, Int.reduceToNat]
  rw [show Value.int IntKind.u64 m.ep = .int .u64 (((m.ep).toNat : Nat) : Int) from by congr 1; omega]
  refine hK _ _ ?_; clear hK K
  refine OW_opS (fun K hK r => ?_)
  simp only [x_callF _ bd46, List.map_toArray, List.map_cons, List.map_nil, eX, ↓reduceIte, Nat.reduceEqDiff, Int.reduceToNat]
  refine (rfCount_ok _ m.ep.toNat (by omega)).mono ?_
  rintro v10 H10 ⟨l10, rs10, ho10, hr10⟩
  obtain ⟨a10, c10, rfl⟩ := ho10.holds.form
  have hc10 := cnt_len10 (n := m.ep.toNat) (by omega)
  have lG10 : Le G H10 := by rw [hG]; exact l10
  have ac10 := ho10
  have gr10 : ∀ r, rs10 = some r → G r = none := by rw [hG]; exact hr10
  have k10_1 := lG10 b1 _ g1
  have lH10 : Le H H10 := Le.trans lHG lG10
  try simp only [eX, ↓reduceIte, Nat.reduceEqDiff, Int.reduceToNat]
  refine hK _ _ ?_; clear hK K
  refine OW_as rfl ?_
  refine OW_nil ?_
  try simp only [Ex.thnH, Ex.inBlockH, ↓reduceIte, Nat.reduceEqDiff]
  refine hK2 _ _ ?_; try clear hK2 K2
  refine CW_seq (fun K3 hK3 => ?_)
  refine CW_region ?_
  refine OW_mv rfl ?_
  refine OW_opS (fun K hK r => ?_)
  simp only [x_fieldAddr, fa24_2, add_mk, Nat.reduceAdd, Nat.zero_add, eX, ↓reduceIte, Nat.reduceEqDiff, Int.reduceToNat]
  refine hK _ _ ?_; clear hK K
  refine OW_opS (fun K hK r => ?_)
  simp only [x_load, eX, ↓reduceIte, Nat.reduceEqDiff, Int.reduceToNat]
  refine Lt_loadAt1 Try.underlying3 rfl hbA ldA ?_
  try simp only [eX, ↓reduceIte, Nat.reduceEqDiff, Int.reduceToNat]
  refine hK _ _ ?_; clear hK K
  refine OW_opS (fun K hK r => ?_)
  simp (disch := (first | omega | decide)) only [x_convert, c_int _ _ _ _ Try.underlying3 Try.underlying84, wrap_i64, wrap_u64, wrap_u32, wrap_u8, eX, ↓reduceIte, Nat.reduceEqDiff, Int.reduceToNat]
  rw [show Value.int IntKind.u64 m.ba = .int .u64 (((m.ba).toNat : Nat) : Int) from by congr 1; omega]
  refine hK _ _ ?_; clear hK K
  refine OW_opS (fun K hK r => ?_)
  simp only [x_callF _ bd46, List.map_toArray, List.map_cons, List.map_nil, eX, ↓reduceIte, Nat.reduceEqDiff, Int.reduceToNat]
  refine (rfCount_ok _ m.ba.toNat (by omega)).mono ?_
  rintro v15 H15 ⟨l15, rs15, ho15, hr15⟩
  obtain ⟨a15, c15, rfl⟩ := ho15.holds.form
  have hc15 := cnt_len10 (n := m.ba.toNat) (by omega)
  have lG15 : Le G H15 := Le.trans lG10 l15
  have ac15 := ac10.le l15
  have k15_1 := lG15 b1 _ g1
  have lH15 : Le H H15 := Le.trans lHG lG15
  try simp only [eX, ↓reduceIte, Nat.reduceEqDiff, Int.reduceToNat]
  refine hK _ _ ?_; clear hK K
  refine OW_opS (fun K hK r => ?_)
  simp only [x_builtin, l_append, List.map_toArray, List.map_cons, List.map_nil, eX, ↓reduceIte, Nat.reduceEqDiff, Int.reduceToNat]
  refine Lt_append Try.underlying80 Try.underlying80 (by simp) sz5 by5 (by decide) zr5 rfl _ (n := (cnt m.ep.toNat).length) (m := (cnt m.ba.toNat).length) (cs := u8s (cnt m.ep.toNat)) (ds := u8s (cnt m.ba.toNat)) ac15 (fun Kx => len_holds ho15.holds Kx) (fun Kx => first_slice ho15.holds Kx) (by simp) (PlainL.ints _ _) (by first | omega | (simp only [List.length_append] at *; omega)) ?_
  intro v16 H16 rs16 hg16 ho16 hr16
  have lG16 : Le G H16 := hg16.le (H0 := G) lG15 gr10
  have gr16 : ∀ r, rs16 = some r → G r = none := fun r e => (hr16 r e).elim (gr10 r) (fun hn => none_of_le lG15 hn)
  have ac16 : OwnS H16 5 1 v16 ((cnt m.ep.toNat) ++ cnt m.ba.toNat).length (u8s ((cnt m.ep.toNat) ++ cnt m.ba.toNat)) rs16 := by
    rw [List.length_append, show u8s ((cnt m.ep.toNat) ++ cnt m.ba.toNat) = u8s (cnt m.ep.toNat) ++ u8s (cnt m.ba.toNat) from List.map_append]; exact ho16
  obtain ⟨z16, y16, rfl⟩ := ac16.holds.form
  have k16_1 := lG16 b1 _ g1
  have lH16 : Le H H16 := Le.trans lHG lG16
  refine hK _ _ ?_; clear hK K
  refine OW_as rfl ?_
  refine OW_nil ?_
  try simp only [Ex.thnH, Ex.inBlockH, ↓reduceIte, Nat.reduceEqDiff]
  refine hK3 _ _ ?_; try clear hK3 K3
  refine CW_seq (fun K4 hK4 => ?_)
  refine CW_region ?_
  refine OW_mv rfl ?_
  refine OW_opS (fun K hK r => ?_)
  simp only [x_fieldAddr, fa24_3, add_mk, Nat.reduceAdd, Nat.zero_add, eX, ↓reduceIte, Nat.reduceEqDiff, Int.reduceToNat]
  refine hK _ _ ?_; clear hK K
  refine OW_opS (fun K hK r => ?_)
  simp only [x_load, eX, ↓reduceIte, Nat.reduceEqDiff, Int.reduceToNat]
  refine Lt_loadAt1 Try.underlying3 rfl hbA ldA ?_
  try simp only [eX, ↓reduceIte, Nat.reduceEqDiff, Int.reduceToNat]
  refine hK _ _ ?_; clear hK K
  refine OW_opS (fun K hK r => ?_)
  simp (disch := (first | omega | decide)) only [x_convert, c_int _ _ _ _ Try.underlying3 Try.underlying84, wrap_i64, wrap_u64, wrap_u32, wrap_u8, eX, ↓reduceIte, Nat.reduceEqDiff, Int.reduceToNat]
  rw [show Value.int IntKind.u64 m.ar = .int .u64 (((m.ar).toNat : Nat) : Int) from by congr 1; omega]
  refine hK _ _ ?_; clear hK K
  refine OW_opS (fun K hK r => ?_)
  simp only [x_callF _ bd46, List.map_toArray, List.map_cons, List.map_nil, eX, ↓reduceIte, Nat.reduceEqDiff, Int.reduceToNat]
  refine (rfCount_ok _ m.ar.toNat (by omega)).mono ?_
  rintro v21 H21 ⟨l21, rs21, ho21, hr21⟩
  obtain ⟨a21, c21, rfl⟩ := ho21.holds.form
  have hc21 := cnt_len10 (n := m.ar.toNat) (by omega)
  have lG21 : Le G H21 := Le.trans lG16 l21
  have ac21 := ac16.le l21
  have k21_1 := lG21 b1 _ g1
  have lH21 : Le H H21 := Le.trans lHG lG21
  try simp only [eX, ↓reduceIte, Nat.reduceEqDiff, Int.reduceToNat]
  refine hK _ _ ?_; clear hK K
  refine OW_opS (fun K hK r => ?_)
  simp only [x_builtin, l_append, List.map_toArray, List.map_cons, List.map_nil, eX, ↓reduceIte, Nat.reduceEqDiff, Int.reduceToNat]
  refine Lt_append Try.underlying80 Try.underlying80 (by simp) sz5 by5 (by decide) zr5 rfl _ (n := (cnt m.ep.toNat ++ cnt m.ba.toNat).length) (m := (cnt m.ar.toNat).length) (cs := u8s (cnt m.ep.toNat ++ cnt m.ba.toNat)) (ds := u8s (cnt m.ar.toNat)) ac21 (fun Kx => len_holds ho21.holds Kx) (fun Kx => first_slice ho21.holds Kx) (by simp) (PlainL.ints _ _) (by first | omega | (simp only [List.length_append] at *; omega)) ?_
  intro v22 H22 rs22 hg22 ho22 hr22
  have lG22 : Le G H22 := hg22.le (H0 := G) lG21 gr16
  have gr22 : ∀ r, rs22 = some r → G r = none := fun r e => (hr22 r e).elim (gr16 r) (fun hn => none_of_le lG21 hn)
  have ac22 : OwnS H22 5 1 v22 ((cnt m.ep.toNat ++ cnt m.ba.toNat) ++ cnt m.ar.toNat).length (u8s ((cnt m.ep.toNat ++ cnt m.ba.toNat) ++ cnt m.ar.toNat)) rs22 := by
    rw [List.length_append, show u8s ((cnt m.ep.toNat ++ cnt m.ba.toNat) ++ cnt m.ar.toNat) = u8s (cnt m.ep.toNat ++ cnt m.ba.toNat) ++ u8s (cnt m.ar.toNat) from List.map_append]; exact ho22
  obtain ⟨z22, y22, rfl⟩ := ac22.holds.form
  have k22_1 := lG22 b1 _ g1
  have lH22 : Le H H22 := Le.trans lHG lG22
  refine hK _ _ ?_; clear hK K
  refine OW_as rfl ?_
  refine OW_nil ?_
  try simp only [Ex.thnH, Ex.inBlockH, ↓reduceIte, Nat.reduceEqDiff]
  refine hK4 _ _ ?_; try clear hK4 K4
  refine CW_seq (fun K5 hK5 => ?_)
  refine CW_region ?_
  refine OW_mv rfl ?_
  refine OW_opS (fun K hK r => ?_)
  simp only [x_fieldAddr, fa24_4, add_mk, Nat.reduceAdd, Nat.zero_add, eX, ↓reduceIte, Nat.reduceEqDiff, Int.reduceToNat]
  refine hK _ _ ?_; clear hK K
  refine OW_opS (fun K hK r => ?_)
  simp only [x_load, eX, ↓reduceIte, Nat.reduceEqDiff, Int.reduceToNat]
  refine Lt_loadAt1 Try.underlying3 rfl hbA ldA ?_
  try simp only [eX, ↓reduceIte, Nat.reduceEqDiff, Int.reduceToNat]
  refine hK _ _ ?_; clear hK K
  refine OW_opS (fun K hK r => ?_)
  simp (disch := (first | omega | decide)) only [x_convert, c_int _ _ _ _ Try.underlying3 Try.underlying84, wrap_i64, wrap_u64, wrap_u32, wrap_u8, eX, ↓reduceIte, Nat.reduceEqDiff, Int.reduceToNat]
  rw [show Value.int IntKind.u64 m.ln = .int .u64 (((m.ln).toNat : Nat) : Int) from by congr 1; omega]
  refine hK _ _ ?_; clear hK K
  refine OW_opS (fun K hK r => ?_)
  simp only [x_callF _ bd46, List.map_toArray, List.map_cons, List.map_nil, eX, ↓reduceIte, Nat.reduceEqDiff, Int.reduceToNat]
  refine (rfCount_ok _ m.ln.toNat (by omega)).mono ?_
  rintro v27 H27 ⟨l27, rs27, ho27, hr27⟩
  obtain ⟨a27, c27, rfl⟩ := ho27.holds.form
  have hc27 := cnt_len10 (n := m.ln.toNat) (by omega)
  have lG27 : Le G H27 := Le.trans lG22 l27
  have ac27 := ac22.le l27
  have k27_1 := lG27 b1 _ g1
  have lH27 : Le H H27 := Le.trans lHG lG27
  try simp only [eX, ↓reduceIte, Nat.reduceEqDiff, Int.reduceToNat]
  refine hK _ _ ?_; clear hK K
  refine OW_opS (fun K hK r => ?_)
  simp only [x_builtin, l_append, List.map_toArray, List.map_cons, List.map_nil, eX, ↓reduceIte, Nat.reduceEqDiff, Int.reduceToNat]
  refine Lt_append Try.underlying80 Try.underlying80 (by simp) sz5 by5 (by decide) zr5 rfl _ (n := ((cnt m.ep.toNat ++ cnt m.ba.toNat) ++ cnt m.ar.toNat).length) (m := (cnt m.ln.toNat).length) (cs := u8s ((cnt m.ep.toNat ++ cnt m.ba.toNat) ++ cnt m.ar.toNat)) (ds := u8s (cnt m.ln.toNat)) ac27 (fun Kx => len_holds ho27.holds Kx) (fun Kx => first_slice ho27.holds Kx) (by simp) (PlainL.ints _ _) (by first | omega | (simp only [List.length_append] at *; omega)) ?_
  intro v28 H28 rs28 hg28 ho28 hr28
  have lG28 : Le G H28 := hg28.le (H0 := G) lG27 gr22
  have gr28 : ∀ r, rs28 = some r → G r = none := fun r e => (hr28 r e).elim (gr22 r) (fun hn => none_of_le lG27 hn)
  have ac28 : OwnS H28 5 1 v28 (((cnt m.ep.toNat ++ cnt m.ba.toNat) ++ cnt m.ar.toNat) ++ cnt m.ln.toNat).length (u8s (((cnt m.ep.toNat ++ cnt m.ba.toNat) ++ cnt m.ar.toNat) ++ cnt m.ln.toNat)) rs28 := by
    rw [List.length_append, show u8s (((cnt m.ep.toNat ++ cnt m.ba.toNat) ++ cnt m.ar.toNat) ++ cnt m.ln.toNat) = u8s ((cnt m.ep.toNat ++ cnt m.ba.toNat) ++ cnt m.ar.toNat) ++ u8s (cnt m.ln.toNat) from List.map_append]; exact ho28
  obtain ⟨z28, y28, rfl⟩ := ac28.holds.form
  have k28_1 := lG28 b1 _ g1
  have lH28 : Le H H28 := Le.trans lHG lG28
  refine hK _ _ ?_; clear hK K
  refine OW_as rfl ?_
  refine OW_nil ?_
  try simp only [Ex.thnH, Ex.inBlockH, ↓reduceIte, Nat.reduceEqDiff]
  refine hK5 _ _ ?_; try clear hK5 K5
  refine CW_seq (fun K6 hK6 => ?_)
  refine CW_region ?_
  refine OW_mv rfl ?_
  refine OW_opS (fun K hK r => ?_)
  simp only [x_fieldAddr, fa24_5, add_mk, Nat.reduceAdd, Nat.zero_add, eX, ↓reduceIte, Nat.reduceEqDiff, Int.reduceToNat]
  refine hK _ _ ?_; clear hK K
  refine OW_opS (fun K hK r => ?_)
  simp only [x_load, eX, ↓reduceIte, Nat.reduceEqDiff, Int.reduceToNat]
  refine Lt_loadAt1 Try.underlying22 rfl hbA ldA ?_
  try simp only [eX, ↓reduceIte, Nat.reduceEqDiff, Int.reduceToNat]
  refine hK _ _ ?_; clear hK K
  refine OW_opS (fun K hK r => ?_)
  simp only [x_builtin, l_len, List.map_toArray, List.map_cons, List.map_nil, i_len_slice _ _ Try.underlying22, eX, ↓reduceIte, Nat.reduceEqDiff, Int.reduceToNat]
  refine hK _ _ ?_; clear hK K
  refine OW_opS (fun K hK r => ?_)
  simp (disch := (first | omega | decide)) only [x_convert, c_int _ _ _ _ Try.underlying3 Try.underlying84, wrap_i64, wrap_u64, wrap_u32, wrap_u8, eX, ↓reduceIte, Nat.reduceEqDiff, Int.reduceToNat]
  refine hK _ _ ?_; clear hK K
  refine OW_opS (fun K hK r => ?_)
  simp only [x_callF _ bd46, List.map_toArray, List.map_cons, List.map_nil, eX, ↓reduceIte, Nat.reduceEqDiff, Int.reduceToNat]
  refine (rfCount_ok _ m.hd.length (by omega)).mono ?_
  rintro v34 H34 ⟨l34, rs34, ho34, hr34⟩
  obtain ⟨a34, c34, rfl⟩ := ho34.holds.form
  have hc34 := cnt_len10 (n := m.hd.length) (by omega)
  have lG34 : Le G H34 := Le.trans lG28 l34
  have ac34 := ac28.le l34
  have k34_1 := lG34 b1 _ g1
  have lH34 : Le H H34 := Le.trans lHG lG34
  try simp only [eX, ↓reduceIte, Nat.reduceEqDiff, Int.reduceToNat]
  refine hK _ _ ?_; clear hK K
  refine OW_opS (fun K hK r => ?_)
  simp only [x_builtin, l_append, List.map_toArray, List.map_cons, List.map_nil, eX, ↓reduceIte, Nat.reduceEqDiff, Int.reduceToNat]
  refine Lt_append Try.underlying80 Try.underlying80 (by simp) sz5 by5 (by decide) zr5 rfl _ (n := (((cnt m.ep.toNat ++ cnt m.ba.toNat) ++ cnt m.ar.toNat) ++ cnt m.ln.toNat).length) (m := (cnt m.hd.length).length) (cs := u8s (((cnt m.ep.toNat ++ cnt m.ba.toNat) ++ cnt m.ar.toNat) ++ cnt m.ln.toNat)) (ds := u8s (cnt m.hd.length)) ac34 (fun Kx => len_holds ho34.holds Kx) (fun Kx => first_slice ho34.holds Kx) (by simp) (PlainL.ints _ _) (by first | omega | (simp only [List.length_append] at *; omega)) ?_
  intro v35 H35 rs35 hg35 ho35 hr35
  have lG35 : Le G H35 := hg35.le (H0 := G) lG34 gr28
  have gr35 : ∀ r, rs35 = some r → G r = none := fun r e => (hr35 r e).elim (gr28 r) (fun hn => none_of_le lG34 hn)
  have ac35 : OwnS H35 5 1 v35 ((((cnt m.ep.toNat ++ cnt m.ba.toNat) ++ cnt m.ar.toNat) ++ cnt m.ln.toNat) ++ cnt m.hd.length).length (u8s ((((cnt m.ep.toNat ++ cnt m.ba.toNat) ++ cnt m.ar.toNat) ++ cnt m.ln.toNat) ++ cnt m.hd.length)) rs35 := by
    rw [List.length_append, show u8s ((((cnt m.ep.toNat ++ cnt m.ba.toNat) ++ cnt m.ar.toNat) ++ cnt m.ln.toNat) ++ cnt m.hd.length) = u8s (((cnt m.ep.toNat ++ cnt m.ba.toNat) ++ cnt m.ar.toNat) ++ cnt m.ln.toNat) ++ u8s (cnt m.hd.length) from List.map_append]; exact ho35
  obtain ⟨z35, y35, rfl⟩ := ac35.holds.form
  have k35_1 := lG35 b1 _ g1
  have lH35 : Le H H35 := Le.trans lHG lG35
  refine hK _ _ ?_; clear hK K
  refine OW_as rfl ?_
  refine OW_nil ?_
  try simp only [Ex.thnH, Ex.inBlockH, ↓reduceIte, Nat.reduceEqDiff]
  refine hK6 _ _ ?_; try clear hK6 K6
  refine CW_seq (fun K7 hK7 => ?_)
  refine CW_seq (fun K8 hK8 => ?_)
  refine CW_region ?_
  refine OW_as rfl ?_
  refine OW_nil ?_
  try simp only [Ex.thnH, Ex.inBlockH, ↓reduceIte, Nat.reduceEqDiff]
  refine hK8 _ _ ?_; try clear hK8 K8
  refine CW_block ?_
  refine CW_loop (fun m_ e H_ => ∃ (k : Nat) (va : Option Addr) (vc : Nat) (rs : Option Nat), k ≤ m.hd.length ∧ m_ = m.hd.length - k ∧ OwnS H_ 5 1 (.slice va (((((cnt m.ep.toNat ++ cnt m.ba.toNat) ++ cnt m.ar.toNat) ++ cnt m.ln.toNat) ++ cnt m.hd.length) ++ cnts (m.hd.take k)).length vc) (((((cnt m.ep.toNat ++ cnt m.ba.toNat) ++ cnt m.ar.toNat) ++ cnt m.ln.toNat) ++ cnt m.hd.length) ++ cnts (m.hd.take k)).length (u8s (((((cnt m.ep.toNat ++ cnt m.ba.toNat) ++ cnt m.ar.toNat) ++ cnt m.ln.toNat) ++ cnt m.hd.length) ++ cnts (m.hd.take k))) rs ∧ Le G H_ ∧ (∀ r, rs = some r → G r = none) ∧ Env.has [(1, .pointer (some ⟨b1, 0, none⟩)), (2, .pointer (some ⟨b2, 0, none⟩)), (3, .slice va (((((cnt m.ep.toNat ++ cnt m.ba.toNat) ++ cnt m.ar.toNat) ++ cnt m.ln.toNat) ++ cnt m.hd.length) ++ cnts (m.hd.take k)).length vc), (4, .int .i64 k)] e) (m.hd.length) ?_ ?_
  · skip
    have e0 : ((((cnt m.ep.toNat ++ cnt m.ba.toNat) ++ cnt m.ar.toNat) ++ cnt m.ln.toNat) ++ cnt m.hd.length) ++ cnts (m.hd.take 0) = (((cnt m.ep.toNat ++ cnt m.ba.toNat) ++ cnt m.ar.toNat) ++ cnt m.ln.toNat) ++ cnt m.hd.length := by simp [cnts]
    exact ⟨0, z35, y35, rs35, by omega, by omega, by rw [e0]; exact ac35, lG35, gr35, rfl, rfl, by rw [e0]; rfl, rfl, trivial⟩
  intro m_ e_ H_ hI_
  obtain ⟨k, va, vc, rs, hk, rfl, ac_, lG_, gr_, he⟩ := hI_
  refine CW_env he.sub ?_; clear he e_
  have k_1 := lG_ b1 _ g1
  have k_2 := lG_ b2 _ g2
  have lH_ : Le H H_ := Le.trans lHG lG_
  have hck : (cnts (m.hd.take k)).length ≤ 20 := by
    have := cnts_small (l := m.hd.take k) (fun x hx => hok.h x (List.mem_of_mem_take hx))
    rw [List.length_take] at this
    omega
  refine CW_seq (fun K9 hK9 => ?_)
  refine CW_seq (fun K10 hK10 => ?_)
  refine CW_region ?_
  refine OW_mv rfl ?_
  refine OW_opS (fun K hK r => ?_)
  simp only [x_fieldAddr, fa24_5, add_mk, Nat.reduceAdd, Nat.zero_add, eX, ↓reduceIte, Nat.reduceEqDiff, Int.reduceToNat]
  refine hK _ _ ?_; clear hK K
  refine OW_opS (fun K hK r => ?_)
  simp only [x_load, eX, ↓reduceIte, Nat.reduceEqDiff, Int.reduceToNat]
  refine Lt_loadAt1 Try.underlying22 rfl hbA ldA ?_
  try simp only [eX, ↓reduceIte, Nat.reduceEqDiff, Int.reduceToNat]
  refine hK _ _ ?_; clear hK K
  refine OW_opS (fun K hK r => ?_)
  simp only [x_builtin, l_len, List.map_toArray, List.map_cons, List.map_nil, i_len_slice _ _ Try.underlying22, eX, ↓reduceIte, Nat.reduceEqDiff, Int.reduceToNat]
  refine hK _ _ ?_; clear hK K
  refine OW_opS (fun K hK r => ?_)
  simp (disch := (first | omega | decide)) only [x_bin, g_int, b_lss, dec_lt_t, dec_lt_f, dec_le_t, dec_le_f, dec_eq_t, dec_eq_f, Bool.not_true, Bool.not_false, eX, ↓reduceIte, Nat.reduceEqDiff, Int.reduceToNat]
  refine hK _ _ ?_; clear hK K
  refine OW_nil ?_
  try simp only [Ex.thnH, Ex.inBlockH, ↓reduceIte, Nat.reduceEqDiff]
  refine hK10 _ _ ?_; try clear hK10 K10
  refine CW_cond (fun r => rfl) (fun c40 => ?_) (fun c40 => ?_)
  · first
    | (exfalso; exact cnA c40; done)
    | skip
      (try simp only [decide_eq_true_eq, decide_eq_false_iff_not, Bool.not_eq_true, Bool.not_eq_false, Bool.and_eq_true, Bool.or_eq_true, Bool.or_eq_false_iff, Bool.not_eq_true, Bool.not_eq_eq_eq_not, Bool.not_true, Bool.not_false] at c40)
      obtain ⟨bw, ow, qw, Tw, Fw, rfl, hbw, hsw, atw⟩ := (hm.le lH_).at (by omega)
      try have n_bw_b1 : bw ≠ b1 := ne_of_none hbw f1_H
      try have n_bw_b2 : bw ≠ b2 := ne_of_none hbw f2_H
      have hxk := hok.h (m.hd.getD k 0) (by rw [List.getD_eq_getElem?_getD, List.getElem?_eq_getElem (by omega)]; exact List.getElem_mem _)
      refine CW_skip ?_
      try simp only [Ex.thnH, Ex.inBlockH, ↓reduceIte, Nat.reduceEqDiff]
      refine hK9 _ _ ?_; try clear hK9 K9
      refine CW_seq (fun K11 hK11 => ?_)
      refine CW_block ?_
      refine CW_region ?_
      refine OW_mv rfl ?_
      refine OW_opS (fun K hK r => ?_)
      simp only [x_fieldAddr, fa24_5, add_mk, Nat.reduceAdd, Nat.zero_add, eX, ↓reduceIte, Nat.reduceEqDiff, Int.reduceToNat]
      refine hK _ _ ?_; clear hK K
      refine OW_opS (fun K hK r => ?_)
      simp only [x_load, eX, ↓reduceIte, Nat.reduceEqDiff, Int.reduceToNat]
      refine Lt_loadAt1 Try.underlying22 rfl hbA ldA ?_
      try simp only [eX, ↓reduceIte, Nat.reduceEqDiff, Int.reduceToNat]
      refine hK _ _ ?_; clear hK K
      refine OW_mv rfl ?_
      refine OW_opS (fun K hK r => ?_)
      simp only [x_indexAddr, eX, ↓reduceIte, Nat.reduceEqDiff, Int.reduceToNat]
      refine Lt_indexS Try.underlying22 sz3 ixA ixA ?_
      try simp only [add_mk, Nat.mul_one, Nat.zero_add, Int.reduceToNat]
      try simp only [eX, ↓reduceIte, Nat.reduceEqDiff, Int.reduceToNat]
      refine hK _ _ ?_; clear hK K
      refine OW_opS (fun K hK r => ?_)
      simp only [x_load, eX, ↓reduceIte, Nat.reduceEqDiff, Int.reduceToNat]
      refine Lt_loadAt1 Try.underlying3 rfl hbA (v := .int .i64 (m.hd.getD k 0)) (by first | exact ints_at atw rfl _ (by omega) | (simp only [Int.toNat_natCast, Nat.mul_one]; exact ints_at atw rfl _ (by omega))) ?_
      refine hK _ _ ?_; clear hK K
      refine OW_opS (fun K hK r => ?_)
      simp (disch := (first | omega | decide)) only [x_convert, c_int _ _ _ _ Try.underlying3 Try.underlying84, wrap_i64, wrap_u64, wrap_u32, wrap_u8, eX, ↓reduceIte, Nat.reduceEqDiff, Int.reduceToNat]
      rw [show Value.int IntKind.u64 (m.hd.getD k 0) = .int .u64 ((((m.hd.getD k 0)).toNat : Nat) : Int) from by congr 1; omega]
      refine hK _ _ ?_; clear hK K
      refine OW_opS (fun K hK r => ?_)
      simp only [x_callF _ bd46, List.map_toArray, List.map_cons, List.map_nil, eX, ↓reduceIte, Nat.reduceEqDiff, Int.reduceToNat]
      refine (rfCount_ok _ (m.hd.getD k 0).toNat (by omega)).mono ?_
      rintro v50 H50 ⟨l50, rs50, ho50, hr50⟩
      obtain ⟨a50, c50, rfl⟩ := ho50.holds.form
      have hc50 := cnt_len10 (n := (m.hd.getD k 0).toNat) (by omega)
      have lG50 : Le G H50 := Le.trans lG_ l50
      have ac50 := ac_.le l50
      have k50_1 := lG50 b1 _ g1
      have lH50 : Le H H50 := Le.trans lHG lG50
      try simp only [eX, ↓reduceIte, Nat.reduceEqDiff, Int.reduceToNat]
      refine hK _ _ ?_; clear hK K
      refine OW_opS (fun K hK r => ?_)
      simp only [x_builtin, l_append, List.map_toArray, List.map_cons, List.map_nil, eX, ↓reduceIte, Nat.reduceEqDiff, Int.reduceToNat]
      refine Lt_append Try.underlying80 Try.underlying80 (by simp) sz5 by5 (by decide) zr5 rfl _ (n := (((((cnt m.ep.toNat ++ cnt m.ba.toNat) ++ cnt m.ar.toNat) ++ cnt m.ln.toNat) ++ cnt m.hd.length) ++ cnts (m.hd.take k)).length) (m := (cnt (m.hd.getD k 0).toNat).length) (cs := u8s (((((cnt m.ep.toNat ++ cnt m.ba.toNat) ++ cnt m.ar.toNat) ++ cnt m.ln.toNat) ++ cnt m.hd.length) ++ cnts (m.hd.take k))) (ds := u8s (cnt (m.hd.getD k 0).toNat)) ac50 (fun Kx => len_holds ho50.holds Kx) (fun Kx => first_slice ho50.holds Kx) (by simp) (PlainL.ints _ _) (by first | omega | (simp only [List.length_append] at *; omega)) ?_
      intro v51 H51 rs51 hg51 ho51 hr51
      have lG51 : Le G H51 := hg51.le (H0 := G) lG50 gr_
      have gr51 : ∀ r, rs51 = some r → G r = none := fun r e => (hr51 r e).elim (gr_ r) (fun hn => none_of_le lG50 hn)
      have ac51 : OwnS H51 5 1 v51 ((((((cnt m.ep.toNat ++ cnt m.ba.toNat) ++ cnt m.ar.toNat) ++ cnt m.ln.toNat) ++ cnt m.hd.length) ++ cnts (m.hd.take k)) ++ cnt (m.hd.getD k 0).toNat).length (u8s ((((((cnt m.ep.toNat ++ cnt m.ba.toNat) ++ cnt m.ar.toNat) ++ cnt m.ln.toNat) ++ cnt m.hd.length) ++ cnts (m.hd.take k)) ++ cnt (m.hd.getD k 0).toNat)) rs51 := by
        rw [List.length_append, show u8s ((((((cnt m.ep.toNat ++ cnt m.ba.toNat) ++ cnt m.ar.toNat) ++ cnt m.ln.toNat) ++ cnt m.hd.length) ++ cnts (m.hd.take k)) ++ cnt (m.hd.getD k 0).toNat) = u8s (((((cnt m.ep.toNat ++ cnt m.ba.toNat) ++ cnt m.ar.toNat) ++ cnt m.ln.toNat) ++ cnt m.hd.length) ++ cnts (m.hd.take k)) ++ u8s (cnt (m.hd.getD k 0).toNat) from List.map_append]; exact ho51
      obtain ⟨z51, y51, rfl⟩ := ac51.holds.form
      have k51_1 := lG51 b1 _ g1
      have lH51 : Le H H51 := Le.trans lHG lG51
      refine hK _ _ ?_; clear hK K
      refine OW_as rfl ?_
      refine OW_nil ?_
      try simp only [Ex.thnH, Ex.inBlockH, ↓reduceIte, Nat.reduceEqDiff]
      refine hK11 _ _ ?_; try clear hK11 K11
      refine CW_region ?_
      refine OW_mv rfl ?_
      refine OW_opS (fun K hK r => ?_)
      simp (disch := (first | omega | decide)) only [x_bin, g_int, b_add, wrap_i64, wrap_u64, wrap_u32, wrap_u8, eX, ↓reduceIte, Nat.reduceEqDiff, Int.reduceToNat]
      refine hK _ _ ?_; clear hK K
      refine OW_as rfl ?_
      refine OW_nil ?_
      try simp only [Ex.thnH, Ex.inBlockH, ↓reduceIte, Nat.reduceEqDiff]
      have ek : ((((cnt m.ep.toNat ++ cnt m.ba.toNat) ++ cnt m.ar.toNat) ++ cnt m.ln.toNat) ++ cnt m.hd.length) ++ cnts (m.hd.take (k + 1)) = (((((cnt m.ep.toNat ++ cnt m.ba.toNat) ++ cnt m.ar.toNat) ++ cnt m.ln.toNat) ++ cnt m.hd.length) ++ cnts (m.hd.take k)) ++ cnt (m.hd.getD k 0).toNat := by rw [cnts_snoc (by omega), List.append_assoc (_ ++ cnt m.hd.length)]
      exact ⟨m.hd.length - (k + 1), by omega, k + 1, z51, y51, rs51, by omega, rfl, by rw [ek]; exact ac51, lG51, gr51, rfl, rfl, by rw [ek]; rfl, rfl, trivial⟩
  · first
    | (exfalso; exact cnA c40; done)
    | skip
      (try simp only [decide_eq_true_eq, decide_eq_false_iff_not, Bool.not_eq_true, Bool.not_eq_false, Bool.and_eq_true, Bool.or_eq_true, Bool.or_eq_false_iff, Bool.not_eq_true, Bool.not_eq_eq_eq_not, Bool.not_true, Bool.not_false] at c40)
      obtain rfl : k = m.hd.length := by omega
      refine CW_exit ?_
      try simp only [Ex.thnH, Ex.inBlockH, ↓reduceIte, Nat.reduceEqDiff]
      refine hK7 _ _ ?_; try clear hK7 K7
      refine CW_seq (fun K12 hK12 => ?_)
      obtain ⟨R10, hR10⟩ : ∃ R : Hp, R = emptyHp.upd b1 (.cells #[.int .i64 m.gen, .int .i64 m.ep, .int .i64 m.ba, .int .i64 m.ar, .int .i64 m.ln, .slice ma m.hd.length mc] 24) := ⟨_, rfl⟩
      refine CW_drawR [0, 1, 0, 2, 2, 0, 2, 0, 0, 0, 4, 3, 0] [0, 1, 2, 3, 4, 5, 6, 7, 8, 9, 10, 11, 12] R10 (by kernel_rfl) (by kernel_rfl) (by subst hR10; exact le_put (le_empty _) k_1) (fun lR10 => ?_)
      apply TW_pure rfl (lt_some (by decide)) rfl
      · intro r
        simp only [x_fieldAddr, fa24_0, add_mk, Nat.reduceAdd, Nat.zero_add, eX, ↓reduceIte, Nat.reduceEqDiff]
        exact ⟨rfl, Le.refl _⟩
      simp only [eX, ↓reduceIte, Nat.reduceEqDiff, Int.reduceToNat]
      apply TW_look rfl (lt_some (by decide)) rfl
      · intro r
        simp only [x_load, eX, ↓reduceIte, Nat.reduceEqDiff]
        refine Lt_loadAt1 Try.underlying3 rfl hbA ldA ?_
        exact ⟨rfl, Le.refl _⟩
      simp only [eX, ↓reduceIte, Nat.reduceEqDiff, Int.reduceToNat]
      apply TW_pure rfl (lt_some (by decide)) rfl
      · intro r
        simp only [x_move, eX, ↓reduceIte, Nat.reduceEqDiff]
        exact ⟨rfl, Le.refl _⟩
      simp only [eX, ↓reduceIte, Nat.reduceEqDiff, Int.reduceToNat]
      refine TW_chain rfl (lt_some (by decide)) rfl (fun K hK r => ?_)
      simp only [x_buildSlice, List.map_toArray, List.map_cons, List.map_nil, eX, ↓reduceIte, Nat.reduceEqDiff, Int.reduceToNat]
      refine Lt_buildSlice (vs := [_]) Try.underlying80 sz5 zr5 rfl bsA (by first | decide | (simp; done)) ?_
      simp only [List.flatMap_cons, List.flatMap_nil, Value.cells, List.append_nil, List.cons_append, List.nil_append, List.length_cons, List.length_nil, Nat.zero_add, Nat.reduceAdd]
      intro b56 hb56
      try have n56_b1 : b1 ≠ b56 := ne_of_none hbA hb56
      try have n56_b2 : b2 ≠ b56 := ne_of_none hbA hb56
      have f56_H : H b56 = none := none_of_le lhA hb56
      have f56_R10 : R10 b56 = none := none_of_le lhA hb56
      try simp only [eX, ↓reduceIte, Nat.reduceEqDiff, Int.reduceToNat]
      refine hK _ _ leA ?_; clear hK K
      refine TW_chain rfl (lt_some (by decide)) rfl (fun K hK r => ?_)
      simp only [x_builtin, l_append, List.map_toArray, List.map_cons, List.map_nil, eX, ↓reduceIte, Nat.reduceEqDiff, Int.reduceToNat]
      refine Lt_append Try.underlying80 Try.underlying80 (by simp) sz5 by5 (by decide) zr5 rfl _ (n := (((((cnt m.ep.toNat ++ cnt m.ba.toNat) ++ cnt m.ar.toNat) ++ cnt m.ln.toNat) ++ cnt m.hd.length) ++ cnts (m.hd.take m.hd.length)).length) (m := 1) (cs := u8s (((((cnt m.ep.toNat ++ cnt m.ba.toNat) ++ cnt m.ar.toNat) ++ cnt m.ln.toNat) ++ cnt m.hd.length) ++ cnts (m.hd.take m.hd.length))) (ds := [.int .u8 77]) (ac_.make hb56) (len_slice _ _ _) (fun Kx => ?_) (by simp) plA (by first | omega | (simp only [List.length_append] at *; omega)) ?_
      · refine (first_holds (w := 1) (n := 1) (cs := [.int .u8 77]) ⟨rfl, .inr ⟨b56, 0, 1, _, _, _, rfl, hbA, by simp, by simp⟩⟩ (Nat.le_refl _) Kx).trans ?_
        rfl
      intro v57 H57 rs57 hg57 ho57 hr57
      have lG57 : Le G H57 := hg57.le (H0 := G) (le_upd_of lG_ (none_of_le lG_ hb56)) gr_
      have e57 : m.by_ = (((((cnt m.ep.toNat ++ cnt m.ba.toNat) ++ cnt m.ar.toNat) ++ cnt m.ln.toNat) ++ cnt m.hd.length) ++ cnts (m.hd.take m.hd.length)) ++ [77] := by
        rw [m.by_eq, List.take_length]
        simp only [List.append_assoc]
      have h57 : Holds H57 1 v57 m.by_.length (u8s m.by_) := by
        rw [e57, List.length_append, show u8s ((((((cnt m.ep.toNat ++ cnt m.ba.toNat) ++ cnt m.ar.toNat) ++ cnt m.ln.toNat) ++ cnt m.hd.length) ++ cnts (m.hd.take m.hd.length)) ++ [77]) = u8s (((((cnt m.ep.toNat ++ cnt m.ba.toNat) ++ cnt m.ar.toNat) ++ cnt m.ln.toNat) ++ cnt m.hd.length) ++ cnts (m.hd.take m.hd.length)) ++ [.int .u8 77] from List.map_append]
        exact ho57.holds
      obtain ⟨z57, y57, rfl⟩ := h57.form
      have k57_1 := lG57 b1 _ g1
      have k57_2 := lG57 b2 _ g2
      have lH57 : Le H H57 := Le.trans lHG lG57
      have lR57 : Le R10 H57 := by rw [hR10]; exact le_put (le_empty _) k57_1
      refine hK _ _ leA ?_; clear hK K
      apply TW_pure rfl (lt_some (by decide)) rfl
      · intro r
        simp only [x_build, bp102, List.map_toArray, List.map_cons, List.map_nil, eX, ↓reduceIte, Nat.reduceEqDiff]
        rw [fill_one rfl clA bdA]
        rw [fill_one rfl clA bdA]
        rw [fill_one rfl clA bdA]
        simp only [fill_nil, orF_some, List.setIfInBounds_toArray, List.set_cons_zero, List.set_cons_succ]
        exact ⟨rfl, Le.refl _⟩
      simp only [eX, ↓reduceIte, Nat.reduceEqDiff, Int.reduceToNat]
      refine TW_chain rfl (lt_some (by decide)) rfl (fun K hK r => ?_)
      simp only [x_callF _ bd47, List.map_toArray, List.map_cons, List.map_nil, eX, ↓reduceIte, Nat.reduceEqDiff, Int.reduceToNat]
      refine (rSeal_ok _ m.gen 3 _ m.by_ h57).mono ?_
      rintro v H' ⟨rfl, hq⟩
      have hq := hq.symm
      subst hq
      try simp only [eX, ↓reduceIte, Nat.reduceEqDiff, Int.reduceToNat]
      refine hK _ _ leA ?_; clear hK K
      apply TW_pure rfl (lt_some (by decide)) rfl
      · intro r
        simp only [x_move, eX, ↓reduceIte, Nat.reduceEqDiff]
        exact ⟨rfl, Le.refl _⟩
      simp only [eX, ↓reduceIte, Nat.reduceEqDiff, Int.reduceToNat]
      apply TW_pure rfl (lt_some (by decide)) rfl
      · intro r
        simp only [x_extract, i_extract, List.getElem?_toArray, List.getElem?_cons_zero, List.getElem?_cons_succ, orF_some, eX, ↓reduceIte, Nat.reduceEqDiff]
        exact ⟨rfl, Le.refl _⟩
      simp only [eX, ↓reduceIte, Nat.reduceEqDiff, Int.reduceToNat]
      apply TW_pure rfl (lt_some (by decide)) rfl
      · intro r
        simp only [x_extract, i_extract, List.getElem?_toArray, List.getElem?_cons_zero, List.getElem?_cons_succ, orF_some, eX, ↓reduceIte, Nat.reduceEqDiff]
        exact ⟨rfl, Le.refl _⟩
      simp only [eX, ↓reduceIte, Nat.reduceEqDiff, Int.reduceToNat]
      refine TW_make rfl (lt_some (by decide)) rfl (fun K hK r => ?_)
      simp only [x_alloc, zr30, orF_some, Value.cells, eX, ↓reduceIte, Nat.reduceEqDiff, Int.reduceToNat]
      intro b5 hb5
      try have n5_b1 : b1 ≠ b5 := ne_of_none hbA hb5
      try have n5_b2 : b2 ≠ b5 := ne_of_none hbA hb5
      try have n5_b56 : b56 ≠ b5 := ne_of_none hbA hb5
      have f5_H : H b5 = none := none_of_le lhA hb5
      have f5_R10 : R10 b5 = none := none_of_le lhA hb5
      try simp only [eX, ↓reduceIte, Nat.reduceEqDiff, Int.reduceToNat]
      refine hK _ _ ?_; clear hK K
      refine TW_last rfl (lt_none) rfl (fun K hK r => ?_)
      simp only [x_store, eX, ↓reduceIte, Nat.reduceEqDiff, Int.reduceToNat]
      first | refine Lt_storeAll sz30 bdA hbA bdA plA (by decide) ?_ | refine Lt_storeAtA sz30 bdA hbA bdA plA (by decide) ?_
      try simp only [eX, ↓reduceIte, Nat.reduceEqDiff, Int.reduceToNat]
      refine hK _ _ ?_; clear hK K
      apply TW_pure rfl (lt_some (by decide)) rfl
      · intro r
        simp only [x_assign, eX, ↓reduceIte, Nat.reduceEqDiff]
        exact ⟨rfl, Le.refl _⟩
      simp only [eX, ↓reduceIte, Nat.reduceEqDiff, Int.reduceToNat]
      refine TW_nil ?_
      try simp only [Ex.thnH, Ex.inBlockH, ↓reduceIte, Nat.reduceEqDiff]
      refine hK12 _ _ ?_; try clear hK12 K12
      refine CW_seq (fun K13 hK13 => ?_)
      refine CW_region ?_
      refine OW_opS (fun K hK r => ?_)
      simp only [x_load, eX, ↓reduceIte, Nat.reduceEqDiff, Int.reduceToNat]
      first | refine Lt_loadAll Try.underlying30 rfl sz30 hbA bdA ?_ | refine Lt_loadAtA Try.underlying30 rfl sz30 hbA bdA ?_
      try simp only [eX, ↓reduceIte, Nat.reduceEqDiff, Int.reduceToNat]
      refine hK _ _ ?_; clear hK K
      refine OW_op rfl (lt_none) (fun K hK r => ?_)
      simp only [x_store, eX, ↓reduceIte, Nat.reduceEqDiff, Int.reduceToNat]
      first | refine Lt_storeAll sz30 bdA hbA bdA plA (by decide) ?_ | refine Lt_storeAtA sz30 bdA hbA bdA plA (by decide) ?_
      try simp only [eX, ↓reduceIte, Nat.reduceEqDiff, Int.reduceToNat]
      refine hK _ _ ?_; clear hK K
      refine OW_nil ?_
      try simp only [Ex.thnH, Ex.inBlockH, ↓reduceIte, Nat.reduceEqDiff]
      refine hK13 _ _ ?_; try clear hK13 K13
      refine CW_ret ?_
      try simp only [Ex.thnH, Ex.inBlockH, ↓reduceIte, Nat.reduceEqDiff]
      refine ⟨[_], ⟨⟨_, rfl, Lq_loadAll Try.underlying30 rfl sz30 hbA bdA⟩, trivial⟩, _, Le.refl _, ?_, lhA⟩
      unfold Mf.sealB
      rw [if_pos hgd]
      rfl

end Go.Proofs.Ytigofhhonnbkmaa.HL
end
section
namespace Go.Proofs.Ytigofhhonnbkmaa.HL
open Go Go.Proofs
set_option linter.unusedSimpArgs false
set_option linter.unusedVariables false
attribute [local irreducible] Lt Lq CW OW TW CallH

end Go.Proofs.Ytigofhhonnbkmaa.HL
end
section
namespace Go.Proofs.Ytigofhhonnbkmaa.HL
open Go Go.Proofs
set_option linter.unusedSimpArgs false
set_option linter.unusedVariables false
attribute [local irreducible] Lt Lq CW OW TW CallH

set_option maxRecDepth 100000 in
set_option maxHeartbeats 8000000 in
theorem lawSeals (H : Hp) (m : Mf) (ma : Option Addr) (mc : Nat) (hm : Holds H 1 (.slice ma m.hd.length mc) m.hd.length (i64s m.hd)) (hm0 : m.hd.length ≤ 9223372036854775807) : CallH Try.prog 3 #[.agg #[.int .i64 m.gen, .int .i64 m.ep, .int .i64 m.ba, .int .i64 m.ar, .int .i64 m.ln, .slice ma m.hd.length mc]] H (fun v H' => v = .bool true ∧ Le H H') := by
  refine CallH_enter (l := [_]) (rl := [.tmp 2]) (n := 73) Try.func3 rfl rfl rfl rfl rfl ?_
  simp only [envOf, Nat.reduceAdd]
  have hsl := m.seal_len
  have hsb := m.seal_byte
  refine CW_seq (fun K1 hK1 => ?_)
  refine CW_region ?_
  refine OW_opS (fun K hK r => ?_)
  simp only [x_box, Value.cells, eX, ↓reduceIte, Nat.reduceEqDiff, Int.reduceToNat]
  intro b1 hb1
  have f1_H : H b1 = none := none_of_le lhA hb1
  try simp only [eX, ↓reduceIte, Nat.reduceEqDiff, Int.reduceToNat]
  refine hK _ _ ?_; clear hK K
  refine OW_as rfl ?_
  refine OW_nil ?_
  try simp only [Ex.thnH, Ex.inBlockH, ↓reduceIte, Nat.reduceEqDiff]
  refine hK1 _ _ ?_; try clear hK1 K1
  refine CW_seq (fun K2 hK2 => ?_)
  refine CW_seq (fun K3 hK3 => ?_)
  refine CW_region ?_
  refine OW_opS (fun K hK r => ?_)
  simp only [x_callF _ bd7, List.map_toArray, List.map_cons, List.map_nil, eX, ↓reduceIte, Nat.reduceEqDiff, Int.reduceToNat]
  refine (alive_ok _).mono ?_
  rintro v9 H' ⟨rfl, hq⟩
  have hq := hq.symm
  subst hq
  try simp only [eX, ↓reduceIte, Nat.reduceEqDiff, Int.reduceToNat]
  refine hK _ _ ?_; clear hK K
  refine OW_opS (fun K hK r => ?_)
  simp only [x_un, u_not, eX, ↓reduceIte, Nat.reduceEqDiff, Int.reduceToNat]
  refine hK _ _ ?_; clear hK K
  refine OW_nil ?_
  try simp only [Ex.thnH, Ex.inBlockH, ↓reduceIte, Nat.reduceEqDiff]
  refine hK3 _ _ ?_; try clear hK3 K3
  refine CW_cond (fun r => rfl) (fun c10 => ?_) (fun c10 => ?_)
  · exfalso; exact cnA c10
  refine CW_skip ?_
  try simp only [Ex.thnH, Ex.inBlockH, ↓reduceIte, Nat.reduceEqDiff]
  refine hK2 _ _ ?_; try clear hK2 K2
  refine CW_seq (fun K4 hK4 => ?_)
  refine CW_seq (fun K5 hK5 => ?_)
  refine CW_region ?_
  refine OW_opS (fun K hK r => ?_)
  simp only [x_load, eX, ↓reduceIte, Nat.reduceEqDiff, Int.reduceToNat]
  first | refine Lt_loadAll Try.underlying24 rfl sz24 hbA bdA ?_ | refine Lt_loadAtA Try.underlying24 rfl sz24 hbA bdA ?_
  try simp only [List.extract_toArray, List.extract_eq_take_drop, Nat.zero_add, Nat.reduceAdd, Nat.reduceSub, Nat.sub_zero, List.drop_succ_cons, List.drop_zero, List.take_succ_cons, List.take_zero, List.take_nil, List.drop_nil]
  try simp only [eX, ↓reduceIte, Nat.reduceEqDiff, Int.reduceToNat]
  refine hK _ _ ?_; clear hK K
  refine OW_opS (fun K hK r => ?_)
  simp only [x_callF _ bd8, List.map_toArray, List.map_cons, List.map_nil, eX, ↓reduceIte, Nat.reduceEqDiff, Int.reduceToNat]
  refine (large_ok _ m ma mc (hm.le lhA) hm0).mono ?_
  rintro v H' ⟨rfl, hq⟩
  have hq := hq.symm
  subst hq
  try simp only [eX, ↓reduceIte, Nat.reduceEqDiff, Int.reduceToNat]
  refine hK _ _ ?_; clear hK K
  refine OW_nil ?_
  try simp only [Ex.thnH, Ex.inBlockH, ↓reduceIte, Nat.reduceEqDiff]
  refine hK5 _ _ ?_; try clear hK5 K5
  refine CW_cond (fun r => rfl) (fun c12 => ?_) (fun c12 => ?_)
  · first
    | (exfalso; exact cnA c12; done)
    | skip
      skip
      refine CW_seq (fun K6 hK6 => ?_)
      refine CW_region ?_
      refine OW_as rfl ?_
      refine OW_nil ?_
      try simp only [Ex.thnH, Ex.inBlockH, ↓reduceIte, Nat.reduceEqDiff]
      refine hK6 _ _ ?_; try clear hK6 K6
      refine CW_ret ?_
      try simp only [Ex.thnH, Ex.inBlockH, ↓reduceIte, Nat.reduceEqDiff]
      exact ⟨[_], ⟨rfl, trivial⟩, H, lhA, rfl, Le.refl _⟩
  · first
    | (exfalso; exact cnA c12; done)
    | skip
      have hml : m.hd.length ≤ 1000000 := by
        have := of_decide_eq_false c12
        omega
      refine CW_skip ?_
      try simp only [Ex.thnH, Ex.inBlockH, ↓reduceIte, Nat.reduceEqDiff]
      refine hK4 _ _ ?_; try clear hK4 K4
      refine CW_seq (fun K7 hK7 => ?_)
      refine CW_region ?_
      refine OW_opS (fun K hK r => ?_)
      simp only [x_load, eX, ↓reduceIte, Nat.reduceEqDiff, Int.reduceToNat]
      first | refine Lt_loadAll Try.underlying24 rfl sz24 hbA bdA ?_ | refine Lt_loadAtA Try.underlying24 rfl sz24 hbA bdA ?_
      try simp only [List.extract_toArray, List.extract_eq_take_drop, Nat.zero_add, Nat.reduceAdd, Nat.reduceSub, Nat.sub_zero, List.drop_succ_cons, List.drop_zero, List.take_succ_cons, List.take_zero, List.take_nil, List.drop_nil]
      try simp only [eX, ↓reduceIte, Nat.reduceEqDiff, Int.reduceToNat]
      refine hK _ _ ?_; clear hK K
      refine OW_opS (fun K hK r => ?_)
      simp only [x_callF _ bd9, List.map_toArray, List.map_cons, List.map_nil, eX, ↓reduceIte, Nat.reduceEqDiff, Int.reduceToNat]
      refine (program_ok _ m ma mc (hm.le lhA) hml).mono ?_
      rintro v14 H14 ⟨l14, xa, xc, rs14, rfl, ho14, hr14⟩
      try have kH14_b1 := l14 b1 _ hbA
      have lH14_H : Le H H14 := Le.trans lhA l14
      have lH14 : Le H H14 := Le.trans lhA l14
      try simp only [eX, ↓reduceIte, Nat.reduceEqDiff, Int.reduceToNat]
      refine hK _ _ ?_; clear hK K
      refine OW_opS (fun K hK r => ?_)
      simp only [x_alloc, zr27, orF_some, Value.cells, eX, ↓reduceIte, Nat.reduceEqDiff, Int.reduceToNat]
      intro b3 hb3
      try have n3_b1 : b1 ≠ b3 := ne_of_none hbA hb3
      have f3_H : H b3 = none := none_of_le lhA hb3
      try simp only [eX, ↓reduceIte, Nat.reduceEqDiff, Int.reduceToNat]
      refine hK _ _ ?_; clear hK K
      refine OW_op rfl (lt_none) (fun K hK r => ?_)
      simp only [x_store, eX, ↓reduceIte, Nat.reduceEqDiff, Int.reduceToNat]
      first | refine Lt_storeAll sz27 bdA hbA bdA plA (by decide) ?_ | refine Lt_storeAtA sz27 bdA hbA bdA plA (by decide) ?_
      try simp only [eX, ↓reduceIte, Nat.reduceEqDiff, Int.reduceToNat]
      refine hK _ _ ?_; clear hK K
      refine OW_nil ?_
      try simp only [Ex.thnH, Ex.inBlockH, ↓reduceIte, Nat.reduceEqDiff]
      refine hK7 _ _ ?_; try clear hK7 K7
      refine CW_seq (fun K8 hK8 => ?_)
      refine CW_region ?_
      refine OW_opS (fun K hK r => ?_)
      simp only [x_load, eX, ↓reduceIte, Nat.reduceEqDiff, Int.reduceToNat]
      first | refine Lt_loadAll Try.underlying27 rfl sz27 hbA bdA ?_ | refine Lt_loadAtA Try.underlying27 rfl sz27 hbA bdA ?_
      try simp only [List.extract_toArray, List.extract_eq_take_drop, Nat.zero_add, Nat.reduceAdd, Nat.reduceSub, Nat.sub_zero, List.drop_succ_cons, List.drop_zero, List.take_succ_cons, List.take_zero, List.take_nil, List.drop_nil]
      try simp only [eX, ↓reduceIte, Nat.reduceEqDiff, Int.reduceToNat]
      refine hK _ _ ?_; clear hK K
      refine OW_opS (fun K hK r => ?_)
      simp only [x_callF _ bd10, List.map_toArray, List.map_cons, List.map_nil, eX, ↓reduceIte, Nat.reduceEqDiff, Int.reduceToNat]
      have ho3 := ho14.make (o := .cells #[.int .i64 m.gen, .int .i64 m.ep, .int .i64 m.ba, .int .i64 m.ar, .int .i64 m.ln, .slice xa m.hd.length xc] 27) hb3
      refine (mSeal_ok _ m xa xc ho3.holds hml).mono ?_
      rintro v17 H17 ⟨rfl, l17⟩
      have ho17 := ho3.le l17
      have k17_3 := l17 b3 _ (upd_same _ _ _)
      have k17_1 := l17 b1 _ hbA
      have lH17 : Le H H17 := Le.trans lH14 (Le.trans (le_upd _ _ _ hb3) l17)
      try simp only [eX, ↓reduceIte, Nat.reduceEqDiff, Int.reduceToNat]
      refine hK _ _ ?_; clear hK K
      refine OW_mv rfl ?_
      refine OW_opS (fun K hK r => ?_)
      simp only [x_extract, i_extract, List.getElem?_toArray, List.getElem?_cons_zero, List.getElem?_cons_succ, orF_some, eX, ↓reduceIte, Nat.reduceEqDiff, Int.reduceToNat]
      refine hK _ _ ?_; clear hK K
      refine OW_opS (fun K hK r => ?_)
      simp only [x_extract, i_extract, List.getElem?_toArray, List.getElem?_cons_zero, List.getElem?_cons_succ, orF_some, eX, ↓reduceIte, Nat.reduceEqDiff, Int.reduceToNat]
      refine hK _ _ ?_; clear hK K
      refine OW_opS (fun K hK r => ?_)
      simp only [x_alloc, zr30, orF_some, Value.cells, eX, ↓reduceIte, Nat.reduceEqDiff, Int.reduceToNat]
      intro b4 hb4
      try have n4_b1 : b1 ≠ b4 := ne_of_none hbA hb4
      try have n4_b3 : b3 ≠ b4 := ne_of_none hbA hb4
      have f4_H : H b4 = none := none_of_le lhA hb4
      try simp only [eX, ↓reduceIte, Nat.reduceEqDiff, Int.reduceToNat]
      refine hK _ _ ?_; clear hK K
      refine OW_op rfl (lt_none) (fun K hK r => ?_)
      simp only [x_store, eX, ↓reduceIte, Nat.reduceEqDiff, Int.reduceToNat]
      first | refine Lt_storeAll sz30 bdA hbA bdA plA (by decide) ?_ | refine Lt_storeAtA sz30 bdA hbA bdA plA (by decide) ?_
      try simp only [eX, ↓reduceIte, Nat.reduceEqDiff, Int.reduceToNat]
      refine hK _ _ ?_; clear hK K
      refine OW_as rfl ?_
      refine OW_nil ?_
      try simp only [Ex.thnH, Ex.inBlockH, ↓reduceIte, Nat.reduceEqDiff]
      refine hK8 _ _ ?_; try clear hK8 K8
      refine CW_seq (fun K9 hK9 => ?_)
      refine CW_region ?_
      refine OW_opS (fun K hK r => ?_)
      simp only [x_load, eX, ↓reduceIte, Nat.reduceEqDiff, Int.reduceToNat]
      first | refine Lt_loadAll Try.underlying24 rfl sz24 hbA bdA ?_ | refine Lt_loadAtA Try.underlying24 rfl sz24 hbA bdA ?_
      try simp only [List.extract_toArray, List.extract_eq_take_drop, Nat.zero_add, Nat.reduceAdd, Nat.reduceSub, Nat.sub_zero, List.drop_succ_cons, List.drop_zero, List.take_succ_cons, List.take_zero, List.take_nil, List.drop_nil]
      try simp only [eX, ↓reduceIte, Nat.reduceEqDiff, Int.reduceToNat]
      refine hK _ _ ?_; clear hK K
      refine OW_opS (fun K hK r => ?_)
      simp only [x_callF _ bd11, List.map_toArray, List.map_cons, List.map_nil, eX, ↓reduceIte, Nat.reduceEqDiff, Int.reduceToNat]
      refine (rGood_ok _ m ma mc (hm.le lhA) hml).mono ?_
      rintro v H' ⟨rfl, hq⟩
      have hq := hq.symm
      subst hq
      try simp only [eX, ↓reduceIte, Nat.reduceEqDiff, Int.reduceToNat]
      refine hK _ _ ?_; clear hK K
      refine OW_as rfl ?_
      refine OW_nil ?_
      try simp only [Ex.thnH, Ex.inBlockH, ↓reduceIte, Nat.reduceEqDiff]
      refine hK9 _ _ ?_; try clear hK9 K9
      refine CW_seq (fun K10 hK10 => ?_)
      refine CW_seq (fun K11 hK11 => ?_)
      refine CW_region ?_
      refine OW_opS (fun K hK r => ?_)
      simp only [x_load, eX, ↓reduceIte, Nat.reduceEqDiff, Int.reduceToNat]
      first | refine Lt_loadAll Try.underlying27 rfl sz27 hbA bdA ?_ | refine Lt_loadAtA Try.underlying27 rfl sz27 hbA bdA ?_
      try simp only [List.extract_toArray, List.extract_eq_take_drop, Nat.zero_add, Nat.reduceAdd, Nat.reduceSub, Nat.sub_zero, List.drop_succ_cons, List.drop_zero, List.take_succ_cons, List.take_zero, List.take_nil, List.drop_nil]
      try simp only [eX, ↓reduceIte, Nat.reduceEqDiff, Int.reduceToNat]
      refine hK _ _ ?_; clear hK K
      refine OW_opS (fun K hK r => ?_)
      simp only [x_callF _ bd12, List.map_toArray, List.map_cons, List.map_nil, eX, ↓reduceIte, Nat.reduceEqDiff, Int.reduceToNat]
      refine (good_ok _ m xa xc (ho17.make hb4).holds hml).mono ?_
      rintro v H' ⟨rfl, hq⟩
      have hq := hq.symm
      subst hq
      try simp only [eX, ↓reduceIte, Nat.reduceEqDiff, Int.reduceToNat]
      refine hK _ _ ?_; clear hK K
      refine OW_mv rfl ?_
      refine OW_opS (fun K hK r => ?_)
      simp only [x_bin, g_int, g_bool, g_string, g_pointer, g_slice, g_map, g_func, g_nilFunc, g_iface, g_nil_iface, g_nil_r, g_nil_l, eX, ↓reduceIte, Nat.reduceEqDiff, Int.reduceToNat]
      rw [e_neq _ _ _ _ (by simp)]
      rw [q_equal, q_bool _ _ Try.underlying4]
      try simp only [eX, ↓reduceIte, Nat.reduceEqDiff, Int.reduceToNat]
      refine hK _ _ ?_; clear hK K
      refine OW_mv rfl ?_
      (first | refine OW_split (d := 26) rfl (fun g26 => ?_) (fun g26 => ?_) | skip)
      all_goals try (exfalso; exact cnA g26)
      all_goals (try simp only [decide_eq_true_eq, decide_eq_false_iff_not, Bool.not_eq_true, Bool.not_eq_false, Bool.and_eq_true, Bool.or_eq_true, Bool.or_eq_false_iff, Bool.not_eq_true, Bool.not_eq_eq_eq_not, Bool.not_true, Bool.not_false] at g26)
      all_goals
        try simp only [eX, ↓reduceIte, Nat.reduceEqDiff, Int.reduceToNat]
        first
        | refine OW_guardT rfl (lt_some (by decide)) rfl (fun K hK r => ?_)
          simp only [x_load, eX, ↓reduceIte, Nat.reduceEqDiff, Int.reduceToNat]
          first | refine Lt_loadAll Try.underlying27 rfl sz27 hbA bdA ?_ | refine Lt_loadAtA Try.underlying27 rfl sz27 hbA bdA ?_
          try simp only [List.extract_toArray, List.extract_eq_take_drop, Nat.zero_add, Nat.reduceAdd, Nat.reduceSub, Nat.sub_zero, List.drop_succ_cons, List.drop_zero, List.take_succ_cons, List.take_zero, List.take_nil, List.drop_nil]
          try simp only [eX, ↓reduceIte, Nat.reduceEqDiff, Int.reduceToNat]
          refine hK _ _ ?_; clear hK K
        | refine OW_guardF rfl (lt_some (by decide)) rfl ?_
          simp only [eX, ↓reduceIte, Nat.reduceEqDiff, Int.reduceToNat]
        first
        | refine OW_guardT rfl (lt_some (by decide)) rfl (fun K hK r => ?_)
          simp only [x_load, eX, ↓reduceIte, Nat.reduceEqDiff, Int.reduceToNat]
          first | refine Lt_loadAll Try.underlying24 rfl sz24 hbA bdA ?_ | refine Lt_loadAtA Try.underlying24 rfl sz24 hbA bdA ?_
          try simp only [List.extract_toArray, List.extract_eq_take_drop, Nat.zero_add, Nat.reduceAdd, Nat.reduceSub, Nat.sub_zero, List.drop_succ_cons, List.drop_zero, List.take_succ_cons, List.take_zero, List.take_nil, List.drop_nil]
          try simp only [eX, ↓reduceIte, Nat.reduceEqDiff, Int.reduceToNat]
          refine hK _ _ ?_; clear hK K
        | refine OW_guardF rfl (lt_some (by decide)) rfl ?_
          simp only [eX, ↓reduceIte, Nat.reduceEqDiff, Int.reduceToNat]
        first
        | refine OW_guardT rfl (lt_some (by decide)) rfl (fun K hK r => ?_)
          simp only [x_callF _ bd13, List.map_toArray, List.map_cons, List.map_nil, eX, ↓reduceIte, Nat.reduceEqDiff, Int.reduceToNat]
          refine (same_ok _ m xa xc (ho17.make hb4).holds m ma mc (hm.le lhA) hml).mono ?_
          rintro v H' ⟨rfl, hq⟩
          have hq := hq.symm
          subst hq
          try simp only [eX, ↓reduceIte, Nat.reduceEqDiff, Int.reduceToNat]
          refine hK _ _ ?_; clear hK K
        | refine OW_guardF rfl (lt_some (by decide)) rfl ?_
          simp only [eX, ↓reduceIte, Nat.reduceEqDiff, Int.reduceToNat]
        first
        | refine OW_guardT rfl (lt_some (by decide)) rfl (fun K hK r => ?_)
          simp only [x_un, u_not, eX, ↓reduceIte, Nat.reduceEqDiff, Int.reduceToNat]
          refine hK _ _ ?_; clear hK K
        | refine OW_guardF rfl (lt_some (by decide)) rfl ?_
          simp only [eX, ↓reduceIte, Nat.reduceEqDiff, Int.reduceToNat]
        refine OW_opS (fun K hK r => ?_)
        simp only [x_pick, l_asBool, HL.ite_bool, if_true, if_false, Bool.false_eq_true, eX, ↓reduceIte, Nat.reduceEqDiff, Int.reduceToNat]
        refine hK _ _ ?_; clear hK K
        refine OW_nil ?_
        try simp only [Ex.thnH, Ex.inBlockH, ↓reduceIte, Nat.reduceEqDiff]
        refine hK11 _ _ ?_; try clear hK11 K11
        refine CW_cond (fun r => rfl) (fun c31 => ?_) (fun c31 => ?_)
        · exfalso; first | (exact cnA c31; done) | (simp at c31; done)
        refine CW_skip ?_
        try simp only [Ex.thnH, Ex.inBlockH, ↓reduceIte, Nat.reduceEqDiff]
        refine hK10 _ _ ?_; try clear hK10 K10
        refine CW_seq (fun K12 hK12 => ?_)
        refine CW_seq (fun K13 hK13 => ?_)
        refine CW_region ?_
        refine OW_mv rfl ?_
        refine OW_opS (fun K hK r => ?_)
        simp only [x_un, u_not, eX, ↓reduceIte, Nat.reduceEqDiff, Int.reduceToNat]
        refine hK _ _ ?_; clear hK K
        refine OW_nil ?_
        try simp only [Ex.thnH, Ex.inBlockH, ↓reduceIte, Nat.reduceEqDiff]
        refine hK13 _ _ ?_; try clear hK13 K13
        refine CW_cond (fun r => rfl) (fun c33 => ?_) (fun c33 => ?_)
        · first
          | (exfalso; exact cnA c33; done)
          | skip
            have hng : m.good = false := by simpa using c33
            have e1 : m.bad = some 2 := by unfold Mf.bad; rw [if_neg (by rw [hng]; simp)]
            have e2 : m.sealB = zeroS := by unfold Mf.sealB; rw [if_neg (by rw [hng]; simp)]
            have hz64 : zeroS.length = 64 := rfl
            rw [e1, e2]
            refine CW_seq (fun K14 hK14 => ?_)
            refine CW_region ?_
            refine OW_mv rfl ?_
            refine OW_opS (fun K hK r => ?_)
            simp only [x_callF _ bd14, List.map_toArray, List.map_cons, List.map_nil, eX, ↓reduceIte, Nat.reduceEqDiff, Int.reduceToNat]
            refine (num_Is _ (some 2) (fun k hk => by cases hk; decide) 2 (by omega) (by omega)).mono ?_
            rintro v H' ⟨rfl, hq⟩
            have hq := hq.symm
            subst hq
            try simp only [eX, ↓reduceIte, Nat.reduceEqDiff, Int.reduceToNat]
            refine hK _ _ ?_; clear hK K
            refine OW_mv rfl ?_
            (first | refine OW_split (d := 36) rfl (fun g36 => ?_) (fun g36 => ?_) | skip)
            all_goals try (exfalso; exact cnA g36)
            all_goals (try simp only [decide_eq_true_eq, decide_eq_false_iff_not, Bool.not_eq_true, Bool.not_eq_false, Bool.and_eq_true, Bool.or_eq_true, Bool.or_eq_false_iff, Bool.not_eq_true, Bool.not_eq_eq_eq_not, Bool.not_true, Bool.not_false] at g36)
            all_goals
              try simp only [eX, ↓reduceIte, Nat.reduceEqDiff, Int.reduceToNat]
              first
              | refine OW_guardT rfl (lt_some (by decide)) rfl (fun K hK r => ?_)
                simp only [x_load, eX, ↓reduceIte, Nat.reduceEqDiff, Int.reduceToNat]
                first | refine Lt_loadAll Try.underlying30 rfl sz30 hbA bdA ?_ | refine Lt_loadAtA Try.underlying30 rfl sz30 hbA bdA ?_
                try simp only [eX, ↓reduceIte, Nat.reduceEqDiff, Int.reduceToNat]
                refine hK _ _ ?_; clear hK K
              | refine OW_guardF rfl (lt_some (by decide)) rfl ?_
                simp only [eX, ↓reduceIte, Nat.reduceEqDiff, Int.reduceToNat]
              first
              | refine OW_guardT rfl (lt_some (by decide)) rfl (fun K hK r => ?_)
                simp only [x_build, List.map_toArray, List.map_cons, List.map_nil, eX, ↓reduceIte, Nat.reduceEqDiff, Int.reduceToNat]
                rw [l_buildArr Try.underlying30 sz5 zr30]
                simp only [Value.cells]
                simp only [fill_nil, orF_some, List.setIfInBounds_toArray, List.set_cons_zero, List.set_cons_succ]
                rw [← zero_cells]
                try simp only [eX, ↓reduceIte, Nat.reduceEqDiff, Int.reduceToNat]
                refine hK _ _ ?_; clear hK K
              | refine OW_guardF rfl (lt_some (by decide)) rfl ?_
                simp only [eX, ↓reduceIte, Nat.reduceEqDiff, Int.reduceToNat]
              first
              | refine OW_guardT rfl (lt_some (by decide)) rfl (fun K hK r => ?_)
                simp only [x_bin, g_agg _ _ _ _ _ _ eqg30, eX, ↓reduceIte, Nat.reduceEqDiff, Int.reduceToNat]
                rw [e_eql _ _ _ _ (by simp)]
                rw [q_equal, q_array 9999 30 5 64 Try.underlying30 _ Try.underlying5 sz5 (fun x y K => q_int 9998 5 _ Try.underlying5 _ x y K) _ _ bdA bdA]
                try simp only [eX, ↓reduceIte, Nat.reduceEqDiff, Int.reduceToNat]
                refine hK _ _ ?_; clear hK K
              | refine OW_guardF rfl (lt_some (by decide)) rfl ?_
                simp only [eX, ↓reduceIte, Nat.reduceEqDiff, Int.reduceToNat]
              refine OW_opS (fun K hK r => ?_)
              simp only [x_pick, l_asBool, HL.ite_bool, if_true, if_false, Bool.false_eq_true, eX, ↓reduceIte, Nat.reduceEqDiff, Int.reduceToNat]
              refine hK _ _ ?_; clear hK K
              refine OW_as rfl ?_
              refine OW_nil ?_
              try simp only [Ex.thnH, Ex.inBlockH, ↓reduceIte, Nat.reduceEqDiff]
              refine hK14 _ _ ?_; try clear hK14 K14
              refine CW_ret ?_
              try simp only [Ex.thnH, Ex.inBlockH, ↓reduceIte, Nat.reduceEqDiff]
              exact ⟨[_], ⟨rfl, trivial⟩, H, lhA, rfl, Le.refl _⟩
        · first
          | (exfalso; exact cnA c33; done)
          | skip
            skip
            refine CW_skip ?_
            try simp only [Ex.thnH, Ex.inBlockH, ↓reduceIte, Nat.reduceEqDiff]
            refine hK12 _ _ ?_; try clear hK12 K12
            refine CW_seq (fun K15 hK15 => ?_)
            refine CW_region ?_
            refine OW_opS (fun K hK r => ?_)
            simp only [x_load, eX, ↓reduceIte, Nat.reduceEqDiff, Int.reduceToNat]
            first | refine Lt_loadAll Try.underlying30 rfl sz30 hbA bdA ?_ | refine Lt_loadAtA Try.underlying30 rfl sz30 hbA bdA ?_
            try simp only [eX, ↓reduceIte, Nat.reduceEqDiff, Int.reduceToNat]
            refine hK _ _ ?_; clear hK K
            refine OW_opS (fun K hK r => ?_)
            simp only [x_callF _ bd15, List.map_toArray, List.map_cons, List.map_nil, eX, ↓reduceIte, Nat.reduceEqDiff, Int.reduceToNat]
            refine (mOpen_ok _ m.sealB hsl hsb).mono ?_
            rintro v43 H43 ⟨l43, x43, rs43, rfl, ho43, hr43⟩
            have hgd : m.good = true := by simpa using c33
            have hok := Mf.good_iff.1 hgd
            have hgn := hok.n
            obtain ⟨e1, e2⟩ := opM_yes (opM_seal hok)
            rw [e1] at ho43 ⊢
            rw [e2]
            obtain ⟨ya, yc, rfl⟩ := ho43.holds.form
            have ho43p := (ho17.make hb4).le l43
            have k43_3 := l43 b3 _ hbA
            have k43_1 := l43 b1 _ hbA
            have k43_4 := l43 b4 _ (upd_same _ _ _)
            have lH43 : Le H H43 := Le.trans lH17 (Le.trans (le_upd _ _ _ hb4) l43)
            have hbd : m.bad = none := by unfold Mf.bad; rw [if_pos hgd]
            try rw [hbd]
            obtain ⟨r43, c43, hya, k43_r, hrs43⟩ : ∃ r c, ya = some ⟨r, 0, none⟩ ∧ H43 r = some (.cells c 3) ∧ rs43 = some r := by
              rcases ho43.2 with ⟨_, h0, _⟩ | ⟨r, cap, c, hv, hb, _, _, _, hr⟩
              · omega
              · injection hv with h1 _ _; exact ⟨r, c, h1, hb, hr⟩
            subst hya
            have fr17 : H17.upd b4 (.cells (u8s m.sealB).toArray 30) r43 = none := hr43 _ hrs43
            have nr4 : b4 ≠ r43 := fun e => by rw [← e, upd_same] at fr17; cases fr17
            have fr17' : H17 r43 = none := (upd_ne _ _ nr4.symm).symm.trans fr17
            have nr3 : b3 ≠ r43 := fun e => by rw [← e, k17_3] at fr17'; cases fr17'
            have nr1 : b1 ≠ r43 := fun e => by rw [← e, k17_1] at fr17'; cases fr17'
            have fr_H : H r43 = none := none_of_le lH17 fr17'
            have n1443 : rs14 ≠ some r43 := fun e => ho17.known _ e fr17'
            have e43 : c43[0]? = some (.int .i64 (m.hd.getD 0 0)) := by
              obtain ⟨bw, ow, cw, Tw, Fw, he, hbw, _, atw⟩ := (ho43.holds).at (by omega)
              injection he with he
              injection he with h1 h2 _
              subst h1 h2
              rw [k43_r] at hbw
              injection hbw with hbw
              injection hbw with hbw _ _
              subst hbw
              exact ints_at atw rfl 0 (by omega)
            have hz43 : 0 < c43.size := (Array.getElem?_eq_some_iff.1 e43).1
            try simp only [eX, ↓reduceIte, Nat.reduceEqDiff, Int.reduceToNat]
            refine hK _ _ ?_; clear hK K
            refine OW_mv rfl ?_
            refine OW_opS (fun K hK r => ?_)
            simp only [x_extract, i_extract, List.getElem?_toArray, List.getElem?_cons_zero, List.getElem?_cons_succ, orF_some, eX, ↓reduceIte, Nat.reduceEqDiff, Int.reduceToNat]
            refine hK _ _ ?_; clear hK K
            refine OW_opS (fun K hK r => ?_)
            simp only [x_extract, i_extract, List.getElem?_toArray, List.getElem?_cons_zero, List.getElem?_cons_succ, orF_some, eX, ↓reduceIte, Nat.reduceEqDiff, Int.reduceToNat]
            refine hK _ _ ?_; clear hK K
            refine OW_opS (fun K hK r => ?_)
            simp only [x_alloc, zr27, orF_some, Value.cells, eX, ↓reduceIte, Nat.reduceEqDiff, Int.reduceToNat]
            intro b7 hb7
            try have n7_b1 : b1 ≠ b7 := ne_of_none hbA hb7
            try have n7_b3 : b3 ≠ b7 := ne_of_none hbA hb7
            try have n7_b4 : b4 ≠ b7 := ne_of_none hbA hb7
            have f7_H : H b7 = none := none_of_le lhA hb7
            have nr7 : b7 ≠ r43 := fun e => by rw [e, k43_r] at hb7; cases hb7
            try simp only [eX, ↓reduceIte, Nat.reduceEqDiff, Int.reduceToNat]
            refine hK _ _ ?_; clear hK K
            refine OW_op rfl (lt_none) (fun K hK r => ?_)
            simp only [x_store, eX, ↓reduceIte, Nat.reduceEqDiff, Int.reduceToNat]
            first | refine Lt_storeAll sz27 bdA hbA bdA plA (by decide) ?_ | refine Lt_storeAtA sz27 bdA hbA bdA plA (by decide) ?_
            try simp only [eX, ↓reduceIte, Nat.reduceEqDiff, Int.reduceToNat]
            refine hK _ _ ?_; clear hK K
            refine OW_as rfl ?_
            refine OW_nil ?_
            try simp only [Ex.thnH, Ex.inBlockH, ↓reduceIte, Nat.reduceEqDiff]
            refine hK15 _ _ ?_; try clear hK15 K15
            refine CW_seq (fun K16 hK16 => ?_)
            refine CW_seq (fun K17 hK17 => ?_)
            obtain ⟨R13, hR13⟩ : ∃ R : Hp, R = ((emptyHp.upd b1 (.cells #[.int .i64 m.gen, .int .i64 m.ep, .int .i64 m.ba, .int .i64 m.ar, .int .i64 m.ln, .slice ma m.hd.length mc] 24)).upd b4 (.cells (u8s m.sealB).toArray 30)).upd b7 (.cells #[.int .i64 m.gen, .int .i64 m.ep, .int .i64 m.ba, .int .i64 m.ar, .int .i64 m.ln, .slice (some ⟨r43, 0, none⟩) m.hd.length yc] 27) := ⟨_, rfl⟩
            refine CW_drawR [0, 0, 0, 0, 0, 0, 0, 1, 1, 6, 0, 0, 0, 1, 1, 2, 0, 0] [0, 1, 2, 3, 4, 5, 6, 7, 8, 9, 10, 11, 12, 13, 14, 15, 16, 17] R13 (by kernel_rfl) (by kernel_rfl) (by subst hR13; exact le_put (le_put (le_put (le_empty _) hbA) hbA) hbA) (fun lR13 => ?_)
            apply TW_pure rfl (lt_some (by decide)) rfl
            · intro r
              simp only [x_move, eX, ↓reduceIte, Nat.reduceEqDiff]
              exact ⟨rfl, Le.refl _⟩
            simp only [eX, ↓reduceIte, Nat.reduceEqDiff, Int.reduceToNat]
            apply TW_pure rfl (lt_some (by decide)) rfl
            · intro r
              simp only [x_bin, g_int, g_bool, g_string, g_pointer, g_slice, g_map, g_func, g_nilFunc, g_err, g_iface, g_nil_iface, g_nil_r, g_nil_l, eX, ↓reduceIte, Nat.reduceEqDiff]
              first | rw [b_err_neq _ _ Try.underlying32] | (rw [e_neq _ _ _ _ (by simp), q_equal]; first | rw [q_iface_nil _ _ _ Try.underlying32] | rw [q_nil_iface _ _ _ Try.underlying32] | rw [q_nil_nil _ _ _ Try.underlying32])
              exact ⟨rfl, Le.refl _⟩
            simp only [eX, ↓reduceIte, Nat.reduceEqDiff, Int.reduceToNat]
            apply TW_pure rfl (lt_some (by decide)) rfl
            · intro r
              simp only [x_move, eX, ↓reduceIte, Nat.reduceEqDiff]
              exact ⟨rfl, Le.refl _⟩
            simp only [eX, ↓reduceIte, Nat.reduceEqDiff, Int.reduceToNat]
            (first | refine TW_split (d := 48) rfl (fun g48 => ?_) (fun g48 => ?_) | skip)
            all_goals try (exfalso; exact cnA g48)
            all_goals (try simp only [decide_eq_true_eq, decide_eq_false_iff_not, Bool.not_eq_true, Bool.not_eq_false, Bool.and_eq_true, Bool.or_eq_true, Bool.or_eq_false_iff, Bool.not_eq_true, Bool.not_eq_eq_eq_not, Bool.not_true, Bool.not_false] at g48)
            all_goals
              try simp only [eX, ↓reduceIte, Nat.reduceEqDiff, Int.reduceToNat]
              first
              | apply TW_pureG rfl (lt_some (by decide)) rfl rfl
                · intro r
                  simp only [x_move, eX, ↓reduceIte, Nat.reduceEqDiff]
                  exact ⟨rfl, Le.refl _⟩
                simp only [eX, ↓reduceIte, Nat.reduceEqDiff, Int.reduceToNat]
              | refine TW_guardF rfl (lt_some (by decide)) rfl ?_
                simp only [eX, ↓reduceIte, Nat.reduceEqDiff, Int.reduceToNat]
              first
              | apply TW_pureG rfl (lt_some (by decide)) rfl rfl
                · intro r
                  simp only [x_bin, g_int, g_bool, g_string, g_pointer, g_slice, g_map, g_func, g_nilFunc, g_err, g_iface, g_nil_iface, g_nil_r, g_nil_l, eX, ↓reduceIte, Nat.reduceEqDiff]
                  first | rw [b_err_neq _ _ Try.underlying32] | (rw [e_neq _ _ _ _ (by simp), q_equal]; first | rw [q_iface_nil _ _ _ Try.underlying32] | rw [q_nil_iface _ _ _ Try.underlying32] | rw [q_nil_nil _ _ _ Try.underlying32])
                  exact ⟨rfl, Le.refl _⟩
                simp only [eX, ↓reduceIte, Nat.reduceEqDiff, Int.reduceToNat]
              | refine TW_guardF rfl (lt_some (by decide)) rfl ?_
                simp only [eX, ↓reduceIte, Nat.reduceEqDiff, Int.reduceToNat]
              apply TW_pure rfl (lt_some (by decide)) rfl
              · intro r
                simp only [x_pick, l_asBool, HL.ite_bool, if_true, if_false, Bool.false_eq_true, eX, ↓reduceIte, Nat.reduceEqDiff]
                exact ⟨rfl, Le.refl _⟩
              simp only [eX, ↓reduceIte, Nat.reduceEqDiff, Int.reduceToNat]
              apply TW_pure rfl (lt_some (by decide)) rfl
              · intro r
                simp only [x_move, eX, ↓reduceIte, Nat.reduceEqDiff]
                exact ⟨rfl, Le.refl _⟩
              simp only [eX, ↓reduceIte, Nat.reduceEqDiff, Int.reduceToNat]
              (first | refine TW_split (d := 52) rfl (fun g52 => ?_) (fun g52 => ?_) | skip)
              all_goals try (exfalso; exact cnA g52)
              all_goals (try simp only [decide_eq_true_eq, decide_eq_false_iff_not, Bool.not_eq_true, Bool.not_eq_false, Bool.and_eq_true, Bool.or_eq_true, Bool.or_eq_false_iff, Bool.not_eq_true, Bool.not_eq_eq_eq_not, Bool.not_true, Bool.not_false] at g52)
              all_goals
                try simp only [eX, ↓reduceIte, Nat.reduceEqDiff, Int.reduceToNat]
                first
                | apply TW_lookG rfl (lt_some (by decide)) rfl rfl
                  · intro r
                    simp only [x_load, eX, ↓reduceIte, Nat.reduceEqDiff]
                    first | refine Lt_loadAll Try.underlying30 rfl sz30 hbA bdA ?_ | refine Lt_loadAtA Try.underlying30 rfl sz30 hbA bdA ?_
                    exact ⟨rfl, Le.refl _⟩
                  simp only [eX, ↓reduceIte, Nat.reduceEqDiff, Int.reduceToNat]
                | refine TW_guardF rfl (lt_some (by decide)) rfl ?_
                  simp only [eX, ↓reduceIte, Nat.reduceEqDiff, Int.reduceToNat]
                first
                | apply TW_lookG rfl (lt_some (by decide)) rfl rfl
                  · intro r
                    simp only [x_load, eX, ↓reduceIte, Nat.reduceEqDiff]
                    first | refine Lt_loadAll Try.underlying24 rfl sz24 hbA bdA ?_ | refine Lt_loadAtA Try.underlying24 rfl sz24 hbA bdA ?_
                    try simp only [List.extract_toArray, List.extract_eq_take_drop, Nat.zero_add, Nat.reduceAdd, Nat.reduceSub, Nat.sub_zero, List.drop_succ_cons, List.drop_zero, List.take_succ_cons, List.take_zero, List.take_nil, List.drop_nil]
                    exact ⟨rfl, Le.refl _⟩
                  simp only [eX, ↓reduceIte, Nat.reduceEqDiff, Int.reduceToNat]
                | refine TW_guardF rfl (lt_some (by decide)) rfl ?_
                  simp only [eX, ↓reduceIte, Nat.reduceEqDiff, Int.reduceToNat]
                first
                | refine TW_growG rfl (lt_some (by decide)) rfl rfl (fun K hK r => ?_)
                  simp only [x_callF _ bd16, List.map_toArray, List.map_cons, List.map_nil, eX, ↓reduceIte, Nat.reduceEqDiff, Int.reduceToNat]
                  refine (rMSeal_ok _ m ma mc (hm.le lhA) hml hgd).mono ?_
                  rintro v55 H55 ⟨rfl, l55⟩
                  have lR55 : Le R13 H55 := Le.trans lR13 l55
                  have k55_7 := l55 b7 _ (upd_same _ _ _)
                  have k55_r := l55 r43 _ ((upd_ne _ _ nr7.symm).trans k43_r)
                  have k55_3 := l55 b3 _ ((upd_ne _ _ (ne_of_none k43_3 hb7)).trans k43_3)
                  have k55_1 := l55 b1 _ ((upd_ne _ _ (ne_of_none k43_1 hb7)).trans k43_1)
                  have lH55 : Le H H55 := Le.trans lH43 (Le.trans (le_upd _ _ _ hb7) l55)
                  try simp only [eX, ↓reduceIte, Nat.reduceEqDiff, Int.reduceToNat]
                  refine hK _ _ leA (fun R55_ hR55_ => ?_); clear hK K
                | refine TW_guardF rfl (lt_some (by decide)) rfl ?_
                  simp only [eX, ↓reduceIte, Nat.reduceEqDiff, Int.reduceToNat]
                first
                | apply TW_pureG rfl (lt_some (by decide)) rfl rfl
                  · intro r
                    simp only [x_bin, g_agg _ _ _ _ _ _ eqg30, eX, ↓reduceIte, Nat.reduceEqDiff]
                    rw [e_neq _ _ _ _ (by simp)]
                    rw [q_equal, q_array 9999 30 5 64 Try.underlying30 _ Try.underlying5 sz5 (fun x y K => q_int 9998 5 _ Try.underlying5 _ x y K) _ _ bdA bdA]
                    exact ⟨rfl, Le.refl _⟩
                  simp only [eX, ↓reduceIte, Nat.reduceEqDiff, Int.reduceToNat]
                | refine TW_guardF rfl (lt_some (by decide)) rfl ?_
                  simp only [eX, ↓reduceIte, Nat.reduceEqDiff, Int.reduceToNat]
                apply TW_pure rfl (lt_some (by decide)) rfl
                · intro r
                  simp only [x_pick, l_asBool, HL.ite_bool, if_true, if_false, Bool.false_eq_true, eX, ↓reduceIte, Nat.reduceEqDiff]
                  exact ⟨rfl, Le.refl _⟩
                simp only [eX, ↓reduceIte, Nat.reduceEqDiff, Int.reduceToNat]
                apply TW_pure rfl (lt_some (by decide)) rfl
                · intro r
                  simp only [x_move, eX, ↓reduceIte, Nat.reduceEqDiff]
                  exact ⟨rfl, Le.refl _⟩
                simp only [eX, ↓reduceIte, Nat.reduceEqDiff, Int.reduceToNat]
                (first | refine TW_split (d := 58) rfl (fun g58 => ?_) (fun g58 => ?_) | skip)
                all_goals try (exfalso; exact cnA g58)
                all_goals (try simp only [decide_eq_true_eq, decide_eq_false_iff_not, Bool.not_eq_true, Bool.not_eq_false, Bool.and_eq_true, Bool.or_eq_true, Bool.or_eq_false_iff, Bool.not_eq_true, Bool.not_eq_eq_eq_not, Bool.not_true, Bool.not_false] at g58)
                all_goals
                  try simp only [eX, ↓reduceIte, Nat.reduceEqDiff, Int.reduceToNat]
                  first
                  | apply TW_lookG rfl (lt_some (by decide)) rfl rfl
                    · intro r
                      simp only [x_load, eX, ↓reduceIte, Nat.reduceEqDiff]
                      first | refine Lt_loadAll Try.underlying27 rfl sz27 hbA bdA ?_ | refine Lt_loadAtA Try.underlying27 rfl sz27 hbA bdA ?_
                      try simp only [List.extract_toArray, List.extract_eq_take_drop, Nat.zero_add, Nat.reduceAdd, Nat.reduceSub, Nat.sub_zero, List.drop_succ_cons, List.drop_zero, List.take_succ_cons, List.take_zero, List.take_nil, List.drop_nil]
                      exact ⟨rfl, Le.refl _⟩
                    simp only [eX, ↓reduceIte, Nat.reduceEqDiff, Int.reduceToNat]
                  | refine TW_guardF rfl (lt_some (by decide)) rfl ?_
                    simp only [eX, ↓reduceIte, Nat.reduceEqDiff, Int.reduceToNat]
                  first
                  | apply TW_lookG rfl (lt_some (by decide)) rfl rfl
                    · intro r
                      simp only [x_load, eX, ↓reduceIte, Nat.reduceEqDiff]
                      first | refine Lt_loadAll Try.underlying24 rfl sz24 hbA bdA ?_ | refine Lt_loadAtA Try.underlying24 rfl sz24 hbA bdA ?_
                      try simp only [List.extract_toArray, List.extract_eq_take_drop, Nat.zero_add, Nat.reduceAdd, Nat.reduceSub, Nat.sub_zero, List.drop_succ_cons, List.drop_zero, List.take_succ_cons, List.take_zero, List.take_nil, List.drop_nil]
                      exact ⟨rfl, Le.refl _⟩
                    simp only [eX, ↓reduceIte, Nat.reduceEqDiff, Int.reduceToNat]
                  | refine TW_guardF rfl (lt_some (by decide)) rfl ?_
                    simp only [eX, ↓reduceIte, Nat.reduceEqDiff, Int.reduceToNat]
                  first
                  | refine TW_chainG rfl (lt_some (by decide)) rfl rfl (fun K hK r => ?_)
                    simp only [x_callF _ bd13, List.map_toArray, List.map_cons, List.map_nil, eX, ↓reduceIte, Nat.reduceEqDiff, Int.reduceToNat]
                    refine (same_ok _ m _ yc ((ho43.make hb7).le l55).holds m ma mc (hm.le lhA) hml).mono ?_
                    rintro v H' ⟨rfl, hq⟩
                    have hq := hq.symm
                    subst hq
                    try simp only [eX, ↓reduceIte, Nat.reduceEqDiff, Int.reduceToNat]
                    refine hK _ _ leA ?_; clear hK K
                  | refine TW_guardF rfl (lt_some (by decide)) rfl ?_
                    simp only [eX, ↓reduceIte, Nat.reduceEqDiff, Int.reduceToNat]
                  first
                  | apply TW_pureG rfl (lt_some (by decide)) rfl rfl
                    · intro r
                      simp only [x_un, u_not, eX, ↓reduceIte, Nat.reduceEqDiff]
                      exact ⟨rfl, Le.refl _⟩
                    simp only [eX, ↓reduceIte, Nat.reduceEqDiff, Int.reduceToNat]
                  | refine TW_guardF rfl (lt_some (by decide)) rfl ?_
                    simp only [eX, ↓reduceIte, Nat.reduceEqDiff, Int.reduceToNat]
                  apply TW_pure rfl (lt_some (by decide)) rfl
                  · intro r
                    simp only [x_pick, l_asBool, HL.ite_bool, if_true, if_false, Bool.false_eq_true, eX, ↓reduceIte, Nat.reduceEqDiff]
                    exact ⟨rfl, Le.refl _⟩
                  simp only [eX, ↓reduceIte, Nat.reduceEqDiff, Int.reduceToNat]
                  refine TW_nil ?_
                  try simp only [Ex.thnH, Ex.inBlockH, ↓reduceIte, Nat.reduceEqDiff]
                  refine hK17 _ _ ?_; try clear hK17 K17
                  refine CW_cond (fun r => rfl) (fun c63 => ?_) (fun c63 => ?_)
                  · exfalso; first | (exact cnA c63; done) | (simp at c63; done)
                  refine CW_skip ?_
                  try simp only [Ex.thnH, Ex.inBlockH, ↓reduceIte, Nat.reduceEqDiff]
                  refine hK16 _ _ ?_; try clear hK16 K16
                  refine CW_seq (fun K18 hK18 => ?_)
                  refine CW_region ?_
                  refine OW_opS (fun K hK r => ?_)
                  simp only [x_fieldAddr, fa27_5, add_mk, Nat.reduceAdd, Nat.zero_add, eX, ↓reduceIte, Nat.reduceEqDiff, Int.reduceToNat]
                  refine hK _ _ ?_; clear hK K
                  refine OW_opS (fun K hK r => ?_)
                  simp only [x_load, eX, ↓reduceIte, Nat.reduceEqDiff, Int.reduceToNat]
                  refine Lt_loadAt1 Try.underlying22 rfl hbA ldA ?_
                  try simp only [eX, ↓reduceIte, Nat.reduceEqDiff, Int.reduceToNat]
                  refine hK _ _ ?_; clear hK K
                  refine OW_opS (fun K hK r => ?_)
                  simp only [x_indexAddr, eX, ↓reduceIte, Nat.reduceEqDiff, Int.reduceToNat]
                  refine Lt_indexS Try.underlying22 sz3 ixA ixA ?_
                  try simp only [add_mk, Nat.mul_one, Nat.zero_add, Int.reduceToNat]
                  try simp only [eX, ↓reduceIte, Nat.reduceEqDiff, Int.reduceToNat]
                  refine hK _ _ ?_; clear hK K
                  refine OW_opS (fun K hK r => ?_)
                  simp only [x_load, eX, ↓reduceIte, Nat.reduceEqDiff, Int.reduceToNat]
                  refine Lt_loadAt1 Try.underlying3 rfl hbA (v := .int .i64 (m.hd.getD 0 0)) (by simpa using e43) ?_
                  refine hK _ _ ?_; clear hK K
                  refine OW_opS (fun K hK r => ?_)
                  simp (disch := (first | omega | decide)) only [x_bin, g_int, b_add, wrap_i64, wrap_u64, wrap_u32, wrap_u8, eX, ↓reduceIte, Nat.reduceEqDiff, Int.reduceToNat]
                  refine hK _ _ ?_; clear hK K
                  refine OW_opS (fun K hK r => ?_)
                  simp only [x_indexAddr, eX, ↓reduceIte, Nat.reduceEqDiff, Int.reduceToNat]
                  refine Lt_indexS Try.underlying22 sz3 ixA ixA ?_
                  try simp only [add_mk, Nat.mul_one, Nat.zero_add, Int.reduceToNat]
                  try simp only [eX, ↓reduceIte, Nat.reduceEqDiff, Int.reduceToNat]
                  refine hK _ _ ?_; clear hK K
                  refine OW_op rfl (lt_none) (fun K hK r => ?_)
                  simp only [x_store, eX, ↓reduceIte, Nat.reduceEqDiff, Int.reduceToNat]
                  refine Lt_storeAt1 sz3 hbA bdA plA fzA ?_
                  try simp only [setL0, setL1, setL2, setL3, setL4, setL5, setL6, setL7, setL8, setL9]
                  try simp only [eX, ↓reduceIte, Nat.reduceEqDiff, Int.reduceToNat]
                  refine hK _ _ ?_; clear hK K
                  refine OW_nil ?_
                  try simp only [Ex.thnH, Ex.inBlockH, ↓reduceIte, Nat.reduceEqDiff]
                  refine hK18 _ _ ?_; try clear hK18 K18
                  refine CW_seq (fun K19 hK19 => ?_)
                  refine CW_region ?_
                  refine OW_opS (fun K hK r => ?_)
                  simp only [x_load, eX, ↓reduceIte, Nat.reduceEqDiff, Int.reduceToNat]
                  first | refine Lt_loadAll Try.underlying27 rfl sz27 hbA bdA ?_ | refine Lt_loadAtA Try.underlying27 rfl sz27 hbA bdA ?_
                  try simp only [List.extract_toArray, List.extract_eq_take_drop, Nat.zero_add, Nat.reduceAdd, Nat.reduceSub, Nat.sub_zero, List.drop_succ_cons, List.drop_zero, List.take_succ_cons, List.take_zero, List.take_nil, List.drop_nil]
                  try simp only [eX, ↓reduceIte, Nat.reduceEqDiff, Int.reduceToNat]
                  refine hK _ _ ?_; clear hK K
                  refine OW_opS (fun K hK r => ?_)
                  simp only [x_load, eX, ↓reduceIte, Nat.reduceEqDiff, Int.reduceToNat]
                  first | refine Lt_loadAll Try.underlying24 rfl sz24 hbA bdA ?_ | refine Lt_loadAtA Try.underlying24 rfl sz24 hbA bdA ?_
                  try simp only [List.extract_toArray, List.extract_eq_take_drop, Nat.zero_add, Nat.reduceAdd, Nat.reduceSub, Nat.sub_zero, List.drop_succ_cons, List.drop_zero, List.take_succ_cons, List.take_zero, List.take_nil, List.drop_nil]
                  try simp only [eX, ↓reduceIte, Nat.reduceEqDiff, Int.reduceToNat]
                  refine hK _ _ ?_; clear hK K
                  refine OW_opS (fun K hK r => ?_)
                  simp only [x_callF _ bd13, List.map_toArray, List.map_cons, List.map_nil, eX, ↓reduceIte, Nat.reduceEqDiff, Int.reduceToNat]
                  refine (same_ok _ m xa xc (((ho43p.make hb7).le l55).upd n1443).holds m ma mc (hm.le lhA) hml).mono ?_
                  rintro v H' ⟨rfl, hq⟩
                  have hq := hq.symm
                  subst hq
                  try simp only [eX, ↓reduceIte, Nat.reduceEqDiff, Int.reduceToNat]
                  refine hK _ _ ?_; clear hK K
                  refine OW_as rfl ?_
                  refine OW_nil ?_
                  try simp only [Ex.thnH, Ex.inBlockH, ↓reduceIte, Nat.reduceEqDiff]
                  refine hK19 _ _ ?_; try clear hK19 K19
                  refine CW_ret ?_
                  try simp only [Ex.thnH, Ex.inBlockH, ↓reduceIte, Nat.reduceEqDiff]
                  exact ⟨[_], ⟨rfl, trivial⟩, H, lhA, rfl, Le.refl _⟩

end Go.Proofs.Ytigofhhonnbkmaa.HL
end
