/- Contracts of functions of the program, walked through. -/
import Derived.Test.YtbeepknfcjejkaaT20
import Derived.Test.YtbeepknfcjejkaaMd07
namespace Go.Proofs.Ytbeepknfcjejkaa.HL
open Go Go.Proofs
set_option linter.unusedSimpArgs false
set_option linter.unusedVariables false
attribute [local irreducible] Lt Lq CW OW TW CallH


theorem Lt_len8 {P : Program} {H : Hp} {t : TypeId} (hu : P.underlying t = some .string) {s : ByteArray} (hs : ∀ j : Fin 256, (s[j.val]?).map UInt8.toNat = some (bitLen j.val)) {i : Int} (h0 : 0 ≤ i) (h1 : i < 256) {k : IntKind} {K : Value → Hp → Prop} (h : ∀ n : Int, n = bitLen i.toNat → 0 ≤ n → n ≤ 8 → K (.int .u8 n) H) : Lt P (Instr.index t (.string s) (.int k i)) H K := by
  have hj := hs ⟨i.toNat, by omega⟩
  simp only [Option.map_eq_some_iff] at hj
  obtain ⟨b, hb, hb2⟩ := hj
  have := bitLen_le8 i.toNat (by omega)
  refine Lt_indexStr hu h0 hb (h _ (by rw [hb2]) (by omega) (by omega))

set_option maxRecDepth 100000 in
set_option maxHeartbeats 1000000 in
theorem len64_ok (H : Hp) (x : Int) (h0 : 0 ≤ x) (h1 : x < 18446744073709551616) : CallH Try.prog 47 #[.int .u64 x] H (fun v H' => v = .int .i64 (bitLen x.toNat) ∧ H' = H) := by
  refine CallH_enter (l := [_]) (rl := [.tmp 2]) (n := 25) Try.func47 rfl rfl rfl rfl rfl ?_
  simp only [envOf, Nat.reduceAdd]
  refine CW_seq (fun K1 hK1 => ?_)
  refine CW_region ?_
  refine OW_op rfl (lt_some (by decide)) (fun K hK r => ?_)
  simp only [x_assign, ev, Env.get, Option.getD_some, ↓reduceIte, Nat.reduceEqDiff, NextH, Env.putO, Env.put, ↓reduceIte, Nat.reduceEqDiff, upd_upd, Int.reduceToNat]
  refine hK _ _ ?_; clear hK K
  refine OW_nil ?_
  try simp only [Ex.thnH, Ex.inBlockH, ↓reduceIte, Nat.reduceEqDiff]
  refine hK1 _ _ ?_; try clear hK1 K1
  refine CW_seq (fun K2 hK2 => ?_)
  refine CW_seq (fun K3 hK3 => ?_)
  refine CW_region ?_
  refine OW_op rfl (lt_some (by decide)) (fun K hK r => ?_)
  simp only [x_move, ev, Env.get, Option.getD_some, ↓reduceIte, Nat.reduceEqDiff, NextH, Env.putO, Env.put, ↓reduceIte, Nat.reduceEqDiff, upd_upd, Int.reduceToNat]
  refine hK _ _ ?_; clear hK K
  refine OW_op rfl (lt_some (by decide)) (fun K hK r => ?_)
  simp (disch := (first | omega | decide)) only [x_bin, g_int, b_geq, dec_lt_t, dec_lt_f, dec_le_t, dec_le_f, dec_eq_t, dec_eq_f, Bool.not_true, Bool.not_false, ev, Env.get, Option.getD_some, ↓reduceIte, Nat.reduceEqDiff, NextH, Env.putO, Env.put, ↓reduceIte, Nat.reduceEqDiff, upd_upd, Int.reduceToNat]
  refine hK _ _ ?_; clear hK K
  refine OW_nil ?_
  try simp only [Ex.thnH, Ex.inBlockH, ↓reduceIte, Nat.reduceEqDiff]
  refine hK3 _ _ ?_; try clear hK3 K3
  refine CW_cond (fun r => rfl) (fun c4 => ?_) (fun c4 => ?_)
  · first
    | (exfalso; exact cnA c4; done)
    | skip
      (try simp only [decide_eq_true_eq, decide_eq_false_iff_not, Bool.not_eq_true, Bool.not_eq_false, Bool.and_eq_true, Bool.or_eq_true, Bool.or_eq_false_iff, Bool.not_eq_true, Bool.not_eq_eq_eq_not, Bool.not_true, Bool.not_false] at c4)
      have hL32 := bitLen_by 32 4294967296 (by decide) c4
      refine CW_seq (fun K4 hK4 => ?_)
      refine CW_region ?_
      refine OW_op rfl (lt_some (by decide)) (fun K hK r => ?_)
      simp only [x_move, ev, Env.get, Option.getD_some, ↓reduceIte, Nat.reduceEqDiff, NextH, Env.putO, Env.put, ↓reduceIte, Nat.reduceEqDiff, upd_upd, Int.reduceToNat]
      refine hK _ _ ?_; clear hK K
      refine OW_op rfl (lt_some (by decide)) (fun K hK r => ?_)
      simp (disch := (first | omega | decide)) only [x_bin, g_int, b_shr, wrap_i64, wrap_u64, wrap_u32, wrap_u8, ev, Env.get, Option.getD_some, ↓reduceIte, Nat.reduceEqDiff, NextH, Env.putO, Env.put, ↓reduceIte, Nat.reduceEqDiff, upd_upd, Int.reduceToNat]
      rw [shr32]
      refine hK _ _ ?_; clear hK K
      refine OW_op rfl (lt_some (by decide)) (fun K hK r => ?_)
      simp only [x_assign, ev, Env.get, Option.getD_some, ↓reduceIte, Nat.reduceEqDiff, NextH, Env.putO, Env.put, ↓reduceIte, Nat.reduceEqDiff, upd_upd, Int.reduceToNat]
      refine hK _ _ ?_; clear hK K
      refine OW_nil ?_
      try simp only [Ex.thnH, Ex.inBlockH, ↓reduceIte, Nat.reduceEqDiff]
      refine hK4 _ _ ?_; try clear hK4 K4
      refine CW_region ?_
      refine OW_op rfl (lt_some (by decide)) (fun K hK r => ?_)
      simp only [x_assign, ev, Env.get, Option.getD_some, ↓reduceIte, Nat.reduceEqDiff, NextH, Env.putO, Env.put, ↓reduceIte, Nat.reduceEqDiff, upd_upd, Int.reduceToNat]
      refine hK _ _ ?_; clear hK K
      refine OW_nil ?_
      try simp only [Ex.thnH, Ex.inBlockH, ↓reduceIte, Nat.reduceEqDiff]
      refine hK2 _ _ ?_; try clear hK2 K2
      refine CW_seq (fun K5 hK5 => ?_)
      refine CW_seq (fun K6 hK6 => ?_)
      refine CW_region ?_
      refine OW_op rfl (lt_some (by decide)) (fun K hK r => ?_)
      simp only [x_move, ev, Env.get, Option.getD_some, ↓reduceIte, Nat.reduceEqDiff, NextH, Env.putO, Env.put, ↓reduceIte, Nat.reduceEqDiff, upd_upd, Int.reduceToNat]
      refine hK _ _ ?_; clear hK K
      refine OW_op rfl (lt_some (by decide)) (fun K hK r => ?_)
      simp (disch := (first | omega | decide)) only [x_bin, g_int, b_geq, dec_lt_t, dec_lt_f, dec_le_t, dec_le_f, dec_eq_t, dec_eq_f, Bool.not_true, Bool.not_false, ev, Env.get, Option.getD_some, ↓reduceIte, Nat.reduceEqDiff, NextH, Env.putO, Env.put, ↓reduceIte, Nat.reduceEqDiff, upd_upd, Int.reduceToNat]
      refine hK _ _ ?_; clear hK K
      refine OW_nil ?_
      try simp only [Ex.thnH, Ex.inBlockH, ↓reduceIte, Nat.reduceEqDiff]
      refine hK6 _ _ ?_; try clear hK6 K6
      refine CW_cond (fun r => rfl) (fun c8 => ?_) (fun c8 => ?_)
      · first
        | (exfalso; exact cnA c8; done)
        | skip
          (try simp only [decide_eq_true_eq, decide_eq_false_iff_not, Bool.not_eq_true, Bool.not_eq_false, Bool.and_eq_true, Bool.or_eq_true, Bool.or_eq_false_iff, Bool.not_eq_true, Bool.not_eq_eq_eq_not, Bool.not_true, Bool.not_false] at c8)
          have hL16 := bitLen_by 16 65536 (by decide) c8
          refine CW_seq (fun K7 hK7 => ?_)
          refine CW_region ?_
          refine OW_op rfl (lt_some (by decide)) (fun K hK r => ?_)
          simp only [x_move, ev, Env.get, Option.getD_some, ↓reduceIte, Nat.reduceEqDiff, NextH, Env.putO, Env.put, ↓reduceIte, Nat.reduceEqDiff, upd_upd, Int.reduceToNat]
          refine hK _ _ ?_; clear hK K
          refine OW_op rfl (lt_some (by decide)) (fun K hK r => ?_)
          simp (disch := (first | omega | decide)) only [x_bin, g_int, b_shr, wrap_i64, wrap_u64, wrap_u32, wrap_u8, ev, Env.get, Option.getD_some, ↓reduceIte, Nat.reduceEqDiff, NextH, Env.putO, Env.put, ↓reduceIte, Nat.reduceEqDiff, upd_upd, Int.reduceToNat]
          rw [shr16]
          refine hK _ _ ?_; clear hK K
          refine OW_op rfl (lt_some (by decide)) (fun K hK r => ?_)
          simp only [x_assign, ev, Env.get, Option.getD_some, ↓reduceIte, Nat.reduceEqDiff, NextH, Env.putO, Env.put, ↓reduceIte, Nat.reduceEqDiff, upd_upd, Int.reduceToNat]
          refine hK _ _ ?_; clear hK K
          refine OW_nil ?_
          try simp only [Ex.thnH, Ex.inBlockH, ↓reduceIte, Nat.reduceEqDiff]
          refine hK7 _ _ ?_; try clear hK7 K7
          refine CW_region ?_
          refine OW_op rfl (lt_some (by decide)) (fun K hK r => ?_)
          simp only [x_move, ev, Env.get, Option.getD_some, ↓reduceIte, Nat.reduceEqDiff, NextH, Env.putO, Env.put, ↓reduceIte, Nat.reduceEqDiff, upd_upd, Int.reduceToNat]
          refine hK _ _ ?_; clear hK K
          refine OW_op rfl (lt_some (by decide)) (fun K hK r => ?_)
          simp (disch := (first | omega | decide)) only [x_bin, g_int, b_add, wrap_i64, wrap_u64, wrap_u32, wrap_u8, ev, Env.get, Option.getD_some, ↓reduceIte, Nat.reduceEqDiff, NextH, Env.putO, Env.put, ↓reduceIte, Nat.reduceEqDiff, upd_upd, Int.reduceToNat]
          refine hK _ _ ?_; clear hK K
          refine OW_op rfl (lt_some (by decide)) (fun K hK r => ?_)
          simp only [x_assign, ev, Env.get, Option.getD_some, ↓reduceIte, Nat.reduceEqDiff, NextH, Env.putO, Env.put, ↓reduceIte, Nat.reduceEqDiff, upd_upd, Int.reduceToNat]
          refine hK _ _ ?_; clear hK K
          refine OW_nil ?_
          try simp only [Ex.thnH, Ex.inBlockH, ↓reduceIte, Nat.reduceEqDiff]
          refine hK5 _ _ ?_; try clear hK5 K5
          refine CW_seq (fun K8 hK8 => ?_)
          refine CW_seq (fun K9 hK9 => ?_)
          refine CW_region ?_
          refine OW_op rfl (lt_some (by decide)) (fun K hK r => ?_)
          simp only [x_move, ev, Env.get, Option.getD_some, ↓reduceIte, Nat.reduceEqDiff, NextH, Env.putO, Env.put, ↓reduceIte, Nat.reduceEqDiff, upd_upd, Int.reduceToNat]
          refine hK _ _ ?_; clear hK K
          refine OW_op rfl (lt_some (by decide)) (fun K hK r => ?_)
          simp (disch := (first | omega | decide)) only [x_bin, g_int, b_geq, dec_lt_t, dec_lt_f, dec_le_t, dec_le_f, dec_eq_t, dec_eq_f, Bool.not_true, Bool.not_false, ev, Env.get, Option.getD_some, ↓reduceIte, Nat.reduceEqDiff, NextH, Env.putO, Env.put, ↓reduceIte, Nat.reduceEqDiff, upd_upd, Int.reduceToNat]
          refine hK _ _ ?_; clear hK K
          refine OW_nil ?_
          try simp only [Ex.thnH, Ex.inBlockH, ↓reduceIte, Nat.reduceEqDiff]
          refine hK9 _ _ ?_; try clear hK9 K9
          refine CW_cond (fun r => rfl) (fun c14 => ?_) (fun c14 => ?_)
          · first
            | (exfalso; exact cnA c14; done)
            | skip
              (try simp only [decide_eq_true_eq, decide_eq_false_iff_not, Bool.not_eq_true, Bool.not_eq_false, Bool.and_eq_true, Bool.or_eq_true, Bool.or_eq_false_iff, Bool.not_eq_true, Bool.not_eq_eq_eq_not, Bool.not_true, Bool.not_false] at c14)
              have hL8 := bitLen_by 8 256 (by decide) c14
              refine CW_seq (fun K10 hK10 => ?_)
              refine CW_region ?_
              refine OW_op rfl (lt_some (by decide)) (fun K hK r => ?_)
              simp only [x_move, ev, Env.get, Option.getD_some, ↓reduceIte, Nat.reduceEqDiff, NextH, Env.putO, Env.put, ↓reduceIte, Nat.reduceEqDiff, upd_upd, Int.reduceToNat]
              refine hK _ _ ?_; clear hK K
              refine OW_op rfl (lt_some (by decide)) (fun K hK r => ?_)
              simp (disch := (first | omega | decide)) only [x_bin, g_int, b_shr, wrap_i64, wrap_u64, wrap_u32, wrap_u8, ev, Env.get, Option.getD_some, ↓reduceIte, Nat.reduceEqDiff, NextH, Env.putO, Env.put, ↓reduceIte, Nat.reduceEqDiff, upd_upd, Int.reduceToNat]
              rw [shr8]
              refine hK _ _ ?_; clear hK K
              refine OW_op rfl (lt_some (by decide)) (fun K hK r => ?_)
              simp only [x_assign, ev, Env.get, Option.getD_some, ↓reduceIte, Nat.reduceEqDiff, NextH, Env.putO, Env.put, ↓reduceIte, Nat.reduceEqDiff, upd_upd, Int.reduceToNat]
              refine hK _ _ ?_; clear hK K
              refine OW_nil ?_
              try simp only [Ex.thnH, Ex.inBlockH, ↓reduceIte, Nat.reduceEqDiff]
              refine hK10 _ _ ?_; try clear hK10 K10
              refine CW_region ?_
              refine OW_op rfl (lt_some (by decide)) (fun K hK r => ?_)
              simp only [x_move, ev, Env.get, Option.getD_some, ↓reduceIte, Nat.reduceEqDiff, NextH, Env.putO, Env.put, ↓reduceIte, Nat.reduceEqDiff, upd_upd, Int.reduceToNat]
              refine hK _ _ ?_; clear hK K
              refine OW_op rfl (lt_some (by decide)) (fun K hK r => ?_)
              simp (disch := (first | omega | decide)) only [x_bin, g_int, b_add, wrap_i64, wrap_u64, wrap_u32, wrap_u8, ev, Env.get, Option.getD_some, ↓reduceIte, Nat.reduceEqDiff, NextH, Env.putO, Env.put, ↓reduceIte, Nat.reduceEqDiff, upd_upd, Int.reduceToNat]
              refine hK _ _ ?_; clear hK K
              refine OW_op rfl (lt_some (by decide)) (fun K hK r => ?_)
              simp only [x_assign, ev, Env.get, Option.getD_some, ↓reduceIte, Nat.reduceEqDiff, NextH, Env.putO, Env.put, ↓reduceIte, Nat.reduceEqDiff, upd_upd, Int.reduceToNat]
              refine hK _ _ ?_; clear hK K
              refine OW_nil ?_
              try simp only [Ex.thnH, Ex.inBlockH, ↓reduceIte, Nat.reduceEqDiff]
              refine hK8 _ _ ?_; try clear hK8 K8
              refine CW_seq (fun K11 hK11 => ?_)
              refine CW_region ?_
              refine OW_op rfl (lt_some (by decide)) (fun K hK r => ?_)
              simp only [x_move, ev, Env.get, Option.getD_some, ↓reduceIte, Nat.reduceEqDiff, NextH, Env.putO, Env.put, ↓reduceIte, Nat.reduceEqDiff, upd_upd, Int.reduceToNat]
              refine hK _ _ ?_; clear hK K
              refine OW_op rfl (lt_some (by decide)) (fun K hK r => ?_)
              simp only [x_move, ev, Env.get, Option.getD_some, ↓reduceIte, Nat.reduceEqDiff, NextH, Env.putO, Env.put, ↓reduceIte, Nat.reduceEqDiff, upd_upd, Int.reduceToNat]
              refine hK _ _ ?_; clear hK K
              refine OW_op rfl (lt_some (by decide)) (fun K hK r => ?_)
              simp (disch := (first | omega | decide)) only [x_convert, c_int _ _ _ _ Try.underlying48 Try.underlying5, wrap_i64, wrap_u64, wrap_u32, wrap_u8, ev, Env.get, Option.getD_some, ↓reduceIte, Nat.reduceEqDiff, NextH, Env.putO, Env.put, ↓reduceIte, Nat.reduceEqDiff, upd_upd, Int.reduceToNat]
              refine hK _ _ ?_; clear hK K
              refine OW_op rfl (lt_some (by decide)) (fun K hK r => ?_)
              simp only [x_index, ev, Env.get, Option.getD_some, ↓reduceIte, Nat.reduceEqDiff, NextH, Env.putO, Env.put, ↓reduceIte, Nat.reduceEqDiff, upd_upd, Int.reduceToNat]
              refine Lt_len8 Try.underlying9 (by decide +kernel) (by omega) (by omega) ?_
              intro n hn hn0 hn8
              refine hK _ _ ?_; clear hK K
              refine OW_op rfl (lt_some (by decide)) (fun K hK r => ?_)
              simp (disch := (first | omega | decide)) only [x_convert, c_int _ _ _ _ Try.underlying5 Try.underlying3, wrap_i64, wrap_u64, wrap_u32, wrap_u8, ev, Env.get, Option.getD_some, ↓reduceIte, Nat.reduceEqDiff, NextH, Env.putO, Env.put, ↓reduceIte, Nat.reduceEqDiff, upd_upd, Int.reduceToNat]
              refine hK _ _ ?_; clear hK K
              refine OW_op rfl (lt_some (by decide)) (fun K hK r => ?_)
              simp (disch := (first | omega | decide)) only [x_bin, g_int, b_add, wrap_i64, wrap_u64, wrap_u32, wrap_u8, ev, Env.get, Option.getD_some, ↓reduceIte, Nat.reduceEqDiff, NextH, Env.putO, Env.put, ↓reduceIte, Nat.reduceEqDiff, upd_upd, Int.reduceToNat]
              refine hK _ _ ?_; clear hK K
              refine OW_op rfl (lt_some (by decide)) (fun K hK r => ?_)
              simp only [x_assign, ev, Env.get, Option.getD_some, ↓reduceIte, Nat.reduceEqDiff, NextH, Env.putO, Env.put, ↓reduceIte, Nat.reduceEqDiff, upd_upd, Int.reduceToNat]
              refine hK _ _ ?_; clear hK K
              refine OW_nil ?_
              try simp only [Ex.thnH, Ex.inBlockH, ↓reduceIte, Nat.reduceEqDiff]
              refine hK11 _ _ ?_; try clear hK11 K11
              refine CW_ret ?_
              try simp only [Ex.thnH, Ex.inBlockH, ↓reduceIte, Nat.reduceEqDiff]
              refine ⟨[_], ⟨rfl, trivial⟩, H, lhA, ?_, rfl⟩
              show Value.int _ _ = _
              congr 1
              omega
          · first
            | (exfalso; exact cnA c14; done)
            | skip
              (try simp only [decide_eq_true_eq, decide_eq_false_iff_not, Bool.not_eq_true, Bool.not_eq_false, Bool.and_eq_true, Bool.or_eq_true, Bool.or_eq_false_iff, Bool.not_eq_true, Bool.not_eq_eq_eq_not, Bool.not_true, Bool.not_false] at c14)
              refine CW_skip ?_
              try simp only [Ex.thnH, Ex.inBlockH, ↓reduceIte, Nat.reduceEqDiff]
              refine hK8 _ _ ?_; try clear hK8 K8
              refine CW_seq (fun K12 hK12 => ?_)
              refine CW_region ?_
              refine OW_op rfl (lt_some (by decide)) (fun K hK r => ?_)
              simp only [x_move, ev, Env.get, Option.getD_some, ↓reduceIte, Nat.reduceEqDiff, NextH, Env.putO, Env.put, ↓reduceIte, Nat.reduceEqDiff, upd_upd, Int.reduceToNat]
              refine hK _ _ ?_; clear hK K
              refine OW_op rfl (lt_some (by decide)) (fun K hK r => ?_)
              simp only [x_move, ev, Env.get, Option.getD_some, ↓reduceIte, Nat.reduceEqDiff, NextH, Env.putO, Env.put, ↓reduceIte, Nat.reduceEqDiff, upd_upd, Int.reduceToNat]
              refine hK _ _ ?_; clear hK K
              refine OW_op rfl (lt_some (by decide)) (fun K hK r => ?_)
              simp (disch := (first | omega | decide)) only [x_convert, c_int _ _ _ _ Try.underlying48 Try.underlying5, wrap_i64, wrap_u64, wrap_u32, wrap_u8, ev, Env.get, Option.getD_some, ↓reduceIte, Nat.reduceEqDiff, NextH, Env.putO, Env.put, ↓reduceIte, Nat.reduceEqDiff, upd_upd, Int.reduceToNat]
              refine hK _ _ ?_; clear hK K
              refine OW_op rfl (lt_some (by decide)) (fun K hK r => ?_)
              simp only [x_index, ev, Env.get, Option.getD_some, ↓reduceIte, Nat.reduceEqDiff, NextH, Env.putO, Env.put, ↓reduceIte, Nat.reduceEqDiff, upd_upd, Int.reduceToNat]
              refine Lt_len8 Try.underlying9 (by decide +kernel) (by omega) (by omega) ?_
              intro n hn hn0 hn8
              refine hK _ _ ?_; clear hK K
              refine OW_op rfl (lt_some (by decide)) (fun K hK r => ?_)
              simp (disch := (first | omega | decide)) only [x_convert, c_int _ _ _ _ Try.underlying5 Try.underlying3, wrap_i64, wrap_u64, wrap_u32, wrap_u8, ev, Env.get, Option.getD_some, ↓reduceIte, Nat.reduceEqDiff, NextH, Env.putO, Env.put, ↓reduceIte, Nat.reduceEqDiff, upd_upd, Int.reduceToNat]
              refine hK _ _ ?_; clear hK K
              refine OW_op rfl (lt_some (by decide)) (fun K hK r => ?_)
              simp (disch := (first | omega | decide)) only [x_bin, g_int, b_add, wrap_i64, wrap_u64, wrap_u32, wrap_u8, ev, Env.get, Option.getD_some, ↓reduceIte, Nat.reduceEqDiff, NextH, Env.putO, Env.put, ↓reduceIte, Nat.reduceEqDiff, upd_upd, Int.reduceToNat]
              refine hK _ _ ?_; clear hK K
              refine OW_op rfl (lt_some (by decide)) (fun K hK r => ?_)
              simp only [x_assign, ev, Env.get, Option.getD_some, ↓reduceIte, Nat.reduceEqDiff, NextH, Env.putO, Env.put, ↓reduceIte, Nat.reduceEqDiff, upd_upd, Int.reduceToNat]
              refine hK _ _ ?_; clear hK K
              refine OW_nil ?_
              try simp only [Ex.thnH, Ex.inBlockH, ↓reduceIte, Nat.reduceEqDiff]
              refine hK12 _ _ ?_; try clear hK12 K12
              refine CW_ret ?_
              try simp only [Ex.thnH, Ex.inBlockH, ↓reduceIte, Nat.reduceEqDiff]
              refine ⟨[_], ⟨rfl, trivial⟩, H, lhA, ?_, rfl⟩
              show Value.int _ _ = _
              congr 1
              omega
      · first
        | (exfalso; exact cnA c8; done)
        | skip
          (try simp only [decide_eq_true_eq, decide_eq_false_iff_not, Bool.not_eq_true, Bool.not_eq_false, Bool.and_eq_true, Bool.or_eq_true, Bool.or_eq_false_iff, Bool.not_eq_true, Bool.not_eq_eq_eq_not, Bool.not_true, Bool.not_false] at c8)
          refine CW_skip ?_
          try simp only [Ex.thnH, Ex.inBlockH, ↓reduceIte, Nat.reduceEqDiff]
          refine hK5 _ _ ?_; try clear hK5 K5
          refine CW_seq (fun K13 hK13 => ?_)
          refine CW_seq (fun K14 hK14 => ?_)
          refine CW_region ?_
          refine OW_op rfl (lt_some (by decide)) (fun K hK r => ?_)
          simp only [x_move, ev, Env.get, Option.getD_some, ↓reduceIte, Nat.reduceEqDiff, NextH, Env.putO, Env.put, ↓reduceIte, Nat.reduceEqDiff, upd_upd, Int.reduceToNat]
          refine hK _ _ ?_; clear hK K
          refine OW_op rfl (lt_some (by decide)) (fun K hK r => ?_)
          simp (disch := (first | omega | decide)) only [x_bin, g_int, b_geq, dec_lt_t, dec_lt_f, dec_le_t, dec_le_f, dec_eq_t, dec_eq_f, Bool.not_true, Bool.not_false, ev, Env.get, Option.getD_some, ↓reduceIte, Nat.reduceEqDiff, NextH, Env.putO, Env.put, ↓reduceIte, Nat.reduceEqDiff, upd_upd, Int.reduceToNat]
          refine hK _ _ ?_; clear hK K
          refine OW_nil ?_
          try simp only [Ex.thnH, Ex.inBlockH, ↓reduceIte, Nat.reduceEqDiff]
          refine hK14 _ _ ?_; try clear hK14 K14
          refine CW_cond (fun r => rfl) (fun c14 => ?_) (fun c14 => ?_)
          · first
            | (exfalso; exact cnA c14; done)
            | skip
              (try simp only [decide_eq_true_eq, decide_eq_false_iff_not, Bool.not_eq_true, Bool.not_eq_false, Bool.and_eq_true, Bool.or_eq_true, Bool.or_eq_false_iff, Bool.not_eq_true, Bool.not_eq_eq_eq_not, Bool.not_true, Bool.not_false] at c14)
              have hL8 := bitLen_by 8 256 (by decide) c14
              refine CW_seq (fun K15 hK15 => ?_)
              refine CW_region ?_
              refine OW_op rfl (lt_some (by decide)) (fun K hK r => ?_)
              simp only [x_move, ev, Env.get, Option.getD_some, ↓reduceIte, Nat.reduceEqDiff, NextH, Env.putO, Env.put, ↓reduceIte, Nat.reduceEqDiff, upd_upd, Int.reduceToNat]
              refine hK _ _ ?_; clear hK K
              refine OW_op rfl (lt_some (by decide)) (fun K hK r => ?_)
              simp (disch := (first | omega | decide)) only [x_bin, g_int, b_shr, wrap_i64, wrap_u64, wrap_u32, wrap_u8, ev, Env.get, Option.getD_some, ↓reduceIte, Nat.reduceEqDiff, NextH, Env.putO, Env.put, ↓reduceIte, Nat.reduceEqDiff, upd_upd, Int.reduceToNat]
              rw [shr8]
              refine hK _ _ ?_; clear hK K
              refine OW_op rfl (lt_some (by decide)) (fun K hK r => ?_)
              simp only [x_assign, ev, Env.get, Option.getD_some, ↓reduceIte, Nat.reduceEqDiff, NextH, Env.putO, Env.put, ↓reduceIte, Nat.reduceEqDiff, upd_upd, Int.reduceToNat]
              refine hK _ _ ?_; clear hK K
              refine OW_nil ?_
              try simp only [Ex.thnH, Ex.inBlockH, ↓reduceIte, Nat.reduceEqDiff]
              refine hK15 _ _ ?_; try clear hK15 K15
              refine CW_region ?_
              refine OW_op rfl (lt_some (by decide)) (fun K hK r => ?_)
              simp only [x_move, ev, Env.get, Option.getD_some, ↓reduceIte, Nat.reduceEqDiff, NextH, Env.putO, Env.put, ↓reduceIte, Nat.reduceEqDiff, upd_upd, Int.reduceToNat]
              refine hK _ _ ?_; clear hK K
              refine OW_op rfl (lt_some (by decide)) (fun K hK r => ?_)
              simp (disch := (first | omega | decide)) only [x_bin, g_int, b_add, wrap_i64, wrap_u64, wrap_u32, wrap_u8, ev, Env.get, Option.getD_some, ↓reduceIte, Nat.reduceEqDiff, NextH, Env.putO, Env.put, ↓reduceIte, Nat.reduceEqDiff, upd_upd, Int.reduceToNat]
              refine hK _ _ ?_; clear hK K
              refine OW_op rfl (lt_some (by decide)) (fun K hK r => ?_)
              simp only [x_assign, ev, Env.get, Option.getD_some, ↓reduceIte, Nat.reduceEqDiff, NextH, Env.putO, Env.put, ↓reduceIte, Nat.reduceEqDiff, upd_upd, Int.reduceToNat]
              refine hK _ _ ?_; clear hK K
              refine OW_nil ?_
              try simp only [Ex.thnH, Ex.inBlockH, ↓reduceIte, Nat.reduceEqDiff]
              refine hK13 _ _ ?_; try clear hK13 K13
              refine CW_seq (fun K16 hK16 => ?_)
              refine CW_region ?_
              refine OW_op rfl (lt_some (by decide)) (fun K hK r => ?_)
              simp only [x_move, ev, Env.get, Option.getD_some, ↓reduceIte, Nat.reduceEqDiff, NextH, Env.putO, Env.put, ↓reduceIte, Nat.reduceEqDiff, upd_upd, Int.reduceToNat]
              refine hK _ _ ?_; clear hK K
              refine OW_op rfl (lt_some (by decide)) (fun K hK r => ?_)
              simp only [x_move, ev, Env.get, Option.getD_some, ↓reduceIte, Nat.reduceEqDiff, NextH, Env.putO, Env.put, ↓reduceIte, Nat.reduceEqDiff, upd_upd, Int.reduceToNat]
              refine hK _ _ ?_; clear hK K
              refine OW_op rfl (lt_some (by decide)) (fun K hK r => ?_)
              simp (disch := (first | omega | decide)) only [x_convert, c_int _ _ _ _ Try.underlying48 Try.underlying5, wrap_i64, wrap_u64, wrap_u32, wrap_u8, ev, Env.get, Option.getD_some, ↓reduceIte, Nat.reduceEqDiff, NextH, Env.putO, Env.put, ↓reduceIte, Nat.reduceEqDiff, upd_upd, Int.reduceToNat]
              refine hK _ _ ?_; clear hK K
              refine OW_op rfl (lt_some (by decide)) (fun K hK r => ?_)
              simp only [x_index, ev, Env.get, Option.getD_some, ↓reduceIte, Nat.reduceEqDiff, NextH, Env.putO, Env.put, ↓reduceIte, Nat.reduceEqDiff, upd_upd, Int.reduceToNat]
              refine Lt_len8 Try.underlying9 (by decide +kernel) (by omega) (by omega) ?_
              intro n hn hn0 hn8
              refine hK _ _ ?_; clear hK K
              refine OW_op rfl (lt_some (by decide)) (fun K hK r => ?_)
              simp (disch := (first | omega | decide)) only [x_convert, c_int _ _ _ _ Try.underlying5 Try.underlying3, wrap_i64, wrap_u64, wrap_u32, wrap_u8, ev, Env.get, Option.getD_some, ↓reduceIte, Nat.reduceEqDiff, NextH, Env.putO, Env.put, ↓reduceIte, Nat.reduceEqDiff, upd_upd, Int.reduceToNat]
              refine hK _ _ ?_; clear hK K
              refine OW_op rfl (lt_some (by decide)) (fun K hK r => ?_)
              simp (disch := (first | omega | decide)) only [x_bin, g_int, b_add, wrap_i64, wrap_u64, wrap_u32, wrap_u8, ev, Env.get, Option.getD_some, ↓reduceIte, Nat.reduceEqDiff, NextH, Env.putO, Env.put, ↓reduceIte, Nat.reduceEqDiff, upd_upd, Int.reduceToNat]
              refine hK _ _ ?_; clear hK K
              refine OW_op rfl (lt_some (by decide)) (fun K hK r => ?_)
              simp only [x_assign, ev, Env.get, Option.getD_some, ↓reduceIte, Nat.reduceEqDiff, NextH, Env.putO, Env.put, ↓reduceIte, Nat.reduceEqDiff, upd_upd, Int.reduceToNat]
              refine hK _ _ ?_; clear hK K
              refine OW_nil ?_
              try simp only [Ex.thnH, Ex.inBlockH, ↓reduceIte, Nat.reduceEqDiff]
              refine hK16 _ _ ?_; try clear hK16 K16
              refine CW_ret ?_
              try simp only [Ex.thnH, Ex.inBlockH, ↓reduceIte, Nat.reduceEqDiff]
              refine ⟨[_], ⟨rfl, trivial⟩, H, lhA, ?_, rfl⟩
              show Value.int _ _ = _
              congr 1
              omega
          · first
            | (exfalso; exact cnA c14; done)
            | skip
              (try simp only [decide_eq_true_eq, decide_eq_false_iff_not, Bool.not_eq_true, Bool.not_eq_false, Bool.and_eq_true, Bool.or_eq_true, Bool.or_eq_false_iff, Bool.not_eq_true, Bool.not_eq_eq_eq_not, Bool.not_true, Bool.not_false] at c14)
              refine CW_skip ?_
              try simp only [Ex.thnH, Ex.inBlockH, ↓reduceIte, Nat.reduceEqDiff]
              refine hK13 _ _ ?_; try clear hK13 K13
              refine CW_seq (fun K17 hK17 => ?_)
              refine CW_region ?_
              refine OW_op rfl (lt_some (by decide)) (fun K hK r => ?_)
              simp only [x_move, ev, Env.get, Option.getD_some, ↓reduceIte, Nat.reduceEqDiff, NextH, Env.putO, Env.put, ↓reduceIte, Nat.reduceEqDiff, upd_upd, Int.reduceToNat]
              refine hK _ _ ?_; clear hK K
              refine OW_op rfl (lt_some (by decide)) (fun K hK r => ?_)
              simp only [x_move, ev, Env.get, Option.getD_some, ↓reduceIte, Nat.reduceEqDiff, NextH, Env.putO, Env.put, ↓reduceIte, Nat.reduceEqDiff, upd_upd, Int.reduceToNat]
              refine hK _ _ ?_; clear hK K
              refine OW_op rfl (lt_some (by decide)) (fun K hK r => ?_)
              simp (disch := (first | omega | decide)) only [x_convert, c_int _ _ _ _ Try.underlying48 Try.underlying5, wrap_i64, wrap_u64, wrap_u32, wrap_u8, ev, Env.get, Option.getD_some, ↓reduceIte, Nat.reduceEqDiff, NextH, Env.putO, Env.put, ↓reduceIte, Nat.reduceEqDiff, upd_upd, Int.reduceToNat]
              refine hK _ _ ?_; clear hK K
              refine OW_op rfl (lt_some (by decide)) (fun K hK r => ?_)
              simp only [x_index, ev, Env.get, Option.getD_some, ↓reduceIte, Nat.reduceEqDiff, NextH, Env.putO, Env.put, ↓reduceIte, Nat.reduceEqDiff, upd_upd, Int.reduceToNat]
              refine Lt_len8 Try.underlying9 (by decide +kernel) (by omega) (by omega) ?_
              intro n hn hn0 hn8
              refine hK _ _ ?_; clear hK K
              refine OW_op rfl (lt_some (by decide)) (fun K hK r => ?_)
              simp (disch := (first | omega | decide)) only [x_convert, c_int _ _ _ _ Try.underlying5 Try.underlying3, wrap_i64, wrap_u64, wrap_u32, wrap_u8, ev, Env.get, Option.getD_some, ↓reduceIte, Nat.reduceEqDiff, NextH, Env.putO, Env.put, ↓reduceIte, Nat.reduceEqDiff, upd_upd, Int.reduceToNat]
              refine hK _ _ ?_; clear hK K
              refine OW_op rfl (lt_some (by decide)) (fun K hK r => ?_)
              simp (disch := (first | omega | decide)) only [x_bin, g_int, b_add, wrap_i64, wrap_u64, wrap_u32, wrap_u8, ev, Env.get, Option.getD_some, ↓reduceIte, Nat.reduceEqDiff, NextH, Env.putO, Env.put, ↓reduceIte, Nat.reduceEqDiff, upd_upd, Int.reduceToNat]
              refine hK _ _ ?_; clear hK K
              refine OW_op rfl (lt_some (by decide)) (fun K hK r => ?_)
              simp only [x_assign, ev, Env.get, Option.getD_some, ↓reduceIte, Nat.reduceEqDiff, NextH, Env.putO, Env.put, ↓reduceIte, Nat.reduceEqDiff, upd_upd, Int.reduceToNat]
              refine hK _ _ ?_; clear hK K
              refine OW_nil ?_
              try simp only [Ex.thnH, Ex.inBlockH, ↓reduceIte, Nat.reduceEqDiff]
              refine hK17 _ _ ?_; try clear hK17 K17
              refine CW_ret ?_
              try simp only [Ex.thnH, Ex.inBlockH, ↓reduceIte, Nat.reduceEqDiff]
              refine ⟨[_], ⟨rfl, trivial⟩, H, lhA, ?_, rfl⟩
              show Value.int _ _ = _
              congr 1
              omega
  · first
    | (exfalso; exact cnA c4; done)
    | skip
      (try simp only [decide_eq_true_eq, decide_eq_false_iff_not, Bool.not_eq_true, Bool.not_eq_false, Bool.and_eq_true, Bool.or_eq_true, Bool.or_eq_false_iff, Bool.not_eq_true, Bool.not_eq_eq_eq_not, Bool.not_true, Bool.not_false] at c4)
      refine CW_skip ?_
      try simp only [Ex.thnH, Ex.inBlockH, ↓reduceIte, Nat.reduceEqDiff]
      refine hK2 _ _ ?_; try clear hK2 K2
      refine CW_seq (fun K18 hK18 => ?_)
      refine CW_seq (fun K19 hK19 => ?_)
      refine CW_region ?_
      refine OW_op rfl (lt_some (by decide)) (fun K hK r => ?_)
      simp only [x_move, ev, Env.get, Option.getD_some, ↓reduceIte, Nat.reduceEqDiff, NextH, Env.putO, Env.put, ↓reduceIte, Nat.reduceEqDiff, upd_upd, Int.reduceToNat]
      refine hK _ _ ?_; clear hK K
      refine OW_op rfl (lt_some (by decide)) (fun K hK r => ?_)
      simp (disch := (first | omega | decide)) only [x_bin, g_int, b_geq, dec_lt_t, dec_lt_f, dec_le_t, dec_le_f, dec_eq_t, dec_eq_f, Bool.not_true, Bool.not_false, ev, Env.get, Option.getD_some, ↓reduceIte, Nat.reduceEqDiff, NextH, Env.putO, Env.put, ↓reduceIte, Nat.reduceEqDiff, upd_upd, Int.reduceToNat]
      refine hK _ _ ?_; clear hK K
      refine OW_nil ?_
      try simp only [Ex.thnH, Ex.inBlockH, ↓reduceIte, Nat.reduceEqDiff]
      refine hK19 _ _ ?_; try clear hK19 K19
      refine CW_cond (fun r => rfl) (fun c8 => ?_) (fun c8 => ?_)
      · first
        | (exfalso; exact cnA c8; done)
        | skip
          (try simp only [decide_eq_true_eq, decide_eq_false_iff_not, Bool.not_eq_true, Bool.not_eq_false, Bool.and_eq_true, Bool.or_eq_true, Bool.or_eq_false_iff, Bool.not_eq_true, Bool.not_eq_eq_eq_not, Bool.not_true, Bool.not_false] at c8)
          have hL16 := bitLen_by 16 65536 (by decide) c8
          refine CW_seq (fun K20 hK20 => ?_)
          refine CW_region ?_
          refine OW_op rfl (lt_some (by decide)) (fun K hK r => ?_)
          simp only [x_move, ev, Env.get, Option.getD_some, ↓reduceIte, Nat.reduceEqDiff, NextH, Env.putO, Env.put, ↓reduceIte, Nat.reduceEqDiff, upd_upd, Int.reduceToNat]
          refine hK _ _ ?_; clear hK K
          refine OW_op rfl (lt_some (by decide)) (fun K hK r => ?_)
          simp (disch := (first | omega | decide)) only [x_bin, g_int, b_shr, wrap_i64, wrap_u64, wrap_u32, wrap_u8, ev, Env.get, Option.getD_some, ↓reduceIte, Nat.reduceEqDiff, NextH, Env.putO, Env.put, ↓reduceIte, Nat.reduceEqDiff, upd_upd, Int.reduceToNat]
          rw [shr16]
          refine hK _ _ ?_; clear hK K
          refine OW_op rfl (lt_some (by decide)) (fun K hK r => ?_)
          simp only [x_assign, ev, Env.get, Option.getD_some, ↓reduceIte, Nat.reduceEqDiff, NextH, Env.putO, Env.put, ↓reduceIte, Nat.reduceEqDiff, upd_upd, Int.reduceToNat]
          refine hK _ _ ?_; clear hK K
          refine OW_nil ?_
          try simp only [Ex.thnH, Ex.inBlockH, ↓reduceIte, Nat.reduceEqDiff]
          refine hK20 _ _ ?_; try clear hK20 K20
          refine CW_region ?_
          refine OW_op rfl (lt_some (by decide)) (fun K hK r => ?_)
          simp only [x_move, ev, Env.get, Option.getD_some, ↓reduceIte, Nat.reduceEqDiff, NextH, Env.putO, Env.put, ↓reduceIte, Nat.reduceEqDiff, upd_upd, Int.reduceToNat]
          refine hK _ _ ?_; clear hK K
          refine OW_op rfl (lt_some (by decide)) (fun K hK r => ?_)
          simp (disch := (first | omega | decide)) only [x_bin, g_int, b_add, wrap_i64, wrap_u64, wrap_u32, wrap_u8, ev, Env.get, Option.getD_some, ↓reduceIte, Nat.reduceEqDiff, NextH, Env.putO, Env.put, ↓reduceIte, Nat.reduceEqDiff, upd_upd, Int.reduceToNat]
          refine hK _ _ ?_; clear hK K
          refine OW_op rfl (lt_some (by decide)) (fun K hK r => ?_)
          simp only [x_assign, ev, Env.get, Option.getD_some, ↓reduceIte, Nat.reduceEqDiff, NextH, Env.putO, Env.put, ↓reduceIte, Nat.reduceEqDiff, upd_upd, Int.reduceToNat]
          refine hK _ _ ?_; clear hK K
          refine OW_nil ?_
          try simp only [Ex.thnH, Ex.inBlockH, ↓reduceIte, Nat.reduceEqDiff]
          refine hK18 _ _ ?_; try clear hK18 K18
          refine CW_seq (fun K21 hK21 => ?_)
          refine CW_seq (fun K22 hK22 => ?_)
          refine CW_region ?_
          refine OW_op rfl (lt_some (by decide)) (fun K hK r => ?_)
          simp only [x_move, ev, Env.get, Option.getD_some, ↓reduceIte, Nat.reduceEqDiff, NextH, Env.putO, Env.put, ↓reduceIte, Nat.reduceEqDiff, upd_upd, Int.reduceToNat]
          refine hK _ _ ?_; clear hK K
          refine OW_op rfl (lt_some (by decide)) (fun K hK r => ?_)
          simp (disch := (first | omega | decide)) only [x_bin, g_int, b_geq, dec_lt_t, dec_lt_f, dec_le_t, dec_le_f, dec_eq_t, dec_eq_f, Bool.not_true, Bool.not_false, ev, Env.get, Option.getD_some, ↓reduceIte, Nat.reduceEqDiff, NextH, Env.putO, Env.put, ↓reduceIte, Nat.reduceEqDiff, upd_upd, Int.reduceToNat]
          refine hK _ _ ?_; clear hK K
          refine OW_nil ?_
          try simp only [Ex.thnH, Ex.inBlockH, ↓reduceIte, Nat.reduceEqDiff]
          refine hK22 _ _ ?_; try clear hK22 K22
          refine CW_cond (fun r => rfl) (fun c14 => ?_) (fun c14 => ?_)
          · first
            | (exfalso; exact cnA c14; done)
            | skip
              (try simp only [decide_eq_true_eq, decide_eq_false_iff_not, Bool.not_eq_true, Bool.not_eq_false, Bool.and_eq_true, Bool.or_eq_true, Bool.or_eq_false_iff, Bool.not_eq_true, Bool.not_eq_eq_eq_not, Bool.not_true, Bool.not_false] at c14)
              have hL8 := bitLen_by 8 256 (by decide) c14
              refine CW_seq (fun K23 hK23 => ?_)
              refine CW_region ?_
              refine OW_op rfl (lt_some (by decide)) (fun K hK r => ?_)
              simp only [x_move, ev, Env.get, Option.getD_some, ↓reduceIte, Nat.reduceEqDiff, NextH, Env.putO, Env.put, ↓reduceIte, Nat.reduceEqDiff, upd_upd, Int.reduceToNat]
              refine hK _ _ ?_; clear hK K
              refine OW_op rfl (lt_some (by decide)) (fun K hK r => ?_)
              simp (disch := (first | omega | decide)) only [x_bin, g_int, b_shr, wrap_i64, wrap_u64, wrap_u32, wrap_u8, ev, Env.get, Option.getD_some, ↓reduceIte, Nat.reduceEqDiff, NextH, Env.putO, Env.put, ↓reduceIte, Nat.reduceEqDiff, upd_upd, Int.reduceToNat]
              rw [shr8]
              refine hK _ _ ?_; clear hK K
              refine OW_op rfl (lt_some (by decide)) (fun K hK r => ?_)
              simp only [x_assign, ev, Env.get, Option.getD_some, ↓reduceIte, Nat.reduceEqDiff, NextH, Env.putO, Env.put, ↓reduceIte, Nat.reduceEqDiff, upd_upd, Int.reduceToNat]
              refine hK _ _ ?_; clear hK K
              refine OW_nil ?_
              try simp only [Ex.thnH, Ex.inBlockH, ↓reduceIte, Nat.reduceEqDiff]
              refine hK23 _ _ ?_; try clear hK23 K23
              refine CW_region ?_
              refine OW_op rfl (lt_some (by decide)) (fun K hK r => ?_)
              simp only [x_move, ev, Env.get, Option.getD_some, ↓reduceIte, Nat.reduceEqDiff, NextH, Env.putO, Env.put, ↓reduceIte, Nat.reduceEqDiff, upd_upd, Int.reduceToNat]
              refine hK _ _ ?_; clear hK K
              refine OW_op rfl (lt_some (by decide)) (fun K hK r => ?_)
              simp (disch := (first | omega | decide)) only [x_bin, g_int, b_add, wrap_i64, wrap_u64, wrap_u32, wrap_u8, ev, Env.get, Option.getD_some, ↓reduceIte, Nat.reduceEqDiff, NextH, Env.putO, Env.put, ↓reduceIte, Nat.reduceEqDiff, upd_upd, Int.reduceToNat]
              refine hK _ _ ?_; clear hK K
              refine OW_op rfl (lt_some (by decide)) (fun K hK r => ?_)
              simp only [x_assign, ev, Env.get, Option.getD_some, ↓reduceIte, Nat.reduceEqDiff, NextH, Env.putO, Env.put, ↓reduceIte, Nat.reduceEqDiff, upd_upd, Int.reduceToNat]
              refine hK _ _ ?_; clear hK K
              refine OW_nil ?_
              try simp only [Ex.thnH, Ex.inBlockH, ↓reduceIte, Nat.reduceEqDiff]
              refine hK21 _ _ ?_; try clear hK21 K21
              refine CW_seq (fun K24 hK24 => ?_)
              refine CW_region ?_
              refine OW_op rfl (lt_some (by decide)) (fun K hK r => ?_)
              simp only [x_move, ev, Env.get, Option.getD_some, ↓reduceIte, Nat.reduceEqDiff, NextH, Env.putO, Env.put, ↓reduceIte, Nat.reduceEqDiff, upd_upd, Int.reduceToNat]
              refine hK _ _ ?_; clear hK K
              refine OW_op rfl (lt_some (by decide)) (fun K hK r => ?_)
              simp only [x_move, ev, Env.get, Option.getD_some, ↓reduceIte, Nat.reduceEqDiff, NextH, Env.putO, Env.put, ↓reduceIte, Nat.reduceEqDiff, upd_upd, Int.reduceToNat]
              refine hK _ _ ?_; clear hK K
              refine OW_op rfl (lt_some (by decide)) (fun K hK r => ?_)
              simp (disch := (first | omega | decide)) only [x_convert, c_int _ _ _ _ Try.underlying48 Try.underlying5, wrap_i64, wrap_u64, wrap_u32, wrap_u8, ev, Env.get, Option.getD_some, ↓reduceIte, Nat.reduceEqDiff, NextH, Env.putO, Env.put, ↓reduceIte, Nat.reduceEqDiff, upd_upd, Int.reduceToNat]
              refine hK _ _ ?_; clear hK K
              refine OW_op rfl (lt_some (by decide)) (fun K hK r => ?_)
              simp only [x_index, ev, Env.get, Option.getD_some, ↓reduceIte, Nat.reduceEqDiff, NextH, Env.putO, Env.put, ↓reduceIte, Nat.reduceEqDiff, upd_upd, Int.reduceToNat]
              refine Lt_len8 Try.underlying9 (by decide +kernel) (by omega) (by omega) ?_
              intro n hn hn0 hn8
              refine hK _ _ ?_; clear hK K
              refine OW_op rfl (lt_some (by decide)) (fun K hK r => ?_)
              simp (disch := (first | omega | decide)) only [x_convert, c_int _ _ _ _ Try.underlying5 Try.underlying3, wrap_i64, wrap_u64, wrap_u32, wrap_u8, ev, Env.get, Option.getD_some, ↓reduceIte, Nat.reduceEqDiff, NextH, Env.putO, Env.put, ↓reduceIte, Nat.reduceEqDiff, upd_upd, Int.reduceToNat]
              refine hK _ _ ?_; clear hK K
              refine OW_op rfl (lt_some (by decide)) (fun K hK r => ?_)
              simp (disch := (first | omega | decide)) only [x_bin, g_int, b_add, wrap_i64, wrap_u64, wrap_u32, wrap_u8, ev, Env.get, Option.getD_some, ↓reduceIte, Nat.reduceEqDiff, NextH, Env.putO, Env.put, ↓reduceIte, Nat.reduceEqDiff, upd_upd, Int.reduceToNat]
              refine hK _ _ ?_; clear hK K
              refine OW_op rfl (lt_some (by decide)) (fun K hK r => ?_)
              simp only [x_assign, ev, Env.get, Option.getD_some, ↓reduceIte, Nat.reduceEqDiff, NextH, Env.putO, Env.put, ↓reduceIte, Nat.reduceEqDiff, upd_upd, Int.reduceToNat]
              refine hK _ _ ?_; clear hK K
              refine OW_nil ?_
              try simp only [Ex.thnH, Ex.inBlockH, ↓reduceIte, Nat.reduceEqDiff]
              refine hK24 _ _ ?_; try clear hK24 K24
              refine CW_ret ?_
              try simp only [Ex.thnH, Ex.inBlockH, ↓reduceIte, Nat.reduceEqDiff]
              refine ⟨[_], ⟨rfl, trivial⟩, H, lhA, ?_, rfl⟩
              show Value.int _ _ = _
              congr 1
              omega
          · first
            | (exfalso; exact cnA c14; done)
            | skip
              (try simp only [decide_eq_true_eq, decide_eq_false_iff_not, Bool.not_eq_true, Bool.not_eq_false, Bool.and_eq_true, Bool.or_eq_true, Bool.or_eq_false_iff, Bool.not_eq_true, Bool.not_eq_eq_eq_not, Bool.not_true, Bool.not_false] at c14)
              refine CW_skip ?_
              try simp only [Ex.thnH, Ex.inBlockH, ↓reduceIte, Nat.reduceEqDiff]
              refine hK21 _ _ ?_; try clear hK21 K21
              refine CW_seq (fun K25 hK25 => ?_)
              refine CW_region ?_
              refine OW_op rfl (lt_some (by decide)) (fun K hK r => ?_)
              simp only [x_move, ev, Env.get, Option.getD_some, ↓reduceIte, Nat.reduceEqDiff, NextH, Env.putO, Env.put, ↓reduceIte, Nat.reduceEqDiff, upd_upd, Int.reduceToNat]
              refine hK _ _ ?_; clear hK K
              refine OW_op rfl (lt_some (by decide)) (fun K hK r => ?_)
              simp only [x_move, ev, Env.get, Option.getD_some, ↓reduceIte, Nat.reduceEqDiff, NextH, Env.putO, Env.put, ↓reduceIte, Nat.reduceEqDiff, upd_upd, Int.reduceToNat]
              refine hK _ _ ?_; clear hK K
              refine OW_op rfl (lt_some (by decide)) (fun K hK r => ?_)
              simp (disch := (first | omega | decide)) only [x_convert, c_int _ _ _ _ Try.underlying48 Try.underlying5, wrap_i64, wrap_u64, wrap_u32, wrap_u8, ev, Env.get, Option.getD_some, ↓reduceIte, Nat.reduceEqDiff, NextH, Env.putO, Env.put, ↓reduceIte, Nat.reduceEqDiff, upd_upd, Int.reduceToNat]
              refine hK _ _ ?_; clear hK K
              refine OW_op rfl (lt_some (by decide)) (fun K hK r => ?_)
              simp only [x_index, ev, Env.get, Option.getD_some, ↓reduceIte, Nat.reduceEqDiff, NextH, Env.putO, Env.put, ↓reduceIte, Nat.reduceEqDiff, upd_upd, Int.reduceToNat]
              refine Lt_len8 Try.underlying9 (by decide +kernel) (by omega) (by omega) ?_
              intro n hn hn0 hn8
              refine hK _ _ ?_; clear hK K
              refine OW_op rfl (lt_some (by decide)) (fun K hK r => ?_)
              simp (disch := (first | omega | decide)) only [x_convert, c_int _ _ _ _ Try.underlying5 Try.underlying3, wrap_i64, wrap_u64, wrap_u32, wrap_u8, ev, Env.get, Option.getD_some, ↓reduceIte, Nat.reduceEqDiff, NextH, Env.putO, Env.put, ↓reduceIte, Nat.reduceEqDiff, upd_upd, Int.reduceToNat]
              refine hK _ _ ?_; clear hK K
              refine OW_op rfl (lt_some (by decide)) (fun K hK r => ?_)
              simp (disch := (first | omega | decide)) only [x_bin, g_int, b_add, wrap_i64, wrap_u64, wrap_u32, wrap_u8, ev, Env.get, Option.getD_some, ↓reduceIte, Nat.reduceEqDiff, NextH, Env.putO, Env.put, ↓reduceIte, Nat.reduceEqDiff, upd_upd, Int.reduceToNat]
              refine hK _ _ ?_; clear hK K
              refine OW_op rfl (lt_some (by decide)) (fun K hK r => ?_)
              simp only [x_assign, ev, Env.get, Option.getD_some, ↓reduceIte, Nat.reduceEqDiff, NextH, Env.putO, Env.put, ↓reduceIte, Nat.reduceEqDiff, upd_upd, Int.reduceToNat]
              refine hK _ _ ?_; clear hK K
              refine OW_nil ?_
              try simp only [Ex.thnH, Ex.inBlockH, ↓reduceIte, Nat.reduceEqDiff]
              refine hK25 _ _ ?_; try clear hK25 K25
              refine CW_ret ?_
              try simp only [Ex.thnH, Ex.inBlockH, ↓reduceIte, Nat.reduceEqDiff]
              refine ⟨[_], ⟨rfl, trivial⟩, H, lhA, ?_, rfl⟩
              show Value.int _ _ = _
              congr 1
              omega
      · first
        | (exfalso; exact cnA c8; done)
        | skip
          (try simp only [decide_eq_true_eq, decide_eq_false_iff_not, Bool.not_eq_true, Bool.not_eq_false, Bool.and_eq_true, Bool.or_eq_true, Bool.or_eq_false_iff, Bool.not_eq_true, Bool.not_eq_eq_eq_not, Bool.not_true, Bool.not_false] at c8)
          refine CW_skip ?_
          try simp only [Ex.thnH, Ex.inBlockH, ↓reduceIte, Nat.reduceEqDiff]
          refine hK18 _ _ ?_; try clear hK18 K18
          refine CW_seq (fun K26 hK26 => ?_)
          refine CW_seq (fun K27 hK27 => ?_)
          refine CW_region ?_
          refine OW_op rfl (lt_some (by decide)) (fun K hK r => ?_)
          simp only [x_move, ev, Env.get, Option.getD_some, ↓reduceIte, Nat.reduceEqDiff, NextH, Env.putO, Env.put, ↓reduceIte, Nat.reduceEqDiff, upd_upd, Int.reduceToNat]
          refine hK _ _ ?_; clear hK K
          refine OW_op rfl (lt_some (by decide)) (fun K hK r => ?_)
          simp (disch := (first | omega | decide)) only [x_bin, g_int, b_geq, dec_lt_t, dec_lt_f, dec_le_t, dec_le_f, dec_eq_t, dec_eq_f, Bool.not_true, Bool.not_false, ev, Env.get, Option.getD_some, ↓reduceIte, Nat.reduceEqDiff, NextH, Env.putO, Env.put, ↓reduceIte, Nat.reduceEqDiff, upd_upd, Int.reduceToNat]
          refine hK _ _ ?_; clear hK K
          refine OW_nil ?_
          try simp only [Ex.thnH, Ex.inBlockH, ↓reduceIte, Nat.reduceEqDiff]
          refine hK27 _ _ ?_; try clear hK27 K27
          refine CW_cond (fun r => rfl) (fun c14 => ?_) (fun c14 => ?_)
          · first
            | (exfalso; exact cnA c14; done)
            | skip
              (try simp only [decide_eq_true_eq, decide_eq_false_iff_not, Bool.not_eq_true, Bool.not_eq_false, Bool.and_eq_true, Bool.or_eq_true, Bool.or_eq_false_iff, Bool.not_eq_true, Bool.not_eq_eq_eq_not, Bool.not_true, Bool.not_false] at c14)
              have hL8 := bitLen_by 8 256 (by decide) c14
              refine CW_seq (fun K28 hK28 => ?_)
              refine CW_region ?_
              refine OW_op rfl (lt_some (by decide)) (fun K hK r => ?_)
              simp only [x_move, ev, Env.get, Option.getD_some, ↓reduceIte, Nat.reduceEqDiff, NextH, Env.putO, Env.put, ↓reduceIte, Nat.reduceEqDiff, upd_upd, Int.reduceToNat]
              refine hK _ _ ?_; clear hK K
              refine OW_op rfl (lt_some (by decide)) (fun K hK r => ?_)
              simp (disch := (first | omega | decide)) only [x_bin, g_int, b_shr, wrap_i64, wrap_u64, wrap_u32, wrap_u8, ev, Env.get, Option.getD_some, ↓reduceIte, Nat.reduceEqDiff, NextH, Env.putO, Env.put, ↓reduceIte, Nat.reduceEqDiff, upd_upd, Int.reduceToNat]
              rw [shr8]
              refine hK _ _ ?_; clear hK K
              refine OW_op rfl (lt_some (by decide)) (fun K hK r => ?_)
              simp only [x_assign, ev, Env.get, Option.getD_some, ↓reduceIte, Nat.reduceEqDiff, NextH, Env.putO, Env.put, ↓reduceIte, Nat.reduceEqDiff, upd_upd, Int.reduceToNat]
              refine hK _ _ ?_; clear hK K
              refine OW_nil ?_
              try simp only [Ex.thnH, Ex.inBlockH, ↓reduceIte, Nat.reduceEqDiff]
              refine hK28 _ _ ?_; try clear hK28 K28
              refine CW_region ?_
              refine OW_op rfl (lt_some (by decide)) (fun K hK r => ?_)
              simp only [x_move, ev, Env.get, Option.getD_some, ↓reduceIte, Nat.reduceEqDiff, NextH, Env.putO, Env.put, ↓reduceIte, Nat.reduceEqDiff, upd_upd, Int.reduceToNat]
              refine hK _ _ ?_; clear hK K
              refine OW_op rfl (lt_some (by decide)) (fun K hK r => ?_)
              simp (disch := (first | omega | decide)) only [x_bin, g_int, b_add, wrap_i64, wrap_u64, wrap_u32, wrap_u8, ev, Env.get, Option.getD_some, ↓reduceIte, Nat.reduceEqDiff, NextH, Env.putO, Env.put, ↓reduceIte, Nat.reduceEqDiff, upd_upd, Int.reduceToNat]
              refine hK _ _ ?_; clear hK K
              refine OW_op rfl (lt_some (by decide)) (fun K hK r => ?_)
              simp only [x_assign, ev, Env.get, Option.getD_some, ↓reduceIte, Nat.reduceEqDiff, NextH, Env.putO, Env.put, ↓reduceIte, Nat.reduceEqDiff, upd_upd, Int.reduceToNat]
              refine hK _ _ ?_; clear hK K
              refine OW_nil ?_
              try simp only [Ex.thnH, Ex.inBlockH, ↓reduceIte, Nat.reduceEqDiff]
              refine hK26 _ _ ?_; try clear hK26 K26
              refine CW_seq (fun K29 hK29 => ?_)
              refine CW_region ?_
              refine OW_op rfl (lt_some (by decide)) (fun K hK r => ?_)
              simp only [x_move, ev, Env.get, Option.getD_some, ↓reduceIte, Nat.reduceEqDiff, NextH, Env.putO, Env.put, ↓reduceIte, Nat.reduceEqDiff, upd_upd, Int.reduceToNat]
              refine hK _ _ ?_; clear hK K
              refine OW_op rfl (lt_some (by decide)) (fun K hK r => ?_)
              simp only [x_move, ev, Env.get, Option.getD_some, ↓reduceIte, Nat.reduceEqDiff, NextH, Env.putO, Env.put, ↓reduceIte, Nat.reduceEqDiff, upd_upd, Int.reduceToNat]
              refine hK _ _ ?_; clear hK K
              refine OW_op rfl (lt_some (by decide)) (fun K hK r => ?_)
              simp (disch := (first | omega | decide)) only [x_convert, c_int _ _ _ _ Try.underlying48 Try.underlying5, wrap_i64, wrap_u64, wrap_u32, wrap_u8, ev, Env.get, Option.getD_some, ↓reduceIte, Nat.reduceEqDiff, NextH, Env.putO, Env.put, ↓reduceIte, Nat.reduceEqDiff, upd_upd, Int.reduceToNat]
              refine hK _ _ ?_; clear hK K
              refine OW_op rfl (lt_some (by decide)) (fun K hK r => ?_)
              simp only [x_index, ev, Env.get, Option.getD_some, ↓reduceIte, Nat.reduceEqDiff, NextH, Env.putO, Env.put, ↓reduceIte, Nat.reduceEqDiff, upd_upd, Int.reduceToNat]
              refine Lt_len8 Try.underlying9 (by decide +kernel) (by omega) (by omega) ?_
              intro n hn hn0 hn8
              refine hK _ _ ?_; clear hK K
              refine OW_op rfl (lt_some (by decide)) (fun K hK r => ?_)
              simp (disch := (first | omega | decide)) only [x_convert, c_int _ _ _ _ Try.underlying5 Try.underlying3, wrap_i64, wrap_u64, wrap_u32, wrap_u8, ev, Env.get, Option.getD_some, ↓reduceIte, Nat.reduceEqDiff, NextH, Env.putO, Env.put, ↓reduceIte, Nat.reduceEqDiff, upd_upd, Int.reduceToNat]
              refine hK _ _ ?_; clear hK K
              refine OW_op rfl (lt_some (by decide)) (fun K hK r => ?_)
              simp (disch := (first | omega | decide)) only [x_bin, g_int, b_add, wrap_i64, wrap_u64, wrap_u32, wrap_u8, ev, Env.get, Option.getD_some, ↓reduceIte, Nat.reduceEqDiff, NextH, Env.putO, Env.put, ↓reduceIte, Nat.reduceEqDiff, upd_upd, Int.reduceToNat]
              refine hK _ _ ?_; clear hK K
              refine OW_op rfl (lt_some (by decide)) (fun K hK r => ?_)
              simp only [x_assign, ev, Env.get, Option.getD_some, ↓reduceIte, Nat.reduceEqDiff, NextH, Env.putO, Env.put, ↓reduceIte, Nat.reduceEqDiff, upd_upd, Int.reduceToNat]
              refine hK _ _ ?_; clear hK K
              refine OW_nil ?_
              try simp only [Ex.thnH, Ex.inBlockH, ↓reduceIte, Nat.reduceEqDiff]
              refine hK29 _ _ ?_; try clear hK29 K29
              refine CW_ret ?_
              try simp only [Ex.thnH, Ex.inBlockH, ↓reduceIte, Nat.reduceEqDiff]
              refine ⟨[_], ⟨rfl, trivial⟩, H, lhA, ?_, rfl⟩
              show Value.int _ _ = _
              congr 1
              omega
          · first
            | (exfalso; exact cnA c14; done)
            | skip
              (try simp only [decide_eq_true_eq, decide_eq_false_iff_not, Bool.not_eq_true, Bool.not_eq_false, Bool.and_eq_true, Bool.or_eq_true, Bool.or_eq_false_iff, Bool.not_eq_true, Bool.not_eq_eq_eq_not, Bool.not_true, Bool.not_false] at c14)
              refine CW_skip ?_
              try simp only [Ex.thnH, Ex.inBlockH, ↓reduceIte, Nat.reduceEqDiff]
              refine hK26 _ _ ?_; try clear hK26 K26
              refine CW_seq (fun K30 hK30 => ?_)
              refine CW_region ?_
              refine OW_op rfl (lt_some (by decide)) (fun K hK r => ?_)
              simp only [x_move, ev, Env.get, Option.getD_some, ↓reduceIte, Nat.reduceEqDiff, NextH, Env.putO, Env.put, ↓reduceIte, Nat.reduceEqDiff, upd_upd, Int.reduceToNat]
              refine hK _ _ ?_; clear hK K
              refine OW_op rfl (lt_some (by decide)) (fun K hK r => ?_)
              simp only [x_move, ev, Env.get, Option.getD_some, ↓reduceIte, Nat.reduceEqDiff, NextH, Env.putO, Env.put, ↓reduceIte, Nat.reduceEqDiff, upd_upd, Int.reduceToNat]
              refine hK _ _ ?_; clear hK K
              refine OW_op rfl (lt_some (by decide)) (fun K hK r => ?_)
              simp (disch := (first | omega | decide)) only [x_convert, c_int _ _ _ _ Try.underlying48 Try.underlying5, wrap_i64, wrap_u64, wrap_u32, wrap_u8, ev, Env.get, Option.getD_some, ↓reduceIte, Nat.reduceEqDiff, NextH, Env.putO, Env.put, ↓reduceIte, Nat.reduceEqDiff, upd_upd, Int.reduceToNat]
              refine hK _ _ ?_; clear hK K
              refine OW_op rfl (lt_some (by decide)) (fun K hK r => ?_)
              simp only [x_index, ev, Env.get, Option.getD_some, ↓reduceIte, Nat.reduceEqDiff, NextH, Env.putO, Env.put, ↓reduceIte, Nat.reduceEqDiff, upd_upd, Int.reduceToNat]
              refine Lt_len8 Try.underlying9 (by decide +kernel) (by omega) (by omega) ?_
              intro n hn hn0 hn8
              refine hK _ _ ?_; clear hK K
              refine OW_op rfl (lt_some (by decide)) (fun K hK r => ?_)
              simp (disch := (first | omega | decide)) only [x_convert, c_int _ _ _ _ Try.underlying5 Try.underlying3, wrap_i64, wrap_u64, wrap_u32, wrap_u8, ev, Env.get, Option.getD_some, ↓reduceIte, Nat.reduceEqDiff, NextH, Env.putO, Env.put, ↓reduceIte, Nat.reduceEqDiff, upd_upd, Int.reduceToNat]
              refine hK _ _ ?_; clear hK K
              refine OW_op rfl (lt_some (by decide)) (fun K hK r => ?_)
              simp (disch := (first | omega | decide)) only [x_bin, g_int, b_add, wrap_i64, wrap_u64, wrap_u32, wrap_u8, ev, Env.get, Option.getD_some, ↓reduceIte, Nat.reduceEqDiff, NextH, Env.putO, Env.put, ↓reduceIte, Nat.reduceEqDiff, upd_upd, Int.reduceToNat]
              refine hK _ _ ?_; clear hK K
              refine OW_op rfl (lt_some (by decide)) (fun K hK r => ?_)
              simp only [x_assign, ev, Env.get, Option.getD_some, ↓reduceIte, Nat.reduceEqDiff, NextH, Env.putO, Env.put, ↓reduceIte, Nat.reduceEqDiff, upd_upd, Int.reduceToNat]
              refine hK _ _ ?_; clear hK K
              refine OW_nil ?_
              try simp only [Ex.thnH, Ex.inBlockH, ↓reduceIte, Nat.reduceEqDiff]
              refine hK30 _ _ ?_; try clear hK30 K30
              refine CW_ret ?_
              try simp only [Ex.thnH, Ex.inBlockH, ↓reduceIte, Nat.reduceEqDiff]
              refine ⟨[_], ⟨rfl, trivial⟩, H, lhA, ?_, rfl⟩
              show Value.int _ _ = _
              congr 1
              omega


theorem len64_le {x : Int} (h0 : 0 ≤ x) (h1 : x < 18446744073709551616) : bitLen x.toNat ≤ 64 := by
  by_cases h : x = 0
  · subst h; decide
  · exact (norm_shift (by omega) h1).1

set_option maxRecDepth 100000 in
set_option maxHeartbeats 1000000 in
theorem lz64_ok (H : Hp) (x : Int) (h0 : 0 ≤ x) (h1 : x < 18446744073709551616) : CallH Try.prog 45 #[.int .u64 x] H (fun v H' => v = .int .i64 (64 - bitLen x.toNat) ∧ H' = H) := by
  refine CallH_enter (l := [_]) (rl := [.tmp 2]) (n := 6) Try.func45 rfl rfl rfl rfl rfl ?_
  simp only [envOf, Nat.reduceAdd]
  refine CW_seq (fun K1 hK1 => ?_)
  refine CW_region ?_
  refine OW_op rfl (lt_some (by decide)) (fun K hK r => ?_)
  simp only [x_assign, ev, Env.get, Option.getD_some, ↓reduceIte, Nat.reduceEqDiff, NextH, Env.putO, Env.put, ↓reduceIte, Nat.reduceEqDiff, upd_upd, Int.reduceToNat]
  refine hK _ _ ?_; clear hK K
  refine OW_nil ?_
  try simp only [Ex.thnH, Ex.inBlockH, ↓reduceIte, Nat.reduceEqDiff]
  refine hK1 _ _ ?_; try clear hK1 K1
  refine CW_seq (fun K2 hK2 => ?_)
  refine CW_region ?_
  refine OW_op rfl (lt_some (by decide)) (fun K hK r => ?_)
  simp only [x_move, ev, Env.get, Option.getD_some, ↓reduceIte, Nat.reduceEqDiff, NextH, Env.putO, Env.put, ↓reduceIte, Nat.reduceEqDiff, upd_upd, Int.reduceToNat]
  refine hK _ _ ?_; clear hK K
  refine OW_op rfl (lt_some (by decide)) (fun K hK r => ?_)
  simp only [x_callF _ bd47, List.map_toArray, List.map_cons, List.map_nil, ev, Env.get, Option.getD_some, ↓reduceIte, Nat.reduceEqDiff, NextH, Env.putO, Env.put, ↓reduceIte, Nat.reduceEqDiff, upd_upd, Int.reduceToNat]
  refine (len64_ok _ x h0 h1).mono ?_
  rintro v H' ⟨rfl, rfl⟩
  try simp only [ev, Env.get, Option.getD_some, ↓reduceIte, Nat.reduceEqDiff, NextH, Env.putO, Env.put, ↓reduceIte, Nat.reduceEqDiff, upd_upd, Int.reduceToNat]
  refine hK _ _ ?_; clear hK K
  refine OW_op rfl (lt_some (by decide)) (fun K hK r => ?_)
  simp (disch := (first | omega | decide)) only [x_bin, g_int, b_sub, wrap_i64, wrap_u64, wrap_u32, wrap_u8, ev, Env.get, Option.getD_some, ↓reduceIte, Nat.reduceEqDiff, NextH, Env.putO, Env.put, ↓reduceIte, Nat.reduceEqDiff, upd_upd, Int.reduceToNat]
  refine hK _ _ ?_; clear hK K
  refine OW_op rfl (lt_some (by decide)) (fun K hK r => ?_)
  simp only [x_assign, ev, Env.get, Option.getD_some, ↓reduceIte, Nat.reduceEqDiff, NextH, Env.putO, Env.put, ↓reduceIte, Nat.reduceEqDiff, upd_upd, Int.reduceToNat]
  refine hK _ _ ?_; clear hK K
  refine OW_nil ?_
  try simp only [Ex.thnH, Ex.inBlockH, ↓reduceIte, Nat.reduceEqDiff]
  refine hK2 _ _ ?_; try clear hK2 K2
  refine CW_ret ?_
  try simp only [Ex.thnH, Ex.inBlockH, ↓reduceIte, Nat.reduceEqDiff]
  have hb := len64_le h0 h1
  refine ⟨[_], ⟨rfl, trivial⟩, _, Le.refl _, ?_, rfl⟩
  show Value.int _ _ = _
  first | rfl | rw [wrap_i64 _ (by omega) (by omega)]

set_option maxRecDepth 100000 in
set_option maxHeartbeats 8000000 in
theorem div64_ok (H : Hp) (hi lo y : Int) (h0 : 0 ≤ hi) (h1 : hi < y) (l0 : 0 ≤ lo) (l1 : lo < 18446744073709551616) (y1 : y < 18446744073709551616) : CallH Try.prog 37 #[.int .u64 hi, .int .u64 lo, .int .u64 y] H (fun v H' => (∃ r, v = .tuple #[.int .u64 ((hi * 18446744073709551616 + lo) / y), .int .u64 r]) ∧ H' = H) := by
  refine CallH_enter (l := [_, _, _]) (rl := [.tmp 6, .tmp 7]) (n := 135) Try.func37 rfl rfl rfl rfl rfl ?_
  simp only [envOf, Nat.reduceAdd]
  refine CW_seq (fun K1 hK1 => ?_)
  refine CW_region ?_
  refine OW_op rfl (lt_some (by decide)) (fun K hK r => ?_)
  simp only [x_assign, ev, Env.get, Option.getD_some, ↓reduceIte, Nat.reduceEqDiff, NextH, Env.putO, Env.put, ↓reduceIte, Nat.reduceEqDiff, upd_upd, Int.reduceToNat]
  refine hK _ _ ?_; clear hK K
  refine OW_op rfl (lt_some (by decide)) (fun K hK r => ?_)
  simp only [x_assign, ev, Env.get, Option.getD_some, ↓reduceIte, Nat.reduceEqDiff, NextH, Env.putO, Env.put, ↓reduceIte, Nat.reduceEqDiff, upd_upd, Int.reduceToNat]
  refine hK _ _ ?_; clear hK K
  refine OW_nil ?_
  try simp only [Ex.thnH, Ex.inBlockH, ↓reduceIte, Nat.reduceEqDiff]
  refine hK1 _ _ ?_; try clear hK1 K1
  refine CW_seq (fun K2 hK2 => ?_)
  refine CW_seq (fun K3 hK3 => ?_)
  refine CW_region ?_
  refine OW_op rfl (lt_some (by decide)) (fun K hK r => ?_)
  simp only [x_move, ev, Env.get, Option.getD_some, ↓reduceIte, Nat.reduceEqDiff, NextH, Env.putO, Env.put, ↓reduceIte, Nat.reduceEqDiff, upd_upd, Int.reduceToNat]
  refine hK _ _ ?_; clear hK K
  refine OW_op rfl (lt_some (by decide)) (fun K hK r => ?_)
  simp (disch := (first | omega | decide)) only [x_bin, g_int, b_eql, dec_lt_t, dec_lt_f, dec_le_t, dec_le_f, dec_eq_t, dec_eq_f, Bool.not_true, Bool.not_false, ev, Env.get, Option.getD_some, ↓reduceIte, Nat.reduceEqDiff, NextH, Env.putO, Env.put, ↓reduceIte, Nat.reduceEqDiff, upd_upd, Int.reduceToNat]
  refine hK _ _ ?_; clear hK K
  refine OW_nil ?_
  try simp only [Ex.thnH, Ex.inBlockH, ↓reduceIte, Nat.reduceEqDiff]
  refine hK3 _ _ ?_; try clear hK3 K3
  refine CW_cond (fun r => rfl) (fun c20 => ?_) (fun c20 => ?_)
  · first
    | (exfalso; exact cnA c20; done)
    | skip
      (try simp only [decide_eq_true_eq, decide_eq_false_iff_not, Bool.not_eq_true, Bool.not_eq_false, Bool.and_eq_true, Bool.or_eq_true, Bool.or_eq_false_iff, Bool.not_eq_true, Bool.not_eq_eq_eq_not, Bool.not_true, Bool.not_false] at c20)
      refine CW_region ?_
      refine OW_op rfl (lt_some (by decide)) (fun K hK r => ?_)
      simp only [x_load, ev, Env.get, Option.getD_some, ↓reduceIte, Nat.reduceEqDiff, NextH, Env.putO, Env.put, ↓reduceIte, Nat.reduceEqDiff, upd_upd, Int.reduceToNat]
      refine Lt_loadAt1 Try.underlying29 rfl hbA ldA ?_
      try simp only [ev, Env.get, Option.getD_some, ↓reduceIte, Nat.reduceEqDiff, NextH, Env.putO, Env.put, ↓reduceIte, Nat.reduceEqDiff, upd_upd, Int.reduceToNat]
      refine hK _ _ ?_; clear hK K
      refine OW_op rfl (lt_none) (fun K hK r => ?_)
      simp only [x_panic, ev, Env.get, Option.getD_some, ↓reduceIte, Nat.reduceEqDiff, NextH, Env.putO, Env.put, ↓reduceIte, Nat.reduceEqDiff, upd_upd, Int.reduceToNat]
      sorry -- TODO panic slot None
  · first
    | (exfalso; exact cnA c20; done)
    | skip
      (try simp only [decide_eq_true_eq, decide_eq_false_iff_not, Bool.not_eq_true, Bool.not_eq_false, Bool.and_eq_true, Bool.or_eq_true, Bool.or_eq_false_iff, Bool.not_eq_true, Bool.not_eq_eq_eq_not, Bool.not_true, Bool.not_false] at c20)
      refine CW_skip ?_
      try simp only [Ex.thnH, Ex.inBlockH, ↓reduceIte, Nat.reduceEqDiff]
      refine hK2 _ _ ?_; try clear hK2 K2
      refine CW_seq (fun K4 hK4 => ?_)
      refine CW_seq (fun K5 hK5 => ?_)
      refine CW_region ?_
      refine OW_op rfl (lt_some (by decide)) (fun K hK r => ?_)
      simp only [x_move, ev, Env.get, Option.getD_some, ↓reduceIte, Nat.reduceEqDiff, NextH, Env.putO, Env.put, ↓reduceIte, Nat.reduceEqDiff, upd_upd, Int.reduceToNat]
      refine hK _ _ ?_; clear hK K
      refine OW_op rfl (lt_some (by decide)) (fun K hK r => ?_)
      simp only [x_move, ev, Env.get, Option.getD_some, ↓reduceIte, Nat.reduceEqDiff, NextH, Env.putO, Env.put, ↓reduceIte, Nat.reduceEqDiff, upd_upd, Int.reduceToNat]
      refine hK _ _ ?_; clear hK K
      refine OW_op rfl (lt_some (by decide)) (fun K hK r => ?_)
      simp (disch := (first | omega | decide)) only [x_bin, g_int, b_leq, dec_lt_t, dec_lt_f, dec_le_t, dec_le_f, dec_eq_t, dec_eq_f, Bool.not_true, Bool.not_false, ev, Env.get, Option.getD_some, ↓reduceIte, Nat.reduceEqDiff, NextH, Env.putO, Env.put, ↓reduceIte, Nat.reduceEqDiff, upd_upd, Int.reduceToNat]
      refine hK _ _ ?_; clear hK K
      refine OW_nil ?_
      try simp only [Ex.thnH, Ex.inBlockH, ↓reduceIte, Nat.reduceEqDiff]
      refine hK5 _ _ ?_; try clear hK5 K5
      refine CW_cond (fun r => rfl) (fun c24 => ?_) (fun c24 => ?_)
      · first
        | (exfalso; exact cnA c24; done)
        | skip
          (try simp only [decide_eq_true_eq, decide_eq_false_iff_not, Bool.not_eq_true, Bool.not_eq_false, Bool.and_eq_true, Bool.or_eq_true, Bool.or_eq_false_iff, Bool.not_eq_true, Bool.not_eq_eq_eq_not, Bool.not_true, Bool.not_false] at c24)
          refine CW_region ?_
          refine OW_op rfl (lt_some (by decide)) (fun K hK r => ?_)
          simp only [x_load, ev, Env.get, Option.getD_some, ↓reduceIte, Nat.reduceEqDiff, NextH, Env.putO, Env.put, ↓reduceIte, Nat.reduceEqDiff, upd_upd, Int.reduceToNat]
          refine Lt_loadAt1 Try.underlying29 rfl hbA ldA ?_
          try simp only [ev, Env.get, Option.getD_some, ↓reduceIte, Nat.reduceEqDiff, NextH, Env.putO, Env.put, ↓reduceIte, Nat.reduceEqDiff, upd_upd, Int.reduceToNat]
          refine hK _ _ ?_; clear hK K
          refine OW_op rfl (lt_none) (fun K hK r => ?_)
          simp only [x_panic, ev, Env.get, Option.getD_some, ↓reduceIte, Nat.reduceEqDiff, NextH, Env.putO, Env.put, ↓reduceIte, Nat.reduceEqDiff, upd_upd, Int.reduceToNat]
          sorry -- TODO panic slot None
      · first
        | (exfalso; exact cnA c24; done)
        | skip
          (try simp only [decide_eq_true_eq, decide_eq_false_iff_not, Bool.not_eq_true, Bool.not_eq_false, Bool.and_eq_true, Bool.or_eq_true, Bool.or_eq_false_iff, Bool.not_eq_true, Bool.not_eq_eq_eq_not, Bool.not_true, Bool.not_false] at c24)
          refine CW_skip ?_
          try simp only [Ex.thnH, Ex.inBlockH, ↓reduceIte, Nat.reduceEqDiff]
          refine hK4 _ _ ?_; try clear hK4 K4
          refine CW_seq (fun K6 hK6 => ?_)
          refine CW_seq (fun K7 hK7 => ?_)
          refine CW_region ?_
          refine OW_op rfl (lt_some (by decide)) (fun K hK r => ?_)
          simp only [x_move, ev, Env.get, Option.getD_some, ↓reduceIte, Nat.reduceEqDiff, NextH, Env.putO, Env.put, ↓reduceIte, Nat.reduceEqDiff, upd_upd, Int.reduceToNat]
          refine hK _ _ ?_; clear hK K
          refine OW_op rfl (lt_some (by decide)) (fun K hK r => ?_)
          simp (disch := (first | omega | decide)) only [x_bin, g_int, b_eql, dec_lt_t, dec_lt_f, dec_le_t, dec_le_f, dec_eq_t, dec_eq_f, Bool.not_true, Bool.not_false, ev, Env.get, Option.getD_some, ↓reduceIte, Nat.reduceEqDiff, NextH, Env.putO, Env.put, ↓reduceIte, Nat.reduceEqDiff, upd_upd, Int.reduceToNat]
          refine hK _ _ ?_; clear hK K
          refine OW_nil ?_
          try simp only [Ex.thnH, Ex.inBlockH, ↓reduceIte, Nat.reduceEqDiff]
          refine hK7 _ _ ?_; try clear hK7 K7
          refine CW_cond (fun r => rfl) (fun c27 => ?_) (fun c27 => ?_)
          · first
            | (exfalso; exact cnA c27; done)
            | skip
              (try simp only [decide_eq_true_eq, decide_eq_false_iff_not, Bool.not_eq_true, Bool.not_eq_false, Bool.and_eq_true, Bool.or_eq_true, Bool.or_eq_false_iff, Bool.not_eq_true, Bool.not_eq_eq_eq_not, Bool.not_true, Bool.not_false] at c27)
              refine CW_seq (fun K8 hK8 => ?_)
              refine CW_drawO [0, 0, 0, 0, 0, 0, 0, 0] [0, 1, 2, 3, 4, 5, 6, 7] emptyHp (by kernel_rfl) (by kernel_rfl) (le_empty _) ?_
              apply TW_pure rfl (lt_some (by decide)) rfl
              · intro r
                simp only [x_move, ev, Env.get, Option.getD_some, ↓reduceIte, Nat.reduceEqDiff]
                exact ⟨rfl, Le.refl _⟩
              simp only [NextH, Env.putO, Env.put, ↓reduceIte, Nat.reduceEqDiff, upd_upd, Int.reduceToNat]
              apply TW_pure rfl (lt_some (by decide)) rfl
              · intro r
                simp only [x_move, ev, Env.get, Option.getD_some, ↓reduceIte, Nat.reduceEqDiff]
                exact ⟨rfl, Le.refl _⟩
              simp only [NextH, Env.putO, Env.put, ↓reduceIte, Nat.reduceEqDiff, upd_upd, Int.reduceToNat]
              apply TW_pure rfl (lt_some (by decide)) rfl
              · intro r
                simp (disch := (first | omega | decide)) only [x_bin, g_int, b_quo, wrap_i64, wrap_u64, wrap_u32, wrap_u8, ev, Env.get, Option.getD_some, ↓reduceIte, Nat.reduceEqDiff]
                exact ⟨rfl, Le.refl _⟩
              simp only [NextH, Env.putO, Env.put, ↓reduceIte, Nat.reduceEqDiff, upd_upd, Int.reduceToNat]
              apply TW_pure rfl (lt_some (by decide)) rfl
              · intro r
                simp only [x_move, ev, Env.get, Option.getD_some, ↓reduceIte, Nat.reduceEqDiff]
                exact ⟨rfl, Le.refl _⟩
              simp only [NextH, Env.putO, Env.put, ↓reduceIte, Nat.reduceEqDiff, upd_upd, Int.reduceToNat]
              apply TW_pure rfl (lt_some (by decide)) rfl
              · intro r
                simp only [x_move, ev, Env.get, Option.getD_some, ↓reduceIte, Nat.reduceEqDiff]
                exact ⟨rfl, Le.refl _⟩
              simp only [NextH, Env.putO, Env.put, ↓reduceIte, Nat.reduceEqDiff, upd_upd, Int.reduceToNat]
              apply TW_pure rfl (lt_some (by decide)) rfl
              · intro r
                simp (disch := (first | omega | decide)) only [x_bin, g_int, b_rem, wrap_i64, wrap_u64, wrap_u32, wrap_u8, ev, Env.get, Option.getD_some, ↓reduceIte, Nat.reduceEqDiff]
                exact ⟨rfl, Le.refl _⟩
              simp only [NextH, Env.putO, Env.put, ↓reduceIte, Nat.reduceEqDiff, upd_upd, Int.reduceToNat]
              apply TW_pure rfl (lt_some (by decide)) rfl
              · intro r
                simp only [x_assign, ev, Env.get, Option.getD_some, ↓reduceIte, Nat.reduceEqDiff]
                exact ⟨rfl, Le.refl _⟩
              simp only [NextH, Env.putO, Env.put, ↓reduceIte, Nat.reduceEqDiff, upd_upd, Int.reduceToNat]
              apply TW_pure rfl (lt_some (by decide)) rfl
              · intro r
                simp only [x_assign, ev, Env.get, Option.getD_some, ↓reduceIte, Nat.reduceEqDiff]
                exact ⟨rfl, Le.refl _⟩
              simp only [NextH, Env.putO, Env.put, ↓reduceIte, Nat.reduceEqDiff, upd_upd, Int.reduceToNat]
              refine TW_nil ?_
              try simp only [Ex.thnH, Ex.inBlockH, ↓reduceIte, Nat.reduceEqDiff]
              refine hK8 _ _ ?_; try clear hK8 K8
              refine CW_ret ?_
              try simp only [Ex.thnH, Ex.inBlockH, ↓reduceIte, Nat.reduceEqDiff]
              refine ⟨[_, _], ⟨rfl, rfl, trivial⟩, _, Le.refl _, ⟨_, congrArg (fun z => Value.tuple #[.int .u64 z, .int .u64 _]) ?_⟩, rfl⟩
              have e0 : hi = 0 := by assumption
              rw [quo_u64 l0 l1 (by omega), e0]; simp
          · first
            | (exfalso; exact cnA c27; done)
            | skip
              (try simp only [decide_eq_true_eq, decide_eq_false_iff_not, Bool.not_eq_true, Bool.not_eq_false, Bool.and_eq_true, Bool.or_eq_true, Bool.or_eq_false_iff, Bool.not_eq_true, Bool.not_eq_eq_eq_not, Bool.not_true, Bool.not_false] at c27)
              refine CW_skip ?_
              try simp only [Ex.thnH, Ex.inBlockH, ↓reduceIte, Nat.reduceEqDiff]
              refine hK6 _ _ ?_; try clear hK6 K6
              refine CW_seq (fun K9 hK9 => ?_)
              refine CW_region ?_
              refine OW_op rfl (lt_some (by decide)) (fun K hK r => ?_)
              simp only [x_move, ev, Env.get, Option.getD_some, ↓reduceIte, Nat.reduceEqDiff, NextH, Env.putO, Env.put, ↓reduceIte, Nat.reduceEqDiff, upd_upd, Int.reduceToNat]
              refine hK _ _ ?_; clear hK K
              refine OW_op rfl (lt_some (by decide)) (fun K hK r => ?_)
              simp only [x_callF _ bd45, List.map_toArray, List.map_cons, List.map_nil, ev, Env.get, Option.getD_some, ↓reduceIte, Nat.reduceEqDiff, NextH, Env.putO, Env.put, ↓reduceIte, Nat.reduceEqDiff, upd_upd, Int.reduceToNat]
              refine (lz64_ok _ y (by omega) y1).mono ?_
              rintro v H' ⟨rfl, hH_⟩
              have hH_ := hH_.symm; subst hH_
              try simp only [ev, Env.get, Option.getD_some, ↓reduceIte, Nat.reduceEqDiff, NextH, Env.putO, Env.put, ↓reduceIte, Nat.reduceEqDiff, upd_upd, Int.reduceToNat]
              refine hK _ _ ?_; clear hK K
              refine OW_op rfl (lt_some (by decide)) (fun K hK r => ?_)
              simp (disch := (first | omega | decide)) only [x_convert, c_int _ _ _ _ Try.underlying3 Try.underlying34, wrap_i64, wrap_u64, wrap_u32, wrap_u8, ev, Env.get, Option.getD_some, ↓reduceIte, Nat.reduceEqDiff, NextH, Env.putO, Env.put, ↓reduceIte, Nat.reduceEqDiff, upd_upd, Int.reduceToNat]
              have hns := norm_shift (y := y) (by omega) y1
              rw [wrapU (by omega) (by omega)]
              obtain ⟨s, hs⟩ : ∃ s : Nat, s = 64 - bitLen y.toNat := ⟨_, rfl⟩
              have hs64 : s ≤ 64 := by omega
              have es : (64 - (bitLen y.toNat : Int)) = s := by omega
              rw [es]; rw [← hs] at hns
              have hlt := shl_lt (s := s) h1
              have hsl := shift_low hs64 l0 l1
              have hhi : 0 ≤ hi * 2 ^ s := Int.mul_nonneg h0 (Int.le_of_lt (Int.pow_pos (by omega)))
              refine hK _ _ ?_; clear hK K
              refine OW_op rfl (lt_some (by decide)) (fun K hK r => ?_)
              simp only [x_assign, ev, Env.get, Option.getD_some, ↓reduceIte, Nat.reduceEqDiff, NextH, Env.putO, Env.put, ↓reduceIte, Nat.reduceEqDiff, upd_upd, Int.reduceToNat]
              refine hK _ _ ?_; clear hK K
              refine OW_nil ?_
              try simp only [Ex.thnH, Ex.inBlockH, ↓reduceIte, Nat.reduceEqDiff]
              refine hK9 _ _ ?_; try clear hK9 K9
              refine CW_seq (fun K10 hK10 => ?_)
              refine CW_region ?_
              refine OW_op rfl (lt_some (by decide)) (fun K hK r => ?_)
              simp only [x_move, ev, Env.get, Option.getD_some, ↓reduceIte, Nat.reduceEqDiff, NextH, Env.putO, Env.put, ↓reduceIte, Nat.reduceEqDiff, upd_upd, Int.reduceToNat]
              refine hK _ _ ?_; clear hK K
              refine OW_op rfl (lt_some (by decide)) (fun K hK r => ?_)
              simp only [x_move, ev, Env.get, Option.getD_some, ↓reduceIte, Nat.reduceEqDiff, NextH, Env.putO, Env.put, ↓reduceIte, Nat.reduceEqDiff, upd_upd, Int.reduceToNat]
              refine hK _ _ ?_; clear hK K
              refine OW_op rfl (lt_some (by decide)) (fun K hK r => ?_)
              simp (disch := (first | omega | decide)) only [x_bin, g_int, b_shl, wrap_i64, wrap_u64, wrap_u32, wrap_u8, ev, Env.get, Option.getD_some, ↓reduceIte, Nat.reduceEqDiff, NextH, Env.putO, Env.put, ↓reduceIte, Nat.reduceEqDiff, upd_upd, Int.reduceToNat]
              rw [shlS hs64 (by omega) hns.2.2.2]
              obtain ⟨Y, hY⟩ : ∃ z, z = y * 2 ^ s := ⟨_, rfl⟩
              rw [← hY]
              have hY1 : 9223372036854775808 ≤ Y := by omega
              have hY2 : Y < 18446744073709551616 := by omega
              have hKN := kn_of hY1 hY2
              refine hK _ _ ?_; clear hK K
              refine OW_op rfl (lt_some (by decide)) (fun K hK r => ?_)
              simp only [x_assign, ev, Env.get, Option.getD_some, ↓reduceIte, Nat.reduceEqDiff, NextH, Env.putO, Env.put, ↓reduceIte, Nat.reduceEqDiff, upd_upd, Int.reduceToNat]
              refine hK _ _ ?_; clear hK K
              refine OW_nil ?_
              try simp only [Ex.thnH, Ex.inBlockH, ↓reduceIte, Nat.reduceEqDiff]
              refine hK10 _ _ ?_; try clear hK10 K10
              refine CW_seq (fun K11 hK11 => ?_)
              refine CW_region ?_
              refine OW_op rfl (lt_some (by decide)) (fun K hK r => ?_)
              simp only [x_move, ev, Env.get, Option.getD_some, ↓reduceIte, Nat.reduceEqDiff, NextH, Env.putO, Env.put, ↓reduceIte, Nat.reduceEqDiff, upd_upd, Int.reduceToNat]
              refine hK _ _ ?_; clear hK K
              refine OW_op rfl (lt_some (by decide)) (fun K hK r => ?_)
              simp (disch := (first | omega | decide)) only [x_bin, g_int, b_shr, wrap_i64, wrap_u64, wrap_u32, wrap_u8, ev, Env.get, Option.getD_some, ↓reduceIte, Nat.reduceEqDiff, NextH, Env.putO, Env.put, ↓reduceIte, Nat.reduceEqDiff, upd_upd, Int.reduceToNat]
              rw [shr32]
              obtain ⟨w1, hw1⟩ : ∃ z, z = Y / 4294967296 := ⟨_, rfl⟩
              rw [← hw1]
              rw [← hw1] at hKN
              refine hK _ _ ?_; clear hK K
              refine OW_op rfl (lt_some (by decide)) (fun K hK r => ?_)
              simp only [x_assign, ev, Env.get, Option.getD_some, ↓reduceIte, Nat.reduceEqDiff, NextH, Env.putO, Env.put, ↓reduceIte, Nat.reduceEqDiff, upd_upd, Int.reduceToNat]
              refine hK _ _ ?_; clear hK K
              refine OW_nil ?_
              try simp only [Ex.thnH, Ex.inBlockH, ↓reduceIte, Nat.reduceEqDiff]
              refine hK11 _ _ ?_; try clear hK11 K11
              refine CW_seq (fun K12 hK12 => ?_)
              refine CW_region ?_
              refine OW_op rfl (lt_some (by decide)) (fun K hK r => ?_)
              simp only [x_move, ev, Env.get, Option.getD_some, ↓reduceIte, Nat.reduceEqDiff, NextH, Env.putO, Env.put, ↓reduceIte, Nat.reduceEqDiff, upd_upd, Int.reduceToNat]
              refine hK _ _ ?_; clear hK K
              refine OW_op rfl (lt_some (by decide)) (fun K hK r => ?_)
              simp only [x_bin, g_int, b_and, ev, Env.get, Option.getD_some, ↓reduceIte, Nat.reduceEqDiff, NextH, Env.putO, Env.put, ↓reduceIte, Nat.reduceEqDiff, upd_upd, Int.reduceToNat]
              rw [and32 _ (by omega) (by omega)]
              obtain ⟨w0, hw0⟩ : ∃ z, z = Y % 4294967296 := ⟨_, rfl⟩
              rw [← hw0]
              rw [← hw0] at hKN
              refine hK _ _ ?_; clear hK K
              refine OW_op rfl (lt_some (by decide)) (fun K hK r => ?_)
              simp only [x_assign, ev, Env.get, Option.getD_some, ↓reduceIte, Nat.reduceEqDiff, NextH, Env.putO, Env.put, ↓reduceIte, Nat.reduceEqDiff, upd_upd, Int.reduceToNat]
              refine hK _ _ ?_; clear hK K
              refine OW_nil ?_
              try simp only [Ex.thnH, Ex.inBlockH, ↓reduceIte, Nat.reduceEqDiff]
              refine hK12 _ _ ?_; try clear hK12 K12
              refine CW_seq (fun K13 hK13 => ?_)
              refine CW_region ?_
              refine OW_op rfl (lt_some (by decide)) (fun K hK r => ?_)
              simp only [x_move, ev, Env.get, Option.getD_some, ↓reduceIte, Nat.reduceEqDiff, NextH, Env.putO, Env.put, ↓reduceIte, Nat.reduceEqDiff, upd_upd, Int.reduceToNat]
              refine hK _ _ ?_; clear hK K
              refine OW_op rfl (lt_some (by decide)) (fun K hK r => ?_)
              simp only [x_move, ev, Env.get, Option.getD_some, ↓reduceIte, Nat.reduceEqDiff, NextH, Env.putO, Env.put, ↓reduceIte, Nat.reduceEqDiff, upd_upd, Int.reduceToNat]
              refine hK _ _ ?_; clear hK K
              refine OW_op rfl (lt_some (by decide)) (fun K hK r => ?_)
              simp (disch := (first | omega | decide)) only [x_bin, g_int, b_shl, wrap_i64, wrap_u64, wrap_u32, wrap_u8, ev, Env.get, Option.getD_some, ↓reduceIte, Nat.reduceEqDiff, NextH, Env.putO, Env.put, ↓reduceIte, Nat.reduceEqDiff, upd_upd, Int.reduceToNat]
              rw [shlS hs64 h0 (by omega)]
              refine hK _ _ ?_; clear hK K
              refine OW_op rfl (lt_some (by decide)) (fun K hK r => ?_)
              simp only [x_move, ev, Env.get, Option.getD_some, ↓reduceIte, Nat.reduceEqDiff, NextH, Env.putO, Env.put, ↓reduceIte, Nat.reduceEqDiff, upd_upd, Int.reduceToNat]
              refine hK _ _ ?_; clear hK K
              refine OW_op rfl (lt_some (by decide)) (fun K hK r => ?_)
              simp only [x_move, ev, Env.get, Option.getD_some, ↓reduceIte, Nat.reduceEqDiff, NextH, Env.putO, Env.put, ↓reduceIte, Nat.reduceEqDiff, upd_upd, Int.reduceToNat]
              refine hK _ _ ?_; clear hK K
              refine OW_op rfl (lt_some (by decide)) (fun K hK r => ?_)
              simp (disch := (first | omega | decide)) only [x_bin, g_int, b_sub, wrap_i64, wrap_u64, wrap_u32, wrap_u8, ev, Env.get, Option.getD_some, ↓reduceIte, Nat.reduceEqDiff, NextH, Env.putO, Env.put, ↓reduceIte, Nat.reduceEqDiff, upd_upd, Int.reduceToNat]
              refine hK _ _ ?_; clear hK K
              refine OW_op rfl (lt_some (by decide)) (fun K hK r => ?_)
              simp (disch := (first | omega | decide)) only [x_bin, g_int, b_shr, wrap_i64, wrap_u64, wrap_u32, wrap_u8, ev, Env.get, Option.getD_some, ↓reduceIte, Nat.reduceEqDiff, NextH, Env.putO, Env.put, ↓reduceIte, Nat.reduceEqDiff, upd_upd, Int.reduceToNat]
              rw [shrS hs64]
              refine hK _ _ ?_; clear hK K
              refine OW_op rfl (lt_some (by decide)) (fun K hK r => ?_)
              simp only [x_bin, g_int, b_or, ev, Env.get, Option.getD_some, ↓reduceIte, Nat.reduceEqDiff, NextH, Env.putO, Env.put, ↓reduceIte, Nat.reduceEqDiff, upd_upd, Int.reduceToNat]
              rw [or_add hs64 h0 (by omega) hsl.1 hsl.2]
              obtain ⟨U, hU⟩ : ∃ z, z = hi * 2 ^ s + lo / 2 ^ (64 - s) := ⟨_, rfl⟩
              rw [← hU]
              have hU0 : 0 ≤ U := by omega
              have hU1 : U < Y := by omega
              refine hK _ _ ?_; clear hK K
              refine OW_op rfl (lt_some (by decide)) (fun K hK r => ?_)
              simp only [x_assign, ev, Env.get, Option.getD_some, ↓reduceIte, Nat.reduceEqDiff, NextH, Env.putO, Env.put, ↓reduceIte, Nat.reduceEqDiff, upd_upd, Int.reduceToNat]
              refine hK _ _ ?_; clear hK K
              refine OW_nil ?_
              try simp only [Ex.thnH, Ex.inBlockH, ↓reduceIte, Nat.reduceEqDiff]
              refine hK13 _ _ ?_; try clear hK13 K13
              refine CW_seq (fun K14 hK14 => ?_)
              refine CW_region ?_
              refine OW_op rfl (lt_some (by decide)) (fun K hK r => ?_)
              simp only [x_move, ev, Env.get, Option.getD_some, ↓reduceIte, Nat.reduceEqDiff, NextH, Env.putO, Env.put, ↓reduceIte, Nat.reduceEqDiff, upd_upd, Int.reduceToNat]
              refine hK _ _ ?_; clear hK K
              refine OW_op rfl (lt_some (by decide)) (fun K hK r => ?_)
              simp only [x_move, ev, Env.get, Option.getD_some, ↓reduceIte, Nat.reduceEqDiff, NextH, Env.putO, Env.put, ↓reduceIte, Nat.reduceEqDiff, upd_upd, Int.reduceToNat]
              refine hK _ _ ?_; clear hK K
              refine OW_op rfl (lt_some (by decide)) (fun K hK r => ?_)
              simp (disch := (first | omega | decide)) only [x_bin, g_int, b_shl, wrap_i64, wrap_u64, wrap_u32, wrap_u8, ev, Env.get, Option.getD_some, ↓reduceIte, Nat.reduceEqDiff, NextH, Env.putO, Env.put, ↓reduceIte, Nat.reduceEqDiff, upd_upd, Int.reduceToNat]
              rw [shlW hs64]
              obtain ⟨L, hL⟩ : ∃ z, z = lo * 2 ^ s % 18446744073709551616 := ⟨_, rfl⟩
              rw [← hL]
              have hL0 : 0 ≤ L ∧ L < 18446744073709551616 := by omega
              refine hK _ _ ?_; clear hK K
              refine OW_op rfl (lt_some (by decide)) (fun K hK r => ?_)
              simp only [x_assign, ev, Env.get, Option.getD_some, ↓reduceIte, Nat.reduceEqDiff, NextH, Env.putO, Env.put, ↓reduceIte, Nat.reduceEqDiff, upd_upd, Int.reduceToNat]
              refine hK _ _ ?_; clear hK K
              refine OW_nil ?_
              try simp only [Ex.thnH, Ex.inBlockH, ↓reduceIte, Nat.reduceEqDiff]
              refine hK14 _ _ ?_; try clear hK14 K14
              refine CW_seq (fun K15 hK15 => ?_)
              refine CW_region ?_
              refine OW_op rfl (lt_some (by decide)) (fun K hK r => ?_)
              simp only [x_move, ev, Env.get, Option.getD_some, ↓reduceIte, Nat.reduceEqDiff, NextH, Env.putO, Env.put, ↓reduceIte, Nat.reduceEqDiff, upd_upd, Int.reduceToNat]
              refine hK _ _ ?_; clear hK K
              refine OW_op rfl (lt_some (by decide)) (fun K hK r => ?_)
              simp (disch := (first | omega | decide)) only [x_bin, g_int, b_shr, wrap_i64, wrap_u64, wrap_u32, wrap_u8, ev, Env.get, Option.getD_some, ↓reduceIte, Nat.reduceEqDiff, NextH, Env.putO, Env.put, ↓reduceIte, Nat.reduceEqDiff, upd_upd, Int.reduceToNat]
              rw [shr32]
              obtain ⟨d1, hd1⟩ : ∃ z, z = L / 4294967296 := ⟨_, rfl⟩
              rw [← hd1]
              have hd10 : 0 ≤ d1 := by omega
              have hd11 : d1 < 4294967296 := by omega
              refine hK _ _ ?_; clear hK K
              refine OW_op rfl (lt_some (by decide)) (fun K hK r => ?_)
              simp only [x_assign, ev, Env.get, Option.getD_some, ↓reduceIte, Nat.reduceEqDiff, NextH, Env.putO, Env.put, ↓reduceIte, Nat.reduceEqDiff, upd_upd, Int.reduceToNat]
              refine hK _ _ ?_; clear hK K
              refine OW_nil ?_
              try simp only [Ex.thnH, Ex.inBlockH, ↓reduceIte, Nat.reduceEqDiff]
              refine hK15 _ _ ?_; try clear hK15 K15
              refine CW_seq (fun K16 hK16 => ?_)
              refine CW_region ?_
              refine OW_op rfl (lt_some (by decide)) (fun K hK r => ?_)
              simp only [x_move, ev, Env.get, Option.getD_some, ↓reduceIte, Nat.reduceEqDiff, NextH, Env.putO, Env.put, ↓reduceIte, Nat.reduceEqDiff, upd_upd, Int.reduceToNat]
              refine hK _ _ ?_; clear hK K
              refine OW_op rfl (lt_some (by decide)) (fun K hK r => ?_)
              simp only [x_bin, g_int, b_and, ev, Env.get, Option.getD_some, ↓reduceIte, Nat.reduceEqDiff, NextH, Env.putO, Env.put, ↓reduceIte, Nat.reduceEqDiff, upd_upd, Int.reduceToNat]
              rw [and32 _ (by omega) (by omega)]
              obtain ⟨d0, hd0⟩ : ∃ z, z = L % 4294967296 := ⟨_, rfl⟩
              rw [← hd0]
              have hd00 : 0 ≤ d0 := by omega
              have hd01 : d0 < 4294967296 := by omega
              have hk1 := hKN.2.1
              refine hK _ _ ?_; clear hK K
              refine OW_op rfl (lt_some (by decide)) (fun K hK r => ?_)
              simp only [x_assign, ev, Env.get, Option.getD_some, ↓reduceIte, Nat.reduceEqDiff, NextH, Env.putO, Env.put, ↓reduceIte, Nat.reduceEqDiff, upd_upd, Int.reduceToNat]
              refine hK _ _ ?_; clear hK K
              refine OW_nil ?_
              try simp only [Ex.thnH, Ex.inBlockH, ↓reduceIte, Nat.reduceEqDiff]
              refine hK16 _ _ ?_; try clear hK16 K16
              refine CW_seq (fun K17 hK17 => ?_)
              refine CW_region ?_
              refine OW_op rfl (lt_some (by decide)) (fun K hK r => ?_)
              simp only [x_move, ev, Env.get, Option.getD_some, ↓reduceIte, Nat.reduceEqDiff, NextH, Env.putO, Env.put, ↓reduceIte, Nat.reduceEqDiff, upd_upd, Int.reduceToNat]
              refine hK _ _ ?_; clear hK K
              refine OW_op rfl (lt_some (by decide)) (fun K hK r => ?_)
              simp only [x_move, ev, Env.get, Option.getD_some, ↓reduceIte, Nat.reduceEqDiff, NextH, Env.putO, Env.put, ↓reduceIte, Nat.reduceEqDiff, upd_upd, Int.reduceToNat]
              refine hK _ _ ?_; clear hK K
              refine OW_op rfl (lt_some (by decide)) (fun K hK r => ?_)
              simp (disch := (first | omega | decide)) only [x_bin, g_int, b_quo, wrap_i64, wrap_u64, wrap_u32, wrap_u8, ev, Env.get, Option.getD_some, ↓reduceIte, Nat.reduceEqDiff, NextH, Env.putO, Env.put, ↓reduceIte, Nat.reduceEqDiff, upd_upd, Int.reduceToNat]
              rw [quo_u64 hU0 (by omega) (by omega)]
              have ks15 := kn_start hKN hU0 hU1 hd10 hd11
              have hmn := Int.mul_nonneg ks15.1.2.2.2.2 (show 0 ≤ w1 by omega)
              have hrr := ks15.1.2.1
              refine hK _ _ ?_; clear hK K
              refine OW_op rfl (lt_some (by decide)) (fun K hK r => ?_)
              simp only [x_assign, ev, Env.get, Option.getD_some, ↓reduceIte, Nat.reduceEqDiff, NextH, Env.putO, Env.put, ↓reduceIte, Nat.reduceEqDiff, upd_upd, Int.reduceToNat]
              refine hK _ _ ?_; clear hK K
              refine OW_nil ?_
              try simp only [Ex.thnH, Ex.inBlockH, ↓reduceIte, Nat.reduceEqDiff]
              refine hK17 _ _ ?_; try clear hK17 K17
              refine CW_seq (fun K18 hK18 => ?_)
              refine CW_region ?_
              refine OW_op rfl (lt_some (by decide)) (fun K hK r => ?_)
              simp only [x_move, ev, Env.get, Option.getD_some, ↓reduceIte, Nat.reduceEqDiff, NextH, Env.putO, Env.put, ↓reduceIte, Nat.reduceEqDiff, upd_upd, Int.reduceToNat]
              refine hK _ _ ?_; clear hK K
              refine OW_op rfl (lt_some (by decide)) (fun K hK r => ?_)
              simp only [x_move, ev, Env.get, Option.getD_some, ↓reduceIte, Nat.reduceEqDiff, NextH, Env.putO, Env.put, ↓reduceIte, Nat.reduceEqDiff, upd_upd, Int.reduceToNat]
              refine hK _ _ ?_; clear hK K
              refine OW_op rfl (lt_some (by decide)) (fun K hK r => ?_)
              simp only [x_move, ev, Env.get, Option.getD_some, ↓reduceIte, Nat.reduceEqDiff, NextH, Env.putO, Env.put, ↓reduceIte, Nat.reduceEqDiff, upd_upd, Int.reduceToNat]
              refine hK _ _ ?_; clear hK K
              refine OW_op rfl (lt_some (by decide)) (fun K hK r => ?_)
              simp (disch := (first | omega | decide)) only [x_bin, g_int, b_mul, wrap_i64, wrap_u64, wrap_u32, wrap_u8, ev, Env.get, Option.getD_some, ↓reduceIte, Nat.reduceEqDiff, NextH, Env.putO, Env.put, ↓reduceIte, Nat.reduceEqDiff, upd_upd, Int.reduceToNat]
              try rw [wrapU hmn (by omega)]
              refine hK _ _ ?_; clear hK K
              refine OW_op rfl (lt_some (by decide)) (fun K hK r => ?_)
              simp (disch := (first | omega | decide)) only [x_bin, g_int, b_sub, wrap_i64, wrap_u64, wrap_u32, wrap_u8, ev, Env.get, Option.getD_some, ↓reduceIte, Nat.reduceEqDiff, NextH, Env.putO, Env.put, ↓reduceIte, Nat.reduceEqDiff, upd_upd, Int.reduceToNat]
              try rw [wrapU (by omega) (by omega)]
              refine hK _ _ ?_; clear hK K
              refine OW_op rfl (lt_some (by decide)) (fun K hK r => ?_)
              simp only [x_assign, ev, Env.get, Option.getD_some, ↓reduceIte, Nat.reduceEqDiff, NextH, Env.putO, Env.put, ↓reduceIte, Nat.reduceEqDiff, upd_upd, Int.reduceToNat]
              refine hK _ _ ?_; clear hK K
              refine OW_nil ?_
              try simp only [Ex.thnH, Ex.inBlockH, ↓reduceIte, Nat.reduceEqDiff]
              refine hK18 _ _ ?_; try clear hK18 K18
              refine CW_seq (fun K19 hK19 => ?_)
              refine CW_block ?_
              refine CW_loop (fun m e H_ => ∃ q r : Int, m = q.toNat ∧ KI Y w1 U d1 q r ∧ r < 4294967296 ∧ Env.has [(0, .int .u64 hi), (1, .int .u64 lo), (2, .int .u64 Y), (8, .int .u64 s), (9, .int .u64 w1), (10, .int .u64 w0), (11, .int .u64 U), (12, .int .u64 L), (13, .int .u64 d1), (14, .int .u64 d0), (15, .int .u64 q), (16, .int .u64 r)] e ∧ H_ = H) ((U / w1).toNat) ?_ ?_
              · skip
                refine ⟨_, _, rfl, ks15.1, ks15.2, ?_, rfl⟩
                exact ⟨rfl, rfl, rfl, rfl, rfl, rfl, rfl, rfl, rfl, rfl, rfl, rfl, trivial⟩
              intro m_ e_ H_ hI_
              obtain ⟨q, r, rfl, hI, hrB, he, hH_⟩ := hI_
              have hH_ := hH_.symm; subst hH_
              refine CW_env he.sub ?_; clear he e_
              have hI' := hI
              obtain ⟨i1, i2, i3, i4, i5⟩ := hI'
              have hw0 := hKN.2.2.2
              refine CW_seq (fun K20 hK20 => ?_)
              refine CW_seq (fun K21 hK21 => ?_)
              refine CW_region ?_
              refine OW_op rfl (lt_some (by decide)) (fun K hK r => ?_)
              simp only [x_move, ev, Env.get, Option.getD_some, ↓reduceIte, Nat.reduceEqDiff, NextH, Env.putO, Env.put, ↓reduceIte, Nat.reduceEqDiff, upd_upd, Int.reduceToNat]
              refine hK _ _ ?_; clear hK K
              refine OW_op rfl (lt_some (by decide)) (fun K hK r => ?_)
              simp (disch := (first | omega | decide)) only [x_bin, g_int, b_geq, dec_lt_t, dec_lt_f, dec_le_t, dec_le_f, dec_eq_t, dec_eq_f, Bool.not_true, Bool.not_false, ev, Env.get, Option.getD_some, ↓reduceIte, Nat.reduceEqDiff, NextH, Env.putO, Env.put, ↓reduceIte, Nat.reduceEqDiff, upd_upd, Int.reduceToNat]
              refine hK _ _ ?_; clear hK K
              refine OW_op rfl (lt_some (by decide)) (fun K hK r => ?_)
              simp only [x_move, ev, Env.get, Option.getD_some, ↓reduceIte, Nat.reduceEqDiff, NextH, Env.putO, Env.put, ↓reduceIte, Nat.reduceEqDiff, upd_upd, Int.reduceToNat]
              refine hK _ _ ?_; clear hK K
              (first | refine OW_split (d := 69) rfl (fun g69 => ?_) (fun g69 => ?_) | skip)
              all_goals try (exfalso; exact cnA g69)
              all_goals (try simp only [decide_eq_true_eq, decide_eq_false_iff_not, Bool.not_eq_true, Bool.not_eq_false, Bool.and_eq_true, Bool.or_eq_true, Bool.or_eq_false_iff, Bool.not_eq_true, Bool.not_eq_eq_eq_not, Bool.not_true, Bool.not_false] at g69)
              all_goals
                try simp only [NextH, Env.putO, Env.put, ↓reduceIte, Nat.reduceEqDiff, upd_upd, Int.reduceToNat]
                first
                | refine OW_guardT rfl (lt_some (by decide)) rfl (fun K hK r => ?_)
                  simp only [x_move, ev, Env.get, Option.getD_some, ↓reduceIte, Nat.reduceEqDiff, NextH, Env.putO, Env.put, ↓reduceIte, Nat.reduceEqDiff, upd_upd, Int.reduceToNat]
                  refine hK _ _ ?_; clear hK K
                | refine OW_guardF rfl (lt_some (by decide)) rfl ?_
                  simp only [NextH, Env.putO, Env.put, ↓reduceIte, Nat.reduceEqDiff, upd_upd, Int.reduceToNat]
                first
                | refine OW_guardT rfl (lt_some (by decide)) rfl (fun K hK r => ?_)
                  simp only [x_move, ev, Env.get, Option.getD_some, ↓reduceIte, Nat.reduceEqDiff, NextH, Env.putO, Env.put, ↓reduceIte, Nat.reduceEqDiff, upd_upd, Int.reduceToNat]
                  refine hK _ _ ?_; clear hK K
                | refine OW_guardF rfl (lt_some (by decide)) rfl ?_
                  simp only [NextH, Env.putO, Env.put, ↓reduceIte, Nat.reduceEqDiff, upd_upd, Int.reduceToNat]
                first
                | refine OW_guardT rfl (lt_some (by decide)) rfl (fun K hK r => ?_)
                  simp (disch := (first | omega | decide)) only [x_bin, g_int, b_mul, wrap_i64, wrap_u64, wrap_u32, wrap_u8, ev, Env.get, Option.getD_some, ↓reduceIte, Nat.reduceEqDiff, NextH, Env.putO, Env.put, ↓reduceIte, Nat.reduceEqDiff, upd_upd, Int.reduceToNat]
                  have hpb := prod_bound q w0 i5 (by omega) (by omega) (by omega)
                  try rw [wrapU hpb.1 (by omega)]
                  refine hK _ _ ?_; clear hK K
                | refine OW_guardF rfl (lt_some (by decide)) rfl ?_
                  simp only [NextH, Env.putO, Env.put, ↓reduceIte, Nat.reduceEqDiff, upd_upd, Int.reduceToNat]
                first
                | refine OW_guardT rfl (lt_some (by decide)) rfl (fun K hK r => ?_)
                  simp only [x_move, ev, Env.get, Option.getD_some, ↓reduceIte, Nat.reduceEqDiff, NextH, Env.putO, Env.put, ↓reduceIte, Nat.reduceEqDiff, upd_upd, Int.reduceToNat]
                  refine hK _ _ ?_; clear hK K
                | refine OW_guardF rfl (lt_some (by decide)) rfl ?_
                  simp only [NextH, Env.putO, Env.put, ↓reduceIte, Nat.reduceEqDiff, upd_upd, Int.reduceToNat]
                first
                | refine OW_guardT rfl (lt_some (by decide)) rfl (fun K hK r => ?_)
                  simp (disch := (first | omega | decide)) only [x_bin, g_int, b_mul, wrap_i64, wrap_u64, wrap_u32, wrap_u8, ev, Env.get, Option.getD_some, ↓reduceIte, Nat.reduceEqDiff, NextH, Env.putO, Env.put, ↓reduceIte, Nat.reduceEqDiff, upd_upd, Int.reduceToNat]
                  refine hK _ _ ?_; clear hK K
                | refine OW_guardF rfl (lt_some (by decide)) rfl ?_
                  simp only [NextH, Env.putO, Env.put, ↓reduceIte, Nat.reduceEqDiff, upd_upd, Int.reduceToNat]
                first
                | refine OW_guardT rfl (lt_some (by decide)) rfl (fun K hK r => ?_)
                  simp only [x_move, ev, Env.get, Option.getD_some, ↓reduceIte, Nat.reduceEqDiff, NextH, Env.putO, Env.put, ↓reduceIte, Nat.reduceEqDiff, upd_upd, Int.reduceToNat]
                  refine hK _ _ ?_; clear hK K
                | refine OW_guardF rfl (lt_some (by decide)) rfl ?_
                  simp only [NextH, Env.putO, Env.put, ↓reduceIte, Nat.reduceEqDiff, upd_upd, Int.reduceToNat]
                first
                | refine OW_guardT rfl (lt_some (by decide)) rfl (fun K hK r => ?_)
                  simp (disch := (first | omega | decide)) only [x_bin, g_int, b_add, wrap_i64, wrap_u64, wrap_u32, wrap_u8, ev, Env.get, Option.getD_some, ↓reduceIte, Nat.reduceEqDiff, NextH, Env.putO, Env.put, ↓reduceIte, Nat.reduceEqDiff, upd_upd, Int.reduceToNat]
                  refine hK _ _ ?_; clear hK K
                | refine OW_guardF rfl (lt_some (by decide)) rfl ?_
                  simp only [NextH, Env.putO, Env.put, ↓reduceIte, Nat.reduceEqDiff, upd_upd, Int.reduceToNat]
                first
                | refine OW_guardT rfl (lt_some (by decide)) rfl (fun K hK r => ?_)
                  simp (disch := (first | omega | decide)) only [x_bin, g_int, b_gtr, dec_lt_t, dec_lt_f, dec_le_t, dec_le_f, dec_eq_t, dec_eq_f, Bool.not_true, Bool.not_false, ev, Env.get, Option.getD_some, ↓reduceIte, Nat.reduceEqDiff, NextH, Env.putO, Env.put, ↓reduceIte, Nat.reduceEqDiff, upd_upd, Int.reduceToNat]
                  refine hK _ _ ?_; clear hK K
                | refine OW_guardF rfl (lt_some (by decide)) rfl ?_
                  simp only [NextH, Env.putO, Env.put, ↓reduceIte, Nat.reduceEqDiff, upd_upd, Int.reduceToNat]
                refine OW_op rfl (lt_some (by decide)) (fun K hK r => ?_)
                simp only [x_pick, l_asBool, HL.ite_bool, if_true, if_false, Bool.false_eq_true, ev, Env.get, Option.getD_some, ↓reduceIte, Nat.reduceEqDiff, NextH, Env.putO, Env.put, ↓reduceIte, Nat.reduceEqDiff, upd_upd, Int.reduceToNat]
                refine hK _ _ ?_; clear hK K
                refine OW_nil ?_
                try simp only [Ex.thnH, Ex.inBlockH, ↓reduceIte, Nat.reduceEqDiff]
                refine hK21 _ _ ?_; try clear hK21 K21
                refine CW_cond (fun r => rfl) (fun c78 => ?_) (fun c78 => ?_)
                · first
                  | (exfalso; exact cnA c78; done)
                  | skip
                    (try simp only [decide_eq_true_eq, decide_eq_false_iff_not, Bool.not_eq_true, Bool.not_eq_false, Bool.and_eq_true, Bool.or_eq_true, Bool.or_eq_false_iff, Bool.not_eq_true, Bool.not_eq_eq_eq_not, Bool.not_true, Bool.not_false] at c78)
                    have hm := kn_more hKN hU0 hU1 hd10 hd11 hI (by first | (left; omega) | (right; omega))
                    refine CW_skip ?_
                    try simp only [Ex.thnH, Ex.inBlockH, ↓reduceIte, Nat.reduceEqDiff]
                    refine hK20 _ _ ?_; try clear hK20 K20
                    refine CW_block ?_
                    refine CW_seq (fun K22 hK22 => ?_)
                    refine CW_region ?_
                    refine OW_op rfl (lt_some (by decide)) (fun K hK r => ?_)
                    simp only [x_move, ev, Env.get, Option.getD_some, ↓reduceIte, Nat.reduceEqDiff, NextH, Env.putO, Env.put, ↓reduceIte, Nat.reduceEqDiff, upd_upd, Int.reduceToNat]
                    refine hK _ _ ?_; clear hK K
                    refine OW_op rfl (lt_some (by decide)) (fun K hK r => ?_)
                    simp (disch := (first | omega | decide)) only [x_bin, g_int, b_sub, wrap_i64, wrap_u64, wrap_u32, wrap_u8, ev, Env.get, Option.getD_some, ↓reduceIte, Nat.reduceEqDiff, NextH, Env.putO, Env.put, ↓reduceIte, Nat.reduceEqDiff, upd_upd, Int.reduceToNat]
                    refine hK _ _ ?_; clear hK K
                    refine OW_op rfl (lt_some (by decide)) (fun K hK r => ?_)
                    simp only [x_assign, ev, Env.get, Option.getD_some, ↓reduceIte, Nat.reduceEqDiff, NextH, Env.putO, Env.put, ↓reduceIte, Nat.reduceEqDiff, upd_upd, Int.reduceToNat]
                    refine hK _ _ ?_; clear hK K
                    refine OW_nil ?_
                    try simp only [Ex.thnH, Ex.inBlockH, ↓reduceIte, Nat.reduceEqDiff]
                    refine hK22 _ _ ?_; try clear hK22 K22
                    refine CW_seq (fun K23 hK23 => ?_)
                    refine CW_region ?_
                    refine OW_op rfl (lt_some (by decide)) (fun K hK r => ?_)
                    simp only [x_move, ev, Env.get, Option.getD_some, ↓reduceIte, Nat.reduceEqDiff, NextH, Env.putO, Env.put, ↓reduceIte, Nat.reduceEqDiff, upd_upd, Int.reduceToNat]
                    refine hK _ _ ?_; clear hK K
                    refine OW_op rfl (lt_some (by decide)) (fun K hK r => ?_)
                    simp only [x_move, ev, Env.get, Option.getD_some, ↓reduceIte, Nat.reduceEqDiff, NextH, Env.putO, Env.put, ↓reduceIte, Nat.reduceEqDiff, upd_upd, Int.reduceToNat]
                    refine hK _ _ ?_; clear hK K
                    refine OW_op rfl (lt_some (by decide)) (fun K hK r => ?_)
                    simp (disch := (first | omega | decide)) only [x_bin, g_int, b_add, wrap_i64, wrap_u64, wrap_u32, wrap_u8, ev, Env.get, Option.getD_some, ↓reduceIte, Nat.reduceEqDiff, NextH, Env.putO, Env.put, ↓reduceIte, Nat.reduceEqDiff, upd_upd, Int.reduceToNat]
                    refine hK _ _ ?_; clear hK K
                    refine OW_op rfl (lt_some (by decide)) (fun K hK r => ?_)
                    simp only [x_assign, ev, Env.get, Option.getD_some, ↓reduceIte, Nat.reduceEqDiff, NextH, Env.putO, Env.put, ↓reduceIte, Nat.reduceEqDiff, upd_upd, Int.reduceToNat]
                    refine hK _ _ ?_; clear hK K
                    refine OW_nil ?_
                    try simp only [Ex.thnH, Ex.inBlockH, ↓reduceIte, Nat.reduceEqDiff]
                    refine hK23 _ _ ?_; try clear hK23 K23
                    refine CW_seq (fun K24 hK24 => ?_)
                    refine CW_region ?_
                    refine OW_op rfl (lt_some (by decide)) (fun K hK r => ?_)
                    simp only [x_move, ev, Env.get, Option.getD_some, ↓reduceIte, Nat.reduceEqDiff, NextH, Env.putO, Env.put, ↓reduceIte, Nat.reduceEqDiff, upd_upd, Int.reduceToNat]
                    refine hK _ _ ?_; clear hK K
                    refine OW_op rfl (lt_some (by decide)) (fun K hK r => ?_)
                    simp (disch := (first | omega | decide)) only [x_bin, g_int, b_geq, dec_lt_t, dec_lt_f, dec_le_t, dec_le_f, dec_eq_t, dec_eq_f, Bool.not_true, Bool.not_false, ev, Env.get, Option.getD_some, ↓reduceIte, Nat.reduceEqDiff, NextH, Env.putO, Env.put, ↓reduceIte, Nat.reduceEqDiff, upd_upd, Int.reduceToNat]
                    refine hK _ _ ?_; clear hK K
                    refine OW_nil ?_
                    try simp only [Ex.thnH, Ex.inBlockH, ↓reduceIte, Nat.reduceEqDiff]
                    refine hK24 _ _ ?_; try clear hK24 K24
                    refine CW_cond (fun r => rfl) (fun c85 => ?_) (fun c85 => ?_)
                    · first
                      | (exfalso; exact cnA c85; done)
                      | skip
                        (try simp only [decide_eq_true_eq, decide_eq_false_iff_not, Bool.not_eq_true, Bool.not_eq_false, Bool.and_eq_true, Bool.or_eq_true, Bool.or_eq_false_iff, Bool.not_eq_true, Bool.not_eq_eq_eq_not, Bool.not_true, Bool.not_false] at c85)
                        have hq := kn_out2 hKN hd10 hm.1 hm.2.1 (by omega)
                        refine CW_exit ?_
                        try simp only [Ex.thnH, Ex.inBlockH, ↓reduceIte, Nat.reduceEqDiff]
                        refine hK19 _ _ ?_; try clear hK19 K19
                        refine CW_seq (fun K25 hK25 => ?_)
                        refine CW_region ?_
                        refine OW_op rfl (lt_some (by decide)) (fun K hK r => ?_)
                        simp only [x_move, ev, Env.get, Option.getD_some, ↓reduceIte, Nat.reduceEqDiff, NextH, Env.putO, Env.put, ↓reduceIte, Nat.reduceEqDiff, upd_upd, Int.reduceToNat]
                        refine hK _ _ ?_; clear hK K
                        refine OW_op rfl (lt_some (by decide)) (fun K hK r => ?_)
                        simp (disch := (first | omega | decide)) only [x_bin, g_int, b_mul, wrap_i64, wrap_u64, wrap_u32, wrap_u8, ev, Env.get, Option.getD_some, ↓reduceIte, Nat.reduceEqDiff, NextH, Env.putO, Env.put, ↓reduceIte, Nat.reduceEqDiff, upd_upd, Int.reduceToNat]
                        refine hK _ _ ?_; clear hK K
                        refine OW_op rfl (lt_some (by decide)) (fun K hK r => ?_)
                        simp only [x_move, ev, Env.get, Option.getD_some, ↓reduceIte, Nat.reduceEqDiff, NextH, Env.putO, Env.put, ↓reduceIte, Nat.reduceEqDiff, upd_upd, Int.reduceToNat]
                        refine hK _ _ ?_; clear hK K
                        refine OW_op rfl (lt_some (by decide)) (fun K hK r => ?_)
                        simp (disch := (first | omega | decide)) only [x_bin, g_int, b_add, wrap_i64, wrap_u64, wrap_u32, wrap_u8, ev, Env.get, Option.getD_some, ↓reduceIte, Nat.reduceEqDiff, NextH, Env.putO, Env.put, ↓reduceIte, Nat.reduceEqDiff, upd_upd, Int.reduceToNat]
                        obtain ⟨Q1, hQ1⟩ : ∃ z, z = (U * 4294967296 + d1) / Y := ⟨_, rfl⟩
                        rw [hq, ← hQ1]
                        have kr := kn_rest (u := U) (d := d1) hKN
                        have kq := kn_q hKN hU0 hU1 hd10 hd11
                        rw [← hQ1] at kr kq
                        clear hq
                        refine hK _ _ ?_; clear hK K
                        refine OW_op rfl (lt_some (by decide)) (fun K hK r => ?_)
                        simp only [x_move, ev, Env.get, Option.getD_some, ↓reduceIte, Nat.reduceEqDiff, NextH, Env.putO, Env.put, ↓reduceIte, Nat.reduceEqDiff, upd_upd, Int.reduceToNat]
                        refine hK _ _ ?_; clear hK K
                        refine OW_op rfl (lt_some (by decide)) (fun K hK r => ?_)
                        simp only [x_move, ev, Env.get, Option.getD_some, ↓reduceIte, Nat.reduceEqDiff, NextH, Env.putO, Env.put, ↓reduceIte, Nat.reduceEqDiff, upd_upd, Int.reduceToNat]
                        refine hK _ _ ?_; clear hK K
                        refine OW_op rfl (lt_some (by decide)) (fun K hK r => ?_)
                        simp (disch := (first | omega | decide)) only [x_bin, g_int, b_mul, wrap_i64, wrap_u64, wrap_u32, wrap_u8, ev, Env.get, Option.getD_some, ↓reduceIte, Nat.reduceEqDiff, NextH, Env.putO, Env.put, ↓reduceIte, Nat.reduceEqDiff, upd_upd, Int.reduceToNat]
                        refine hK _ _ ?_; clear hK K
                        refine OW_op rfl (lt_some (by decide)) (fun K hK r => ?_)
                        simp (disch := (first | omega | decide)) only [x_bin, g_int, b_sub, wrap_i64, wrap_u64, wrap_u32, wrap_u8, ev, Env.get, Option.getD_some, ↓reduceIte, Nat.reduceEqDiff, NextH, Env.putO, Env.put, ↓reduceIte, Nat.reduceEqDiff, upd_upd, Int.reduceToNat]
                        rw [wrap_rest (x := U * 4294967296 + d1) (by omega) (by omega) U d1 rfl]
                        obtain ⟨V, hV⟩ : ∃ z, z = U * 4294967296 + d1 - Q1 * Y := ⟨_, rfl⟩
                        rw [← hV]
                        have hV0 : 0 ≤ V := by omega
                        have hV1 : V < Y := by omega
                        have hk1 := hKN.2.1
                        refine hK _ _ ?_; clear hK K
                        refine OW_op rfl (lt_some (by decide)) (fun K hK r => ?_)
                        simp only [x_assign, ev, Env.get, Option.getD_some, ↓reduceIte, Nat.reduceEqDiff, NextH, Env.putO, Env.put, ↓reduceIte, Nat.reduceEqDiff, upd_upd, Int.reduceToNat]
                        refine hK _ _ ?_; clear hK K
                        refine OW_nil ?_
                        try simp only [Ex.thnH, Ex.inBlockH, ↓reduceIte, Nat.reduceEqDiff]
                        refine hK25 _ _ ?_; try clear hK25 K25
                        refine CW_seq (fun K26 hK26 => ?_)
                        refine CW_region ?_
                        refine OW_op rfl (lt_some (by decide)) (fun K hK r => ?_)
                        simp only [x_move, ev, Env.get, Option.getD_some, ↓reduceIte, Nat.reduceEqDiff, NextH, Env.putO, Env.put, ↓reduceIte, Nat.reduceEqDiff, upd_upd, Int.reduceToNat]
                        refine hK _ _ ?_; clear hK K
                        refine OW_op rfl (lt_some (by decide)) (fun K hK r => ?_)
                        simp only [x_move, ev, Env.get, Option.getD_some, ↓reduceIte, Nat.reduceEqDiff, NextH, Env.putO, Env.put, ↓reduceIte, Nat.reduceEqDiff, upd_upd, Int.reduceToNat]
                        refine hK _ _ ?_; clear hK K
                        refine OW_op rfl (lt_some (by decide)) (fun K hK r => ?_)
                        simp (disch := (first | omega | decide)) only [x_bin, g_int, b_quo, wrap_i64, wrap_u64, wrap_u32, wrap_u8, ev, Env.get, Option.getD_some, ↓reduceIte, Nat.reduceEqDiff, NextH, Env.putO, Env.put, ↓reduceIte, Nat.reduceEqDiff, upd_upd, Int.reduceToNat]
                        rw [quo_u64 hV0 (by omega) (by omega)]
                        have ks18 := kn_start hKN hV0 hV1 hd00 hd01
                        have hmn2 := Int.mul_nonneg ks18.1.2.2.2.2 (show 0 ≤ w1 by omega)
                        have hrr2 := ks18.1.2.1
                        refine hK _ _ ?_; clear hK K
                        refine OW_op rfl (lt_some (by decide)) (fun K hK r => ?_)
                        simp only [x_assign, ev, Env.get, Option.getD_some, ↓reduceIte, Nat.reduceEqDiff, NextH, Env.putO, Env.put, ↓reduceIte, Nat.reduceEqDiff, upd_upd, Int.reduceToNat]
                        refine hK _ _ ?_; clear hK K
                        refine OW_nil ?_
                        try simp only [Ex.thnH, Ex.inBlockH, ↓reduceIte, Nat.reduceEqDiff]
                        refine hK26 _ _ ?_; try clear hK26 K26
                        refine CW_seq (fun K27 hK27 => ?_)
                        refine CW_region ?_
                        refine OW_op rfl (lt_some (by decide)) (fun K hK r => ?_)
                        simp only [x_move, ev, Env.get, Option.getD_some, ↓reduceIte, Nat.reduceEqDiff, NextH, Env.putO, Env.put, ↓reduceIte, Nat.reduceEqDiff, upd_upd, Int.reduceToNat]
                        refine hK _ _ ?_; clear hK K
                        refine OW_op rfl (lt_some (by decide)) (fun K hK r => ?_)
                        simp only [x_move, ev, Env.get, Option.getD_some, ↓reduceIte, Nat.reduceEqDiff, NextH, Env.putO, Env.put, ↓reduceIte, Nat.reduceEqDiff, upd_upd, Int.reduceToNat]
                        refine hK _ _ ?_; clear hK K
                        refine OW_op rfl (lt_some (by decide)) (fun K hK r => ?_)
                        simp only [x_move, ev, Env.get, Option.getD_some, ↓reduceIte, Nat.reduceEqDiff, NextH, Env.putO, Env.put, ↓reduceIte, Nat.reduceEqDiff, upd_upd, Int.reduceToNat]
                        refine hK _ _ ?_; clear hK K
                        refine OW_op rfl (lt_some (by decide)) (fun K hK r => ?_)
                        simp (disch := (first | omega | decide)) only [x_bin, g_int, b_mul, wrap_i64, wrap_u64, wrap_u32, wrap_u8, ev, Env.get, Option.getD_some, ↓reduceIte, Nat.reduceEqDiff, NextH, Env.putO, Env.put, ↓reduceIte, Nat.reduceEqDiff, upd_upd, Int.reduceToNat]
                        try rw [wrapU hmn2 (by omega)]
                        refine hK _ _ ?_; clear hK K
                        refine OW_op rfl (lt_some (by decide)) (fun K hK r => ?_)
                        simp (disch := (first | omega | decide)) only [x_bin, g_int, b_sub, wrap_i64, wrap_u64, wrap_u32, wrap_u8, ev, Env.get, Option.getD_some, ↓reduceIte, Nat.reduceEqDiff, NextH, Env.putO, Env.put, ↓reduceIte, Nat.reduceEqDiff, upd_upd, Int.reduceToNat]
                        try rw [wrapU (by omega) (by omega)]
                        refine hK _ _ ?_; clear hK K
                        refine OW_op rfl (lt_some (by decide)) (fun K hK r => ?_)
                        simp only [x_assign, ev, Env.get, Option.getD_some, ↓reduceIte, Nat.reduceEqDiff, NextH, Env.putO, Env.put, ↓reduceIte, Nat.reduceEqDiff, upd_upd, Int.reduceToNat]
                        refine hK _ _ ?_; clear hK K
                        refine OW_nil ?_
                        try simp only [Ex.thnH, Ex.inBlockH, ↓reduceIte, Nat.reduceEqDiff]
                        refine hK27 _ _ ?_; try clear hK27 K27
                        refine CW_seq (fun K28 hK28 => ?_)
                        refine CW_block ?_
                        refine CW_loop (fun m e H_ => ∃ q r : Int, m = q.toNat ∧ KI Y w1 V d0 q r ∧ r < 4294967296 ∧ Env.has [(2, .int .u64 Y), (8, .int .u64 s), (9, .int .u64 w1), (10, .int .u64 w0), (14, .int .u64 d0), (15, .int .u64 Q1), (17, .int .u64 V), (18, .int .u64 q), (16, .int .u64 r)] e ∧ H_ = H) ((V / w1).toNat) ?_ ?_
                        · skip
                          refine ⟨_, _, rfl, ks18.1, ks18.2, ?_, rfl⟩
                          exact ⟨rfl, rfl, rfl, rfl, rfl, rfl, rfl, rfl, rfl, trivial⟩
                        intro m_ e_ H_ hI_
                        obtain ⟨q, r, rfl, hI, hrB, he, hH_⟩ := hI_
                        have hH_ := hH_.symm; subst hH_
                        refine CW_env he.sub ?_; clear he e_
                        have hI' := hI
                        obtain ⟨i1, i2, i3, i4, i5⟩ := hI'
                        have hw0 := hKN.2.2.2
                        refine CW_seq (fun K29 hK29 => ?_)
                        refine CW_seq (fun K30 hK30 => ?_)
                        refine CW_region ?_
                        refine OW_op rfl (lt_some (by decide)) (fun K hK r => ?_)
                        simp only [x_move, ev, Env.get, Option.getD_some, ↓reduceIte, Nat.reduceEqDiff, NextH, Env.putO, Env.put, ↓reduceIte, Nat.reduceEqDiff, upd_upd, Int.reduceToNat]
                        refine hK _ _ ?_; clear hK K
                        refine OW_op rfl (lt_some (by decide)) (fun K hK r => ?_)
                        simp (disch := (first | omega | decide)) only [x_bin, g_int, b_geq, dec_lt_t, dec_lt_f, dec_le_t, dec_le_f, dec_eq_t, dec_eq_f, Bool.not_true, Bool.not_false, ev, Env.get, Option.getD_some, ↓reduceIte, Nat.reduceEqDiff, NextH, Env.putO, Env.put, ↓reduceIte, Nat.reduceEqDiff, upd_upd, Int.reduceToNat]
                        refine hK _ _ ?_; clear hK K
                        refine OW_op rfl (lt_some (by decide)) (fun K hK r => ?_)
                        simp only [x_move, ev, Env.get, Option.getD_some, ↓reduceIte, Nat.reduceEqDiff, NextH, Env.putO, Env.put, ↓reduceIte, Nat.reduceEqDiff, upd_upd, Int.reduceToNat]
                        refine hK _ _ ?_; clear hK K
                        (first | refine OW_split (d := 104) rfl (fun g104 => ?_) (fun g104 => ?_) | skip)
                        all_goals try (exfalso; exact cnA g104)
                        all_goals (try simp only [decide_eq_true_eq, decide_eq_false_iff_not, Bool.not_eq_true, Bool.not_eq_false, Bool.and_eq_true, Bool.or_eq_true, Bool.or_eq_false_iff, Bool.not_eq_true, Bool.not_eq_eq_eq_not, Bool.not_true, Bool.not_false] at g104)
                        all_goals
                          try simp only [NextH, Env.putO, Env.put, ↓reduceIte, Nat.reduceEqDiff, upd_upd, Int.reduceToNat]
                          first
                          | refine OW_guardT rfl (lt_some (by decide)) rfl (fun K hK r => ?_)
                            simp only [x_move, ev, Env.get, Option.getD_some, ↓reduceIte, Nat.reduceEqDiff, NextH, Env.putO, Env.put, ↓reduceIte, Nat.reduceEqDiff, upd_upd, Int.reduceToNat]
                            refine hK _ _ ?_; clear hK K
                          | refine OW_guardF rfl (lt_some (by decide)) rfl ?_
                            simp only [NextH, Env.putO, Env.put, ↓reduceIte, Nat.reduceEqDiff, upd_upd, Int.reduceToNat]
                          first
                          | refine OW_guardT rfl (lt_some (by decide)) rfl (fun K hK r => ?_)
                            simp only [x_move, ev, Env.get, Option.getD_some, ↓reduceIte, Nat.reduceEqDiff, NextH, Env.putO, Env.put, ↓reduceIte, Nat.reduceEqDiff, upd_upd, Int.reduceToNat]
                            refine hK _ _ ?_; clear hK K
                          | refine OW_guardF rfl (lt_some (by decide)) rfl ?_
                            simp only [NextH, Env.putO, Env.put, ↓reduceIte, Nat.reduceEqDiff, upd_upd, Int.reduceToNat]
                          first
                          | refine OW_guardT rfl (lt_some (by decide)) rfl (fun K hK r => ?_)
                            simp (disch := (first | omega | decide)) only [x_bin, g_int, b_mul, wrap_i64, wrap_u64, wrap_u32, wrap_u8, ev, Env.get, Option.getD_some, ↓reduceIte, Nat.reduceEqDiff, NextH, Env.putO, Env.put, ↓reduceIte, Nat.reduceEqDiff, upd_upd, Int.reduceToNat]
                            have hpb := prod_bound q w0 i5 (by omega) (by omega) (by omega)
                            try rw [wrapU hpb.1 (by omega)]
                            refine hK _ _ ?_; clear hK K
                          | refine OW_guardF rfl (lt_some (by decide)) rfl ?_
                            simp only [NextH, Env.putO, Env.put, ↓reduceIte, Nat.reduceEqDiff, upd_upd, Int.reduceToNat]
                          first
                          | refine OW_guardT rfl (lt_some (by decide)) rfl (fun K hK r => ?_)
                            simp only [x_move, ev, Env.get, Option.getD_some, ↓reduceIte, Nat.reduceEqDiff, NextH, Env.putO, Env.put, ↓reduceIte, Nat.reduceEqDiff, upd_upd, Int.reduceToNat]
                            refine hK _ _ ?_; clear hK K
                          | refine OW_guardF rfl (lt_some (by decide)) rfl ?_
                            simp only [NextH, Env.putO, Env.put, ↓reduceIte, Nat.reduceEqDiff, upd_upd, Int.reduceToNat]
                          first
                          | refine OW_guardT rfl (lt_some (by decide)) rfl (fun K hK r => ?_)
                            simp (disch := (first | omega | decide)) only [x_bin, g_int, b_mul, wrap_i64, wrap_u64, wrap_u32, wrap_u8, ev, Env.get, Option.getD_some, ↓reduceIte, Nat.reduceEqDiff, NextH, Env.putO, Env.put, ↓reduceIte, Nat.reduceEqDiff, upd_upd, Int.reduceToNat]
                            refine hK _ _ ?_; clear hK K
                          | refine OW_guardF rfl (lt_some (by decide)) rfl ?_
                            simp only [NextH, Env.putO, Env.put, ↓reduceIte, Nat.reduceEqDiff, upd_upd, Int.reduceToNat]
                          first
                          | refine OW_guardT rfl (lt_some (by decide)) rfl (fun K hK r => ?_)
                            simp only [x_move, ev, Env.get, Option.getD_some, ↓reduceIte, Nat.reduceEqDiff, NextH, Env.putO, Env.put, ↓reduceIte, Nat.reduceEqDiff, upd_upd, Int.reduceToNat]
                            refine hK _ _ ?_; clear hK K
                          | refine OW_guardF rfl (lt_some (by decide)) rfl ?_
                            simp only [NextH, Env.putO, Env.put, ↓reduceIte, Nat.reduceEqDiff, upd_upd, Int.reduceToNat]
                          first
                          | refine OW_guardT rfl (lt_some (by decide)) rfl (fun K hK r => ?_)
                            simp (disch := (first | omega | decide)) only [x_bin, g_int, b_add, wrap_i64, wrap_u64, wrap_u32, wrap_u8, ev, Env.get, Option.getD_some, ↓reduceIte, Nat.reduceEqDiff, NextH, Env.putO, Env.put, ↓reduceIte, Nat.reduceEqDiff, upd_upd, Int.reduceToNat]
                            refine hK _ _ ?_; clear hK K
                          | refine OW_guardF rfl (lt_some (by decide)) rfl ?_
                            simp only [NextH, Env.putO, Env.put, ↓reduceIte, Nat.reduceEqDiff, upd_upd, Int.reduceToNat]
                          first
                          | refine OW_guardT rfl (lt_some (by decide)) rfl (fun K hK r => ?_)
                            simp (disch := (first | omega | decide)) only [x_bin, g_int, b_gtr, dec_lt_t, dec_lt_f, dec_le_t, dec_le_f, dec_eq_t, dec_eq_f, Bool.not_true, Bool.not_false, ev, Env.get, Option.getD_some, ↓reduceIte, Nat.reduceEqDiff, NextH, Env.putO, Env.put, ↓reduceIte, Nat.reduceEqDiff, upd_upd, Int.reduceToNat]
                            refine hK _ _ ?_; clear hK K
                          | refine OW_guardF rfl (lt_some (by decide)) rfl ?_
                            simp only [NextH, Env.putO, Env.put, ↓reduceIte, Nat.reduceEqDiff, upd_upd, Int.reduceToNat]
                          refine OW_op rfl (lt_some (by decide)) (fun K hK r => ?_)
                          simp only [x_pick, l_asBool, HL.ite_bool, if_true, if_false, Bool.false_eq_true, ev, Env.get, Option.getD_some, ↓reduceIte, Nat.reduceEqDiff, NextH, Env.putO, Env.put, ↓reduceIte, Nat.reduceEqDiff, upd_upd, Int.reduceToNat]
                          refine hK _ _ ?_; clear hK K
                          refine OW_nil ?_
                          try simp only [Ex.thnH, Ex.inBlockH, ↓reduceIte, Nat.reduceEqDiff]
                          refine hK30 _ _ ?_; try clear hK30 K30
                          refine CW_cond (fun r => rfl) (fun c113 => ?_) (fun c113 => ?_)
                          · first
                            | (exfalso; exact cnA c113; done)
                            | skip
                              (try simp only [decide_eq_true_eq, decide_eq_false_iff_not, Bool.not_eq_true, Bool.not_eq_false, Bool.and_eq_true, Bool.or_eq_true, Bool.or_eq_false_iff, Bool.not_eq_true, Bool.not_eq_eq_eq_not, Bool.not_true, Bool.not_false] at c113)
                              have hm := kn_more hKN hV0 hV1 hd00 hd01 hI (by first | (left; omega) | (right; omega))
                              refine CW_skip ?_
                              try simp only [Ex.thnH, Ex.inBlockH, ↓reduceIte, Nat.reduceEqDiff]
                              refine hK29 _ _ ?_; try clear hK29 K29
                              refine CW_block ?_
                              refine CW_seq (fun K31 hK31 => ?_)
                              refine CW_region ?_
                              refine OW_op rfl (lt_some (by decide)) (fun K hK r => ?_)
                              simp only [x_move, ev, Env.get, Option.getD_some, ↓reduceIte, Nat.reduceEqDiff, NextH, Env.putO, Env.put, ↓reduceIte, Nat.reduceEqDiff, upd_upd, Int.reduceToNat]
                              refine hK _ _ ?_; clear hK K
                              refine OW_op rfl (lt_some (by decide)) (fun K hK r => ?_)
                              simp (disch := (first | omega | decide)) only [x_bin, g_int, b_sub, wrap_i64, wrap_u64, wrap_u32, wrap_u8, ev, Env.get, Option.getD_some, ↓reduceIte, Nat.reduceEqDiff, NextH, Env.putO, Env.put, ↓reduceIte, Nat.reduceEqDiff, upd_upd, Int.reduceToNat]
                              refine hK _ _ ?_; clear hK K
                              refine OW_op rfl (lt_some (by decide)) (fun K hK r => ?_)
                              simp only [x_assign, ev, Env.get, Option.getD_some, ↓reduceIte, Nat.reduceEqDiff, NextH, Env.putO, Env.put, ↓reduceIte, Nat.reduceEqDiff, upd_upd, Int.reduceToNat]
                              refine hK _ _ ?_; clear hK K
                              refine OW_nil ?_
                              try simp only [Ex.thnH, Ex.inBlockH, ↓reduceIte, Nat.reduceEqDiff]
                              refine hK31 _ _ ?_; try clear hK31 K31
                              refine CW_seq (fun K32 hK32 => ?_)
                              refine CW_region ?_
                              refine OW_op rfl (lt_some (by decide)) (fun K hK r => ?_)
                              simp only [x_move, ev, Env.get, Option.getD_some, ↓reduceIte, Nat.reduceEqDiff, NextH, Env.putO, Env.put, ↓reduceIte, Nat.reduceEqDiff, upd_upd, Int.reduceToNat]
                              refine hK _ _ ?_; clear hK K
                              refine OW_op rfl (lt_some (by decide)) (fun K hK r => ?_)
                              simp only [x_move, ev, Env.get, Option.getD_some, ↓reduceIte, Nat.reduceEqDiff, NextH, Env.putO, Env.put, ↓reduceIte, Nat.reduceEqDiff, upd_upd, Int.reduceToNat]
                              refine hK _ _ ?_; clear hK K
                              refine OW_op rfl (lt_some (by decide)) (fun K hK r => ?_)
                              simp (disch := (first | omega | decide)) only [x_bin, g_int, b_add, wrap_i64, wrap_u64, wrap_u32, wrap_u8, ev, Env.get, Option.getD_some, ↓reduceIte, Nat.reduceEqDiff, NextH, Env.putO, Env.put, ↓reduceIte, Nat.reduceEqDiff, upd_upd, Int.reduceToNat]
                              refine hK _ _ ?_; clear hK K
                              refine OW_op rfl (lt_some (by decide)) (fun K hK r => ?_)
                              simp only [x_assign, ev, Env.get, Option.getD_some, ↓reduceIte, Nat.reduceEqDiff, NextH, Env.putO, Env.put, ↓reduceIte, Nat.reduceEqDiff, upd_upd, Int.reduceToNat]
                              refine hK _ _ ?_; clear hK K
                              refine OW_nil ?_
                              try simp only [Ex.thnH, Ex.inBlockH, ↓reduceIte, Nat.reduceEqDiff]
                              refine hK32 _ _ ?_; try clear hK32 K32
                              refine CW_seq (fun K33 hK33 => ?_)
                              refine CW_region ?_
                              refine OW_op rfl (lt_some (by decide)) (fun K hK r => ?_)
                              simp only [x_move, ev, Env.get, Option.getD_some, ↓reduceIte, Nat.reduceEqDiff, NextH, Env.putO, Env.put, ↓reduceIte, Nat.reduceEqDiff, upd_upd, Int.reduceToNat]
                              refine hK _ _ ?_; clear hK K
                              refine OW_op rfl (lt_some (by decide)) (fun K hK r => ?_)
                              simp (disch := (first | omega | decide)) only [x_bin, g_int, b_geq, dec_lt_t, dec_lt_f, dec_le_t, dec_le_f, dec_eq_t, dec_eq_f, Bool.not_true, Bool.not_false, ev, Env.get, Option.getD_some, ↓reduceIte, Nat.reduceEqDiff, NextH, Env.putO, Env.put, ↓reduceIte, Nat.reduceEqDiff, upd_upd, Int.reduceToNat]
                              refine hK _ _ ?_; clear hK K
                              refine OW_nil ?_
                              try simp only [Ex.thnH, Ex.inBlockH, ↓reduceIte, Nat.reduceEqDiff]
                              refine hK33 _ _ ?_; try clear hK33 K33
                              refine CW_cond (fun r => rfl) (fun c120 => ?_) (fun c120 => ?_)
                              · first
                                | (exfalso; exact cnA c120; done)
                                | skip
                                  (try simp only [decide_eq_true_eq, decide_eq_false_iff_not, Bool.not_eq_true, Bool.not_eq_false, Bool.and_eq_true, Bool.or_eq_true, Bool.or_eq_false_iff, Bool.not_eq_true, Bool.not_eq_eq_eq_not, Bool.not_true, Bool.not_false] at c120)
                                  have hq := kn_out2 hKN hd00 hm.1 hm.2.1 (by omega)
                                  refine CW_exit ?_
                                  try simp only [Ex.thnH, Ex.inBlockH, ↓reduceIte, Nat.reduceEqDiff]
                                  refine hK28 _ _ ?_; try clear hK28 K28
                                  refine CW_seq (fun K34 hK34 => ?_)
                                  refine CW_region ?_
                                  refine OW_op rfl (lt_some (by decide)) (fun K hK r => ?_)
                                  simp only [x_move, ev, Env.get, Option.getD_some, ↓reduceIte, Nat.reduceEqDiff, NextH, Env.putO, Env.put, ↓reduceIte, Nat.reduceEqDiff, upd_upd, Int.reduceToNat]
                                  refine hK _ _ ?_; clear hK K
                                  refine OW_op rfl (lt_some (by decide)) (fun K hK r => ?_)
                                  simp (disch := (first | omega | decide)) only [x_bin, g_int, b_mul, wrap_i64, wrap_u64, wrap_u32, wrap_u8, ev, Env.get, Option.getD_some, ↓reduceIte, Nat.reduceEqDiff, NextH, Env.putO, Env.put, ↓reduceIte, Nat.reduceEqDiff, upd_upd, Int.reduceToNat]
                                  obtain ⟨Q0, hQ0⟩ : ∃ z, z = (V * 4294967296 + d0) / Y := ⟨_, rfl⟩
                                  rw [hq, ← hQ0]
                                  have kq0 := kn_q hKN hV0 hV1 hd00 hd01
                                  rw [← hQ0] at kq0
                                  clear hq
                                  try rw [wrapU (by omega) (by omega)]
                                  refine hK _ _ ?_; clear hK K
                                  refine OW_op rfl (lt_some (by decide)) (fun K hK r => ?_)
                                  simp only [x_move, ev, Env.get, Option.getD_some, ↓reduceIte, Nat.reduceEqDiff, NextH, Env.putO, Env.put, ↓reduceIte, Nat.reduceEqDiff, upd_upd, Int.reduceToNat]
                                  refine hK _ _ ?_; clear hK K
                                  refine OW_op rfl (lt_some (by decide)) (fun K hK r => ?_)
                                  simp (disch := (first | omega | decide)) only [x_bin, g_int, b_add, wrap_i64, wrap_u64, wrap_u32, wrap_u8, ev, Env.get, Option.getD_some, ↓reduceIte, Nat.reduceEqDiff, NextH, Env.putO, Env.put, ↓reduceIte, Nat.reduceEqDiff, upd_upd, Int.reduceToNat]
                                  try rw [wrapU (by omega) (by omega)]
                                  refine hK _ _ ?_; clear hK K
                                  refine OW_op rfl (lt_some (by decide)) (fun K hK r => ?_)
                                  simp only [x_move, ev, Env.get, Option.getD_some, ↓reduceIte, Nat.reduceEqDiff, NextH, Env.putO, Env.put, ↓reduceIte, Nat.reduceEqDiff, upd_upd, Int.reduceToNat]
                                  refine hK _ _ ?_; clear hK K
                                  refine OW_op rfl (lt_some (by decide)) (fun K hK r => ?_)
                                  simp (disch := (first | omega | decide)) only [x_bin, g_int, b_mul, wrap_i64, wrap_u64, wrap_u32, wrap_u8, ev, Env.get, Option.getD_some, ↓reduceIte, Nat.reduceEqDiff, NextH, Env.putO, Env.put, ↓reduceIte, Nat.reduceEqDiff, upd_upd, Int.reduceToNat]
                                  refine hK _ _ ?_; clear hK K
                                  refine OW_op rfl (lt_some (by decide)) (fun K hK r => ?_)
                                  simp only [x_move, ev, Env.get, Option.getD_some, ↓reduceIte, Nat.reduceEqDiff, NextH, Env.putO, Env.put, ↓reduceIte, Nat.reduceEqDiff, upd_upd, Int.reduceToNat]
                                  refine hK _ _ ?_; clear hK K
                                  refine OW_op rfl (lt_some (by decide)) (fun K hK r => ?_)
                                  simp (disch := (first | omega | decide)) only [x_bin, g_int, b_add, wrap_i64, wrap_u64, wrap_u32, wrap_u8, ev, Env.get, Option.getD_some, ↓reduceIte, Nat.reduceEqDiff, NextH, Env.putO, Env.put, ↓reduceIte, Nat.reduceEqDiff, upd_upd, Int.reduceToNat]
                                  refine hK _ _ ?_; clear hK K
                                  refine OW_op rfl (lt_some (by decide)) (fun K hK r => ?_)
                                  simp only [x_move, ev, Env.get, Option.getD_some, ↓reduceIte, Nat.reduceEqDiff, NextH, Env.putO, Env.put, ↓reduceIte, Nat.reduceEqDiff, upd_upd, Int.reduceToNat]
                                  refine hK _ _ ?_; clear hK K
                                  refine OW_op rfl (lt_some (by decide)) (fun K hK r => ?_)
                                  simp only [x_move, ev, Env.get, Option.getD_some, ↓reduceIte, Nat.reduceEqDiff, NextH, Env.putO, Env.put, ↓reduceIte, Nat.reduceEqDiff, upd_upd, Int.reduceToNat]
                                  refine hK _ _ ?_; clear hK K
                                  refine OW_op rfl (lt_some (by decide)) (fun K hK r => ?_)
                                  simp (disch := (first | omega | decide)) only [x_bin, g_int, b_mul, wrap_i64, wrap_u64, wrap_u32, wrap_u8, ev, Env.get, Option.getD_some, ↓reduceIte, Nat.reduceEqDiff, NextH, Env.putO, Env.put, ↓reduceIte, Nat.reduceEqDiff, upd_upd, Int.reduceToNat]
                                  refine hK _ _ ?_; clear hK K
                                  refine OW_op rfl (lt_some (by decide)) (fun K hK r => ?_)
                                  simp (disch := (first | omega | decide)) only [x_bin, g_int, b_sub, wrap_i64, wrap_u64, wrap_u32, wrap_u8, ev, Env.get, Option.getD_some, ↓reduceIte, Nat.reduceEqDiff, NextH, Env.putO, Env.put, ↓reduceIte, Nat.reduceEqDiff, upd_upd, Int.reduceToNat]
                                  refine hK _ _ ?_; clear hK K
                                  refine OW_op rfl (lt_some (by decide)) (fun K hK r => ?_)
                                  simp only [x_move, ev, Env.get, Option.getD_some, ↓reduceIte, Nat.reduceEqDiff, NextH, Env.putO, Env.put, ↓reduceIte, Nat.reduceEqDiff, upd_upd, Int.reduceToNat]
                                  refine hK _ _ ?_; clear hK K
                                  refine OW_op rfl (lt_some (by decide)) (fun K hK r => ?_)
                                  simp (disch := (first | omega | decide)) only [x_bin, g_int, b_shr, wrap_i64, wrap_u64, wrap_u32, wrap_u8, ev, Env.get, Option.getD_some, ↓reduceIte, Nat.reduceEqDiff, NextH, Env.putO, Env.put, ↓reduceIte, Nat.reduceEqDiff, upd_upd, Int.reduceToNat]
                                  refine hK _ _ ?_; clear hK K
                                  refine OW_op rfl (lt_some (by decide)) (fun K hK r => ?_)
                                  simp only [x_assign, ev, Env.get, Option.getD_some, ↓reduceIte, Nat.reduceEqDiff, NextH, Env.putO, Env.put, ↓reduceIte, Nat.reduceEqDiff, upd_upd, Int.reduceToNat]
                                  refine hK _ _ ?_; clear hK K
                                  refine OW_op rfl (lt_some (by decide)) (fun K hK r => ?_)
                                  simp only [x_assign, ev, Env.get, Option.getD_some, ↓reduceIte, Nat.reduceEqDiff, NextH, Env.putO, Env.put, ↓reduceIte, Nat.reduceEqDiff, upd_upd, Int.reduceToNat]
                                  refine hK _ _ ?_; clear hK K
                                  refine OW_nil ?_
                                  try simp only [Ex.thnH, Ex.inBlockH, ↓reduceIte, Nat.reduceEqDiff]
                                  refine hK34 _ _ ?_; try clear hK34 K34
                                  refine CW_ret ?_
                                  try simp only [Ex.thnH, Ex.inBlockH, ↓reduceIte, Nat.reduceEqDiff]
                                  refine ⟨[_, _], ⟨rfl, rfl, trivial⟩, _, Le.refl _, ⟨_, congrArg (fun z => Value.tuple #[.int .u64 z, .int .u64 _]) ?_⟩, rfl⟩
                                  have k2 := kn_two (Y := Y) (a := U) (b := d1) (c := d0) (by omega) hd00
                                  rw [← hQ1, ← hV, ← hQ0] at k2
                                  rw [k2, hU, hY]
                                  exact kn_shift hs64 d1 d0 (by omega)
                              · first
                                | (exfalso; exact cnA c120; done)
                                | skip
                                  (try simp only [decide_eq_true_eq, decide_eq_false_iff_not, Bool.not_eq_true, Bool.not_eq_false, Bool.and_eq_true, Bool.or_eq_true, Bool.or_eq_false_iff, Bool.not_eq_true, Bool.not_eq_eq_eq_not, Bool.not_true, Bool.not_false] at c120)
                                  refine CW_skip ?_
                                  try simp only [Ex.thnH, Ex.inBlockH, ↓reduceIte, Nat.reduceEqDiff]
                                  refine ⟨_, by omega, _, _, rfl, hm.1, by omega, ⟨rfl, rfl, rfl, rfl, rfl, rfl, rfl, rfl, rfl, trivial⟩, rfA⟩
                          · first
                            | (exfalso; exact cnA c113; done)
                            | skip
                              (try simp only [decide_eq_true_eq, decide_eq_false_iff_not, Bool.not_eq_true, Bool.not_eq_false, Bool.and_eq_true, Bool.or_eq_true, Bool.or_eq_false_iff, Bool.not_eq_true, Bool.not_eq_eq_eq_not, Bool.not_true, Bool.not_false] at c113)
                              have hq := kn_out hKN hI (by omega)
                              refine CW_exit ?_
                              try simp only [Ex.thnH, Ex.inBlockH, ↓reduceIte, Nat.reduceEqDiff]
                              refine hK28 _ _ ?_; try clear hK28 K28
                              refine CW_seq (fun K35 hK35 => ?_)
                              refine CW_region ?_
                              refine OW_op rfl (lt_some (by decide)) (fun K hK r => ?_)
                              simp only [x_move, ev, Env.get, Option.getD_some, ↓reduceIte, Nat.reduceEqDiff, NextH, Env.putO, Env.put, ↓reduceIte, Nat.reduceEqDiff, upd_upd, Int.reduceToNat]
                              refine hK _ _ ?_; clear hK K
                              refine OW_op rfl (lt_some (by decide)) (fun K hK r => ?_)
                              simp (disch := (first | omega | decide)) only [x_bin, g_int, b_mul, wrap_i64, wrap_u64, wrap_u32, wrap_u8, ev, Env.get, Option.getD_some, ↓reduceIte, Nat.reduceEqDiff, NextH, Env.putO, Env.put, ↓reduceIte, Nat.reduceEqDiff, upd_upd, Int.reduceToNat]
                              obtain ⟨Q0, hQ0⟩ : ∃ z, z = (V * 4294967296 + d0) / Y := ⟨_, rfl⟩
                              rw [hq, ← hQ0]
                              have kq0 := kn_q hKN hV0 hV1 hd00 hd01
                              rw [← hQ0] at kq0
                              clear hq
                              try rw [wrapU (by omega) (by omega)]
                              refine hK _ _ ?_; clear hK K
                              refine OW_op rfl (lt_some (by decide)) (fun K hK r => ?_)
                              simp only [x_move, ev, Env.get, Option.getD_some, ↓reduceIte, Nat.reduceEqDiff, NextH, Env.putO, Env.put, ↓reduceIte, Nat.reduceEqDiff, upd_upd, Int.reduceToNat]
                              refine hK _ _ ?_; clear hK K
                              refine OW_op rfl (lt_some (by decide)) (fun K hK r => ?_)
                              simp (disch := (first | omega | decide)) only [x_bin, g_int, b_add, wrap_i64, wrap_u64, wrap_u32, wrap_u8, ev, Env.get, Option.getD_some, ↓reduceIte, Nat.reduceEqDiff, NextH, Env.putO, Env.put, ↓reduceIte, Nat.reduceEqDiff, upd_upd, Int.reduceToNat]
                              try rw [wrapU (by omega) (by omega)]
                              refine hK _ _ ?_; clear hK K
                              refine OW_op rfl (lt_some (by decide)) (fun K hK r => ?_)
                              simp only [x_move, ev, Env.get, Option.getD_some, ↓reduceIte, Nat.reduceEqDiff, NextH, Env.putO, Env.put, ↓reduceIte, Nat.reduceEqDiff, upd_upd, Int.reduceToNat]
                              refine hK _ _ ?_; clear hK K
                              refine OW_op rfl (lt_some (by decide)) (fun K hK r => ?_)
                              simp (disch := (first | omega | decide)) only [x_bin, g_int, b_mul, wrap_i64, wrap_u64, wrap_u32, wrap_u8, ev, Env.get, Option.getD_some, ↓reduceIte, Nat.reduceEqDiff, NextH, Env.putO, Env.put, ↓reduceIte, Nat.reduceEqDiff, upd_upd, Int.reduceToNat]
                              refine hK _ _ ?_; clear hK K
                              refine OW_op rfl (lt_some (by decide)) (fun K hK r => ?_)
                              simp only [x_move, ev, Env.get, Option.getD_some, ↓reduceIte, Nat.reduceEqDiff, NextH, Env.putO, Env.put, ↓reduceIte, Nat.reduceEqDiff, upd_upd, Int.reduceToNat]
                              refine hK _ _ ?_; clear hK K
                              refine OW_op rfl (lt_some (by decide)) (fun K hK r => ?_)
                              simp (disch := (first | omega | decide)) only [x_bin, g_int, b_add, wrap_i64, wrap_u64, wrap_u32, wrap_u8, ev, Env.get, Option.getD_some, ↓reduceIte, Nat.reduceEqDiff, NextH, Env.putO, Env.put, ↓reduceIte, Nat.reduceEqDiff, upd_upd, Int.reduceToNat]
                              refine hK _ _ ?_; clear hK K
                              refine OW_op rfl (lt_some (by decide)) (fun K hK r => ?_)
                              simp only [x_move, ev, Env.get, Option.getD_some, ↓reduceIte, Nat.reduceEqDiff, NextH, Env.putO, Env.put, ↓reduceIte, Nat.reduceEqDiff, upd_upd, Int.reduceToNat]
                              refine hK _ _ ?_; clear hK K
                              refine OW_op rfl (lt_some (by decide)) (fun K hK r => ?_)
                              simp only [x_move, ev, Env.get, Option.getD_some, ↓reduceIte, Nat.reduceEqDiff, NextH, Env.putO, Env.put, ↓reduceIte, Nat.reduceEqDiff, upd_upd, Int.reduceToNat]
                              refine hK _ _ ?_; clear hK K
                              refine OW_op rfl (lt_some (by decide)) (fun K hK r => ?_)
                              simp (disch := (first | omega | decide)) only [x_bin, g_int, b_mul, wrap_i64, wrap_u64, wrap_u32, wrap_u8, ev, Env.get, Option.getD_some, ↓reduceIte, Nat.reduceEqDiff, NextH, Env.putO, Env.put, ↓reduceIte, Nat.reduceEqDiff, upd_upd, Int.reduceToNat]
                              refine hK _ _ ?_; clear hK K
                              refine OW_op rfl (lt_some (by decide)) (fun K hK r => ?_)
                              simp (disch := (first | omega | decide)) only [x_bin, g_int, b_sub, wrap_i64, wrap_u64, wrap_u32, wrap_u8, ev, Env.get, Option.getD_some, ↓reduceIte, Nat.reduceEqDiff, NextH, Env.putO, Env.put, ↓reduceIte, Nat.reduceEqDiff, upd_upd, Int.reduceToNat]
                              refine hK _ _ ?_; clear hK K
                              refine OW_op rfl (lt_some (by decide)) (fun K hK r => ?_)
                              simp only [x_move, ev, Env.get, Option.getD_some, ↓reduceIte, Nat.reduceEqDiff, NextH, Env.putO, Env.put, ↓reduceIte, Nat.reduceEqDiff, upd_upd, Int.reduceToNat]
                              refine hK _ _ ?_; clear hK K
                              refine OW_op rfl (lt_some (by decide)) (fun K hK r => ?_)
                              simp (disch := (first | omega | decide)) only [x_bin, g_int, b_shr, wrap_i64, wrap_u64, wrap_u32, wrap_u8, ev, Env.get, Option.getD_some, ↓reduceIte, Nat.reduceEqDiff, NextH, Env.putO, Env.put, ↓reduceIte, Nat.reduceEqDiff, upd_upd, Int.reduceToNat]
                              refine hK _ _ ?_; clear hK K
                              refine OW_op rfl (lt_some (by decide)) (fun K hK r => ?_)
                              simp only [x_assign, ev, Env.get, Option.getD_some, ↓reduceIte, Nat.reduceEqDiff, NextH, Env.putO, Env.put, ↓reduceIte, Nat.reduceEqDiff, upd_upd, Int.reduceToNat]
                              refine hK _ _ ?_; clear hK K
                              refine OW_op rfl (lt_some (by decide)) (fun K hK r => ?_)
                              simp only [x_assign, ev, Env.get, Option.getD_some, ↓reduceIte, Nat.reduceEqDiff, NextH, Env.putO, Env.put, ↓reduceIte, Nat.reduceEqDiff, upd_upd, Int.reduceToNat]
                              refine hK _ _ ?_; clear hK K
                              refine OW_nil ?_
                              try simp only [Ex.thnH, Ex.inBlockH, ↓reduceIte, Nat.reduceEqDiff]
                              refine hK35 _ _ ?_; try clear hK35 K35
                              refine CW_ret ?_
                              try simp only [Ex.thnH, Ex.inBlockH, ↓reduceIte, Nat.reduceEqDiff]
                              refine ⟨[_, _], ⟨rfl, rfl, trivial⟩, _, Le.refl _, ⟨_, congrArg (fun z => Value.tuple #[.int .u64 z, .int .u64 _]) ?_⟩, rfl⟩
                              have k2 := kn_two (Y := Y) (a := U) (b := d1) (c := d0) (by omega) hd00
                              rw [← hQ1, ← hV, ← hQ0] at k2
                              rw [k2, hU, hY]
                              exact kn_shift hs64 d1 d0 (by omega)
                    · first
                      | (exfalso; exact cnA c85; done)
                      | skip
                        (try simp only [decide_eq_true_eq, decide_eq_false_iff_not, Bool.not_eq_true, Bool.not_eq_false, Bool.and_eq_true, Bool.or_eq_true, Bool.or_eq_false_iff, Bool.not_eq_true, Bool.not_eq_eq_eq_not, Bool.not_true, Bool.not_false] at c85)
                        refine CW_skip ?_
                        try simp only [Ex.thnH, Ex.inBlockH, ↓reduceIte, Nat.reduceEqDiff]
                        refine ⟨_, by omega, _, _, rfl, hm.1, by omega, ⟨rfl, rfl, rfl, rfl, rfl, rfl, rfl, rfl, rfl, rfl, rfl, rfl, trivial⟩, rfA⟩
                · first
                  | (exfalso; exact cnA c78; done)
                  | skip
                    (try simp only [decide_eq_true_eq, decide_eq_false_iff_not, Bool.not_eq_true, Bool.not_eq_false, Bool.and_eq_true, Bool.or_eq_true, Bool.or_eq_false_iff, Bool.not_eq_true, Bool.not_eq_eq_eq_not, Bool.not_true, Bool.not_false] at c78)
                    have hq := kn_out hKN hI (by omega)
                    refine CW_exit ?_
                    try simp only [Ex.thnH, Ex.inBlockH, ↓reduceIte, Nat.reduceEqDiff]
                    refine hK19 _ _ ?_; try clear hK19 K19
                    refine CW_seq (fun K36 hK36 => ?_)
                    refine CW_region ?_
                    refine OW_op rfl (lt_some (by decide)) (fun K hK r => ?_)
                    simp only [x_move, ev, Env.get, Option.getD_some, ↓reduceIte, Nat.reduceEqDiff, NextH, Env.putO, Env.put, ↓reduceIte, Nat.reduceEqDiff, upd_upd, Int.reduceToNat]
                    refine hK _ _ ?_; clear hK K
                    refine OW_op rfl (lt_some (by decide)) (fun K hK r => ?_)
                    simp (disch := (first | omega | decide)) only [x_bin, g_int, b_mul, wrap_i64, wrap_u64, wrap_u32, wrap_u8, ev, Env.get, Option.getD_some, ↓reduceIte, Nat.reduceEqDiff, NextH, Env.putO, Env.put, ↓reduceIte, Nat.reduceEqDiff, upd_upd, Int.reduceToNat]
                    refine hK _ _ ?_; clear hK K
                    refine OW_op rfl (lt_some (by decide)) (fun K hK r => ?_)
                    simp only [x_move, ev, Env.get, Option.getD_some, ↓reduceIte, Nat.reduceEqDiff, NextH, Env.putO, Env.put, ↓reduceIte, Nat.reduceEqDiff, upd_upd, Int.reduceToNat]
                    refine hK _ _ ?_; clear hK K
                    refine OW_op rfl (lt_some (by decide)) (fun K hK r => ?_)
                    simp (disch := (first | omega | decide)) only [x_bin, g_int, b_add, wrap_i64, wrap_u64, wrap_u32, wrap_u8, ev, Env.get, Option.getD_some, ↓reduceIte, Nat.reduceEqDiff, NextH, Env.putO, Env.put, ↓reduceIte, Nat.reduceEqDiff, upd_upd, Int.reduceToNat]
                    obtain ⟨Q1, hQ1⟩ : ∃ z, z = (U * 4294967296 + d1) / Y := ⟨_, rfl⟩
                    rw [hq, ← hQ1]
                    have kr := kn_rest (u := U) (d := d1) hKN
                    have kq := kn_q hKN hU0 hU1 hd10 hd11
                    rw [← hQ1] at kr kq
                    clear hq
                    refine hK _ _ ?_; clear hK K
                    refine OW_op rfl (lt_some (by decide)) (fun K hK r => ?_)
                    simp only [x_move, ev, Env.get, Option.getD_some, ↓reduceIte, Nat.reduceEqDiff, NextH, Env.putO, Env.put, ↓reduceIte, Nat.reduceEqDiff, upd_upd, Int.reduceToNat]
                    refine hK _ _ ?_; clear hK K
                    refine OW_op rfl (lt_some (by decide)) (fun K hK r => ?_)
                    simp only [x_move, ev, Env.get, Option.getD_some, ↓reduceIte, Nat.reduceEqDiff, NextH, Env.putO, Env.put, ↓reduceIte, Nat.reduceEqDiff, upd_upd, Int.reduceToNat]
                    refine hK _ _ ?_; clear hK K
                    refine OW_op rfl (lt_some (by decide)) (fun K hK r => ?_)
                    simp (disch := (first | omega | decide)) only [x_bin, g_int, b_mul, wrap_i64, wrap_u64, wrap_u32, wrap_u8, ev, Env.get, Option.getD_some, ↓reduceIte, Nat.reduceEqDiff, NextH, Env.putO, Env.put, ↓reduceIte, Nat.reduceEqDiff, upd_upd, Int.reduceToNat]
                    refine hK _ _ ?_; clear hK K
                    refine OW_op rfl (lt_some (by decide)) (fun K hK r => ?_)
                    simp (disch := (first | omega | decide)) only [x_bin, g_int, b_sub, wrap_i64, wrap_u64, wrap_u32, wrap_u8, ev, Env.get, Option.getD_some, ↓reduceIte, Nat.reduceEqDiff, NextH, Env.putO, Env.put, ↓reduceIte, Nat.reduceEqDiff, upd_upd, Int.reduceToNat]
                    rw [wrap_rest (x := U * 4294967296 + d1) (by omega) (by omega) U d1 rfl]
                    obtain ⟨V, hV⟩ : ∃ z, z = U * 4294967296 + d1 - Q1 * Y := ⟨_, rfl⟩
                    rw [← hV]
                    have hV0 : 0 ≤ V := by omega
                    have hV1 : V < Y := by omega
                    have hk1 := hKN.2.1
                    refine hK _ _ ?_; clear hK K
                    refine OW_op rfl (lt_some (by decide)) (fun K hK r => ?_)
                    simp only [x_assign, ev, Env.get, Option.getD_some, ↓reduceIte, Nat.reduceEqDiff, NextH, Env.putO, Env.put, ↓reduceIte, Nat.reduceEqDiff, upd_upd, Int.reduceToNat]
                    refine hK _ _ ?_; clear hK K
                    refine OW_nil ?_
                    try simp only [Ex.thnH, Ex.inBlockH, ↓reduceIte, Nat.reduceEqDiff]
                    refine hK36 _ _ ?_; try clear hK36 K36
                    refine CW_seq (fun K37 hK37 => ?_)
                    refine CW_region ?_
                    refine OW_op rfl (lt_some (by decide)) (fun K hK r => ?_)
                    simp only [x_move, ev, Env.get, Option.getD_some, ↓reduceIte, Nat.reduceEqDiff, NextH, Env.putO, Env.put, ↓reduceIte, Nat.reduceEqDiff, upd_upd, Int.reduceToNat]
                    refine hK _ _ ?_; clear hK K
                    refine OW_op rfl (lt_some (by decide)) (fun K hK r => ?_)
                    simp only [x_move, ev, Env.get, Option.getD_some, ↓reduceIte, Nat.reduceEqDiff, NextH, Env.putO, Env.put, ↓reduceIte, Nat.reduceEqDiff, upd_upd, Int.reduceToNat]
                    refine hK _ _ ?_; clear hK K
                    refine OW_op rfl (lt_some (by decide)) (fun K hK r => ?_)
                    simp (disch := (first | omega | decide)) only [x_bin, g_int, b_quo, wrap_i64, wrap_u64, wrap_u32, wrap_u8, ev, Env.get, Option.getD_some, ↓reduceIte, Nat.reduceEqDiff, NextH, Env.putO, Env.put, ↓reduceIte, Nat.reduceEqDiff, upd_upd, Int.reduceToNat]
                    rw [quo_u64 hV0 (by omega) (by omega)]
                    have ks18 := kn_start hKN hV0 hV1 hd00 hd01
                    have hmn2 := Int.mul_nonneg ks18.1.2.2.2.2 (show 0 ≤ w1 by omega)
                    have hrr2 := ks18.1.2.1
                    refine hK _ _ ?_; clear hK K
                    refine OW_op rfl (lt_some (by decide)) (fun K hK r => ?_)
                    simp only [x_assign, ev, Env.get, Option.getD_some, ↓reduceIte, Nat.reduceEqDiff, NextH, Env.putO, Env.put, ↓reduceIte, Nat.reduceEqDiff, upd_upd, Int.reduceToNat]
                    refine hK _ _ ?_; clear hK K
                    refine OW_nil ?_
                    try simp only [Ex.thnH, Ex.inBlockH, ↓reduceIte, Nat.reduceEqDiff]
                    refine hK37 _ _ ?_; try clear hK37 K37
                    refine CW_seq (fun K38 hK38 => ?_)
                    refine CW_region ?_
                    refine OW_op rfl (lt_some (by decide)) (fun K hK r => ?_)
                    simp only [x_move, ev, Env.get, Option.getD_some, ↓reduceIte, Nat.reduceEqDiff, NextH, Env.putO, Env.put, ↓reduceIte, Nat.reduceEqDiff, upd_upd, Int.reduceToNat]
                    refine hK _ _ ?_; clear hK K
                    refine OW_op rfl (lt_some (by decide)) (fun K hK r => ?_)
                    simp only [x_move, ev, Env.get, Option.getD_some, ↓reduceIte, Nat.reduceEqDiff, NextH, Env.putO, Env.put, ↓reduceIte, Nat.reduceEqDiff, upd_upd, Int.reduceToNat]
                    refine hK _ _ ?_; clear hK K
                    refine OW_op rfl (lt_some (by decide)) (fun K hK r => ?_)
                    simp only [x_move, ev, Env.get, Option.getD_some, ↓reduceIte, Nat.reduceEqDiff, NextH, Env.putO, Env.put, ↓reduceIte, Nat.reduceEqDiff, upd_upd, Int.reduceToNat]
                    refine hK _ _ ?_; clear hK K
                    refine OW_op rfl (lt_some (by decide)) (fun K hK r => ?_)
                    simp (disch := (first | omega | decide)) only [x_bin, g_int, b_mul, wrap_i64, wrap_u64, wrap_u32, wrap_u8, ev, Env.get, Option.getD_some, ↓reduceIte, Nat.reduceEqDiff, NextH, Env.putO, Env.put, ↓reduceIte, Nat.reduceEqDiff, upd_upd, Int.reduceToNat]
                    try rw [wrapU hmn2 (by omega)]
                    refine hK _ _ ?_; clear hK K
                    refine OW_op rfl (lt_some (by decide)) (fun K hK r => ?_)
                    simp (disch := (first | omega | decide)) only [x_bin, g_int, b_sub, wrap_i64, wrap_u64, wrap_u32, wrap_u8, ev, Env.get, Option.getD_some, ↓reduceIte, Nat.reduceEqDiff, NextH, Env.putO, Env.put, ↓reduceIte, Nat.reduceEqDiff, upd_upd, Int.reduceToNat]
                    try rw [wrapU (by omega) (by omega)]
                    refine hK _ _ ?_; clear hK K
                    refine OW_op rfl (lt_some (by decide)) (fun K hK r => ?_)
                    simp only [x_assign, ev, Env.get, Option.getD_some, ↓reduceIte, Nat.reduceEqDiff, NextH, Env.putO, Env.put, ↓reduceIte, Nat.reduceEqDiff, upd_upd, Int.reduceToNat]
                    refine hK _ _ ?_; clear hK K
                    refine OW_nil ?_
                    try simp only [Ex.thnH, Ex.inBlockH, ↓reduceIte, Nat.reduceEqDiff]
                    refine hK38 _ _ ?_; try clear hK38 K38
                    refine CW_seq (fun K39 hK39 => ?_)
                    refine CW_block ?_
                    refine CW_loop (fun m e H_ => ∃ q r : Int, m = q.toNat ∧ KI Y w1 V d0 q r ∧ r < 4294967296 ∧ Env.has [(2, .int .u64 Y), (8, .int .u64 s), (9, .int .u64 w1), (10, .int .u64 w0), (14, .int .u64 d0), (15, .int .u64 Q1), (17, .int .u64 V), (18, .int .u64 q), (16, .int .u64 r)] e ∧ H_ = H) ((V / w1).toNat) ?_ ?_
                    · skip
                      refine ⟨_, _, rfl, ks18.1, ks18.2, ?_, rfl⟩
                      exact ⟨rfl, rfl, rfl, rfl, rfl, rfl, rfl, rfl, rfl, trivial⟩
                    intro m_ e_ H_ hI_
                    obtain ⟨q, r, rfl, hI, hrB, he, hH_⟩ := hI_
                    have hH_ := hH_.symm; subst hH_
                    refine CW_env he.sub ?_; clear he e_
                    have hI' := hI
                    obtain ⟨i1, i2, i3, i4, i5⟩ := hI'
                    have hw0 := hKN.2.2.2
                    refine CW_seq (fun K40 hK40 => ?_)
                    refine CW_seq (fun K41 hK41 => ?_)
                    refine CW_region ?_
                    refine OW_op rfl (lt_some (by decide)) (fun K hK r => ?_)
                    simp only [x_move, ev, Env.get, Option.getD_some, ↓reduceIte, Nat.reduceEqDiff, NextH, Env.putO, Env.put, ↓reduceIte, Nat.reduceEqDiff, upd_upd, Int.reduceToNat]
                    refine hK _ _ ?_; clear hK K
                    refine OW_op rfl (lt_some (by decide)) (fun K hK r => ?_)
                    simp (disch := (first | omega | decide)) only [x_bin, g_int, b_geq, dec_lt_t, dec_lt_f, dec_le_t, dec_le_f, dec_eq_t, dec_eq_f, Bool.not_true, Bool.not_false, ev, Env.get, Option.getD_some, ↓reduceIte, Nat.reduceEqDiff, NextH, Env.putO, Env.put, ↓reduceIte, Nat.reduceEqDiff, upd_upd, Int.reduceToNat]
                    refine hK _ _ ?_; clear hK K
                    refine OW_op rfl (lt_some (by decide)) (fun K hK r => ?_)
                    simp only [x_move, ev, Env.get, Option.getD_some, ↓reduceIte, Nat.reduceEqDiff, NextH, Env.putO, Env.put, ↓reduceIte, Nat.reduceEqDiff, upd_upd, Int.reduceToNat]
                    refine hK _ _ ?_; clear hK K
                    (first | refine OW_split (d := 104) rfl (fun g104 => ?_) (fun g104 => ?_) | skip)
                    all_goals try (exfalso; exact cnA g104)
                    all_goals (try simp only [decide_eq_true_eq, decide_eq_false_iff_not, Bool.not_eq_true, Bool.not_eq_false, Bool.and_eq_true, Bool.or_eq_true, Bool.or_eq_false_iff, Bool.not_eq_true, Bool.not_eq_eq_eq_not, Bool.not_true, Bool.not_false] at g104)
                    all_goals
                      try simp only [NextH, Env.putO, Env.put, ↓reduceIte, Nat.reduceEqDiff, upd_upd, Int.reduceToNat]
                      first
                      | refine OW_guardT rfl (lt_some (by decide)) rfl (fun K hK r => ?_)
                        simp only [x_move, ev, Env.get, Option.getD_some, ↓reduceIte, Nat.reduceEqDiff, NextH, Env.putO, Env.put, ↓reduceIte, Nat.reduceEqDiff, upd_upd, Int.reduceToNat]
                        refine hK _ _ ?_; clear hK K
                      | refine OW_guardF rfl (lt_some (by decide)) rfl ?_
                        simp only [NextH, Env.putO, Env.put, ↓reduceIte, Nat.reduceEqDiff, upd_upd, Int.reduceToNat]
                      first
                      | refine OW_guardT rfl (lt_some (by decide)) rfl (fun K hK r => ?_)
                        simp only [x_move, ev, Env.get, Option.getD_some, ↓reduceIte, Nat.reduceEqDiff, NextH, Env.putO, Env.put, ↓reduceIte, Nat.reduceEqDiff, upd_upd, Int.reduceToNat]
                        refine hK _ _ ?_; clear hK K
                      | refine OW_guardF rfl (lt_some (by decide)) rfl ?_
                        simp only [NextH, Env.putO, Env.put, ↓reduceIte, Nat.reduceEqDiff, upd_upd, Int.reduceToNat]
                      first
                      | refine OW_guardT rfl (lt_some (by decide)) rfl (fun K hK r => ?_)
                        simp (disch := (first | omega | decide)) only [x_bin, g_int, b_mul, wrap_i64, wrap_u64, wrap_u32, wrap_u8, ev, Env.get, Option.getD_some, ↓reduceIte, Nat.reduceEqDiff, NextH, Env.putO, Env.put, ↓reduceIte, Nat.reduceEqDiff, upd_upd, Int.reduceToNat]
                        have hpb := prod_bound q w0 i5 (by omega) (by omega) (by omega)
                        try rw [wrapU hpb.1 (by omega)]
                        refine hK _ _ ?_; clear hK K
                      | refine OW_guardF rfl (lt_some (by decide)) rfl ?_
                        simp only [NextH, Env.putO, Env.put, ↓reduceIte, Nat.reduceEqDiff, upd_upd, Int.reduceToNat]
                      first
                      | refine OW_guardT rfl (lt_some (by decide)) rfl (fun K hK r => ?_)
                        simp only [x_move, ev, Env.get, Option.getD_some, ↓reduceIte, Nat.reduceEqDiff, NextH, Env.putO, Env.put, ↓reduceIte, Nat.reduceEqDiff, upd_upd, Int.reduceToNat]
                        refine hK _ _ ?_; clear hK K
                      | refine OW_guardF rfl (lt_some (by decide)) rfl ?_
                        simp only [NextH, Env.putO, Env.put, ↓reduceIte, Nat.reduceEqDiff, upd_upd, Int.reduceToNat]
                      first
                      | refine OW_guardT rfl (lt_some (by decide)) rfl (fun K hK r => ?_)
                        simp (disch := (first | omega | decide)) only [x_bin, g_int, b_mul, wrap_i64, wrap_u64, wrap_u32, wrap_u8, ev, Env.get, Option.getD_some, ↓reduceIte, Nat.reduceEqDiff, NextH, Env.putO, Env.put, ↓reduceIte, Nat.reduceEqDiff, upd_upd, Int.reduceToNat]
                        refine hK _ _ ?_; clear hK K
                      | refine OW_guardF rfl (lt_some (by decide)) rfl ?_
                        simp only [NextH, Env.putO, Env.put, ↓reduceIte, Nat.reduceEqDiff, upd_upd, Int.reduceToNat]
                      first
                      | refine OW_guardT rfl (lt_some (by decide)) rfl (fun K hK r => ?_)
                        simp only [x_move, ev, Env.get, Option.getD_some, ↓reduceIte, Nat.reduceEqDiff, NextH, Env.putO, Env.put, ↓reduceIte, Nat.reduceEqDiff, upd_upd, Int.reduceToNat]
                        refine hK _ _ ?_; clear hK K
                      | refine OW_guardF rfl (lt_some (by decide)) rfl ?_
                        simp only [NextH, Env.putO, Env.put, ↓reduceIte, Nat.reduceEqDiff, upd_upd, Int.reduceToNat]
                      first
                      | refine OW_guardT rfl (lt_some (by decide)) rfl (fun K hK r => ?_)
                        simp (disch := (first | omega | decide)) only [x_bin, g_int, b_add, wrap_i64, wrap_u64, wrap_u32, wrap_u8, ev, Env.get, Option.getD_some, ↓reduceIte, Nat.reduceEqDiff, NextH, Env.putO, Env.put, ↓reduceIte, Nat.reduceEqDiff, upd_upd, Int.reduceToNat]
                        refine hK _ _ ?_; clear hK K
                      | refine OW_guardF rfl (lt_some (by decide)) rfl ?_
                        simp only [NextH, Env.putO, Env.put, ↓reduceIte, Nat.reduceEqDiff, upd_upd, Int.reduceToNat]
                      first
                      | refine OW_guardT rfl (lt_some (by decide)) rfl (fun K hK r => ?_)
                        simp (disch := (first | omega | decide)) only [x_bin, g_int, b_gtr, dec_lt_t, dec_lt_f, dec_le_t, dec_le_f, dec_eq_t, dec_eq_f, Bool.not_true, Bool.not_false, ev, Env.get, Option.getD_some, ↓reduceIte, Nat.reduceEqDiff, NextH, Env.putO, Env.put, ↓reduceIte, Nat.reduceEqDiff, upd_upd, Int.reduceToNat]
                        refine hK _ _ ?_; clear hK K
                      | refine OW_guardF rfl (lt_some (by decide)) rfl ?_
                        simp only [NextH, Env.putO, Env.put, ↓reduceIte, Nat.reduceEqDiff, upd_upd, Int.reduceToNat]
                      refine OW_op rfl (lt_some (by decide)) (fun K hK r => ?_)
                      simp only [x_pick, l_asBool, HL.ite_bool, if_true, if_false, Bool.false_eq_true, ev, Env.get, Option.getD_some, ↓reduceIte, Nat.reduceEqDiff, NextH, Env.putO, Env.put, ↓reduceIte, Nat.reduceEqDiff, upd_upd, Int.reduceToNat]
                      refine hK _ _ ?_; clear hK K
                      refine OW_nil ?_
                      try simp only [Ex.thnH, Ex.inBlockH, ↓reduceIte, Nat.reduceEqDiff]
                      refine hK41 _ _ ?_; try clear hK41 K41
                      refine CW_cond (fun r => rfl) (fun c113 => ?_) (fun c113 => ?_)
                      · first
                        | (exfalso; exact cnA c113; done)
                        | skip
                          (try simp only [decide_eq_true_eq, decide_eq_false_iff_not, Bool.not_eq_true, Bool.not_eq_false, Bool.and_eq_true, Bool.or_eq_true, Bool.or_eq_false_iff, Bool.not_eq_true, Bool.not_eq_eq_eq_not, Bool.not_true, Bool.not_false] at c113)
                          have hm := kn_more hKN hV0 hV1 hd00 hd01 hI (by first | (left; omega) | (right; omega))
                          refine CW_skip ?_
                          try simp only [Ex.thnH, Ex.inBlockH, ↓reduceIte, Nat.reduceEqDiff]
                          refine hK40 _ _ ?_; try clear hK40 K40
                          refine CW_block ?_
                          refine CW_seq (fun K42 hK42 => ?_)
                          refine CW_region ?_
                          refine OW_op rfl (lt_some (by decide)) (fun K hK r => ?_)
                          simp only [x_move, ev, Env.get, Option.getD_some, ↓reduceIte, Nat.reduceEqDiff, NextH, Env.putO, Env.put, ↓reduceIte, Nat.reduceEqDiff, upd_upd, Int.reduceToNat]
                          refine hK _ _ ?_; clear hK K
                          refine OW_op rfl (lt_some (by decide)) (fun K hK r => ?_)
                          simp (disch := (first | omega | decide)) only [x_bin, g_int, b_sub, wrap_i64, wrap_u64, wrap_u32, wrap_u8, ev, Env.get, Option.getD_some, ↓reduceIte, Nat.reduceEqDiff, NextH, Env.putO, Env.put, ↓reduceIte, Nat.reduceEqDiff, upd_upd, Int.reduceToNat]
                          refine hK _ _ ?_; clear hK K
                          refine OW_op rfl (lt_some (by decide)) (fun K hK r => ?_)
                          simp only [x_assign, ev, Env.get, Option.getD_some, ↓reduceIte, Nat.reduceEqDiff, NextH, Env.putO, Env.put, ↓reduceIte, Nat.reduceEqDiff, upd_upd, Int.reduceToNat]
                          refine hK _ _ ?_; clear hK K
                          refine OW_nil ?_
                          try simp only [Ex.thnH, Ex.inBlockH, ↓reduceIte, Nat.reduceEqDiff]
                          refine hK42 _ _ ?_; try clear hK42 K42
                          refine CW_seq (fun K43 hK43 => ?_)
                          refine CW_region ?_
                          refine OW_op rfl (lt_some (by decide)) (fun K hK r => ?_)
                          simp only [x_move, ev, Env.get, Option.getD_some, ↓reduceIte, Nat.reduceEqDiff, NextH, Env.putO, Env.put, ↓reduceIte, Nat.reduceEqDiff, upd_upd, Int.reduceToNat]
                          refine hK _ _ ?_; clear hK K
                          refine OW_op rfl (lt_some (by decide)) (fun K hK r => ?_)
                          simp only [x_move, ev, Env.get, Option.getD_some, ↓reduceIte, Nat.reduceEqDiff, NextH, Env.putO, Env.put, ↓reduceIte, Nat.reduceEqDiff, upd_upd, Int.reduceToNat]
                          refine hK _ _ ?_; clear hK K
                          refine OW_op rfl (lt_some (by decide)) (fun K hK r => ?_)
                          simp (disch := (first | omega | decide)) only [x_bin, g_int, b_add, wrap_i64, wrap_u64, wrap_u32, wrap_u8, ev, Env.get, Option.getD_some, ↓reduceIte, Nat.reduceEqDiff, NextH, Env.putO, Env.put, ↓reduceIte, Nat.reduceEqDiff, upd_upd, Int.reduceToNat]
                          refine hK _ _ ?_; clear hK K
                          refine OW_op rfl (lt_some (by decide)) (fun K hK r => ?_)
                          simp only [x_assign, ev, Env.get, Option.getD_some, ↓reduceIte, Nat.reduceEqDiff, NextH, Env.putO, Env.put, ↓reduceIte, Nat.reduceEqDiff, upd_upd, Int.reduceToNat]
                          refine hK _ _ ?_; clear hK K
                          refine OW_nil ?_
                          try simp only [Ex.thnH, Ex.inBlockH, ↓reduceIte, Nat.reduceEqDiff]
                          refine hK43 _ _ ?_; try clear hK43 K43
                          refine CW_seq (fun K44 hK44 => ?_)
                          refine CW_region ?_
                          refine OW_op rfl (lt_some (by decide)) (fun K hK r => ?_)
                          simp only [x_move, ev, Env.get, Option.getD_some, ↓reduceIte, Nat.reduceEqDiff, NextH, Env.putO, Env.put, ↓reduceIte, Nat.reduceEqDiff, upd_upd, Int.reduceToNat]
                          refine hK _ _ ?_; clear hK K
                          refine OW_op rfl (lt_some (by decide)) (fun K hK r => ?_)
                          simp (disch := (first | omega | decide)) only [x_bin, g_int, b_geq, dec_lt_t, dec_lt_f, dec_le_t, dec_le_f, dec_eq_t, dec_eq_f, Bool.not_true, Bool.not_false, ev, Env.get, Option.getD_some, ↓reduceIte, Nat.reduceEqDiff, NextH, Env.putO, Env.put, ↓reduceIte, Nat.reduceEqDiff, upd_upd, Int.reduceToNat]
                          refine hK _ _ ?_; clear hK K
                          refine OW_nil ?_
                          try simp only [Ex.thnH, Ex.inBlockH, ↓reduceIte, Nat.reduceEqDiff]
                          refine hK44 _ _ ?_; try clear hK44 K44
                          refine CW_cond (fun r => rfl) (fun c120 => ?_) (fun c120 => ?_)
                          · first
                            | (exfalso; exact cnA c120; done)
                            | skip
                              (try simp only [decide_eq_true_eq, decide_eq_false_iff_not, Bool.not_eq_true, Bool.not_eq_false, Bool.and_eq_true, Bool.or_eq_true, Bool.or_eq_false_iff, Bool.not_eq_true, Bool.not_eq_eq_eq_not, Bool.not_true, Bool.not_false] at c120)
                              have hq := kn_out2 hKN hd00 hm.1 hm.2.1 (by omega)
                              refine CW_exit ?_
                              try simp only [Ex.thnH, Ex.inBlockH, ↓reduceIte, Nat.reduceEqDiff]
                              refine hK39 _ _ ?_; try clear hK39 K39
                              refine CW_seq (fun K45 hK45 => ?_)
                              refine CW_region ?_
                              refine OW_op rfl (lt_some (by decide)) (fun K hK r => ?_)
                              simp only [x_move, ev, Env.get, Option.getD_some, ↓reduceIte, Nat.reduceEqDiff, NextH, Env.putO, Env.put, ↓reduceIte, Nat.reduceEqDiff, upd_upd, Int.reduceToNat]
                              refine hK _ _ ?_; clear hK K
                              refine OW_op rfl (lt_some (by decide)) (fun K hK r => ?_)
                              simp (disch := (first | omega | decide)) only [x_bin, g_int, b_mul, wrap_i64, wrap_u64, wrap_u32, wrap_u8, ev, Env.get, Option.getD_some, ↓reduceIte, Nat.reduceEqDiff, NextH, Env.putO, Env.put, ↓reduceIte, Nat.reduceEqDiff, upd_upd, Int.reduceToNat]
                              obtain ⟨Q0, hQ0⟩ : ∃ z, z = (V * 4294967296 + d0) / Y := ⟨_, rfl⟩
                              rw [hq, ← hQ0]
                              have kq0 := kn_q hKN hV0 hV1 hd00 hd01
                              rw [← hQ0] at kq0
                              clear hq
                              try rw [wrapU (by omega) (by omega)]
                              refine hK _ _ ?_; clear hK K
                              refine OW_op rfl (lt_some (by decide)) (fun K hK r => ?_)
                              simp only [x_move, ev, Env.get, Option.getD_some, ↓reduceIte, Nat.reduceEqDiff, NextH, Env.putO, Env.put, ↓reduceIte, Nat.reduceEqDiff, upd_upd, Int.reduceToNat]
                              refine hK _ _ ?_; clear hK K
                              refine OW_op rfl (lt_some (by decide)) (fun K hK r => ?_)
                              simp (disch := (first | omega | decide)) only [x_bin, g_int, b_add, wrap_i64, wrap_u64, wrap_u32, wrap_u8, ev, Env.get, Option.getD_some, ↓reduceIte, Nat.reduceEqDiff, NextH, Env.putO, Env.put, ↓reduceIte, Nat.reduceEqDiff, upd_upd, Int.reduceToNat]
                              try rw [wrapU (by omega) (by omega)]
                              refine hK _ _ ?_; clear hK K
                              refine OW_op rfl (lt_some (by decide)) (fun K hK r => ?_)
                              simp only [x_move, ev, Env.get, Option.getD_some, ↓reduceIte, Nat.reduceEqDiff, NextH, Env.putO, Env.put, ↓reduceIte, Nat.reduceEqDiff, upd_upd, Int.reduceToNat]
                              refine hK _ _ ?_; clear hK K
                              refine OW_op rfl (lt_some (by decide)) (fun K hK r => ?_)
                              simp (disch := (first | omega | decide)) only [x_bin, g_int, b_mul, wrap_i64, wrap_u64, wrap_u32, wrap_u8, ev, Env.get, Option.getD_some, ↓reduceIte, Nat.reduceEqDiff, NextH, Env.putO, Env.put, ↓reduceIte, Nat.reduceEqDiff, upd_upd, Int.reduceToNat]
                              refine hK _ _ ?_; clear hK K
                              refine OW_op rfl (lt_some (by decide)) (fun K hK r => ?_)
                              simp only [x_move, ev, Env.get, Option.getD_some, ↓reduceIte, Nat.reduceEqDiff, NextH, Env.putO, Env.put, ↓reduceIte, Nat.reduceEqDiff, upd_upd, Int.reduceToNat]
                              refine hK _ _ ?_; clear hK K
                              refine OW_op rfl (lt_some (by decide)) (fun K hK r => ?_)
                              simp (disch := (first | omega | decide)) only [x_bin, g_int, b_add, wrap_i64, wrap_u64, wrap_u32, wrap_u8, ev, Env.get, Option.getD_some, ↓reduceIte, Nat.reduceEqDiff, NextH, Env.putO, Env.put, ↓reduceIte, Nat.reduceEqDiff, upd_upd, Int.reduceToNat]
                              refine hK _ _ ?_; clear hK K
                              refine OW_op rfl (lt_some (by decide)) (fun K hK r => ?_)
                              simp only [x_move, ev, Env.get, Option.getD_some, ↓reduceIte, Nat.reduceEqDiff, NextH, Env.putO, Env.put, ↓reduceIte, Nat.reduceEqDiff, upd_upd, Int.reduceToNat]
                              refine hK _ _ ?_; clear hK K
                              refine OW_op rfl (lt_some (by decide)) (fun K hK r => ?_)
                              simp only [x_move, ev, Env.get, Option.getD_some, ↓reduceIte, Nat.reduceEqDiff, NextH, Env.putO, Env.put, ↓reduceIte, Nat.reduceEqDiff, upd_upd, Int.reduceToNat]
                              refine hK _ _ ?_; clear hK K
                              refine OW_op rfl (lt_some (by decide)) (fun K hK r => ?_)
                              simp (disch := (first | omega | decide)) only [x_bin, g_int, b_mul, wrap_i64, wrap_u64, wrap_u32, wrap_u8, ev, Env.get, Option.getD_some, ↓reduceIte, Nat.reduceEqDiff, NextH, Env.putO, Env.put, ↓reduceIte, Nat.reduceEqDiff, upd_upd, Int.reduceToNat]
                              refine hK _ _ ?_; clear hK K
                              refine OW_op rfl (lt_some (by decide)) (fun K hK r => ?_)
                              simp (disch := (first | omega | decide)) only [x_bin, g_int, b_sub, wrap_i64, wrap_u64, wrap_u32, wrap_u8, ev, Env.get, Option.getD_some, ↓reduceIte, Nat.reduceEqDiff, NextH, Env.putO, Env.put, ↓reduceIte, Nat.reduceEqDiff, upd_upd, Int.reduceToNat]
                              refine hK _ _ ?_; clear hK K
                              refine OW_op rfl (lt_some (by decide)) (fun K hK r => ?_)
                              simp only [x_move, ev, Env.get, Option.getD_some, ↓reduceIte, Nat.reduceEqDiff, NextH, Env.putO, Env.put, ↓reduceIte, Nat.reduceEqDiff, upd_upd, Int.reduceToNat]
                              refine hK _ _ ?_; clear hK K
                              refine OW_op rfl (lt_some (by decide)) (fun K hK r => ?_)
                              simp (disch := (first | omega | decide)) only [x_bin, g_int, b_shr, wrap_i64, wrap_u64, wrap_u32, wrap_u8, ev, Env.get, Option.getD_some, ↓reduceIte, Nat.reduceEqDiff, NextH, Env.putO, Env.put, ↓reduceIte, Nat.reduceEqDiff, upd_upd, Int.reduceToNat]
                              refine hK _ _ ?_; clear hK K
                              refine OW_op rfl (lt_some (by decide)) (fun K hK r => ?_)
                              simp only [x_assign, ev, Env.get, Option.getD_some, ↓reduceIte, Nat.reduceEqDiff, NextH, Env.putO, Env.put, ↓reduceIte, Nat.reduceEqDiff, upd_upd, Int.reduceToNat]
                              refine hK _ _ ?_; clear hK K
                              refine OW_op rfl (lt_some (by decide)) (fun K hK r => ?_)
                              simp only [x_assign, ev, Env.get, Option.getD_some, ↓reduceIte, Nat.reduceEqDiff, NextH, Env.putO, Env.put, ↓reduceIte, Nat.reduceEqDiff, upd_upd, Int.reduceToNat]
                              refine hK _ _ ?_; clear hK K
                              refine OW_nil ?_
                              try simp only [Ex.thnH, Ex.inBlockH, ↓reduceIte, Nat.reduceEqDiff]
                              refine hK45 _ _ ?_; try clear hK45 K45
                              refine CW_ret ?_
                              try simp only [Ex.thnH, Ex.inBlockH, ↓reduceIte, Nat.reduceEqDiff]
                              refine ⟨[_, _], ⟨rfl, rfl, trivial⟩, _, Le.refl _, ⟨_, congrArg (fun z => Value.tuple #[.int .u64 z, .int .u64 _]) ?_⟩, rfl⟩
                              have k2 := kn_two (Y := Y) (a := U) (b := d1) (c := d0) (by omega) hd00
                              rw [← hQ1, ← hV, ← hQ0] at k2
                              rw [k2, hU, hY]
                              exact kn_shift hs64 d1 d0 (by omega)
                          · first
                            | (exfalso; exact cnA c120; done)
                            | skip
                              (try simp only [decide_eq_true_eq, decide_eq_false_iff_not, Bool.not_eq_true, Bool.not_eq_false, Bool.and_eq_true, Bool.or_eq_true, Bool.or_eq_false_iff, Bool.not_eq_true, Bool.not_eq_eq_eq_not, Bool.not_true, Bool.not_false] at c120)
                              refine CW_skip ?_
                              try simp only [Ex.thnH, Ex.inBlockH, ↓reduceIte, Nat.reduceEqDiff]
                              refine ⟨_, by omega, _, _, rfl, hm.1, by omega, ⟨rfl, rfl, rfl, rfl, rfl, rfl, rfl, rfl, rfl, trivial⟩, rfA⟩
                      · first
                        | (exfalso; exact cnA c113; done)
                        | skip
                          (try simp only [decide_eq_true_eq, decide_eq_false_iff_not, Bool.not_eq_true, Bool.not_eq_false, Bool.and_eq_true, Bool.or_eq_true, Bool.or_eq_false_iff, Bool.not_eq_true, Bool.not_eq_eq_eq_not, Bool.not_true, Bool.not_false] at c113)
                          have hq := kn_out hKN hI (by omega)
                          refine CW_exit ?_
                          try simp only [Ex.thnH, Ex.inBlockH, ↓reduceIte, Nat.reduceEqDiff]
                          refine hK39 _ _ ?_; try clear hK39 K39
                          refine CW_seq (fun K46 hK46 => ?_)
                          refine CW_region ?_
                          refine OW_op rfl (lt_some (by decide)) (fun K hK r => ?_)
                          simp only [x_move, ev, Env.get, Option.getD_some, ↓reduceIte, Nat.reduceEqDiff, NextH, Env.putO, Env.put, ↓reduceIte, Nat.reduceEqDiff, upd_upd, Int.reduceToNat]
                          refine hK _ _ ?_; clear hK K
                          refine OW_op rfl (lt_some (by decide)) (fun K hK r => ?_)
                          simp (disch := (first | omega | decide)) only [x_bin, g_int, b_mul, wrap_i64, wrap_u64, wrap_u32, wrap_u8, ev, Env.get, Option.getD_some, ↓reduceIte, Nat.reduceEqDiff, NextH, Env.putO, Env.put, ↓reduceIte, Nat.reduceEqDiff, upd_upd, Int.reduceToNat]
                          obtain ⟨Q0, hQ0⟩ : ∃ z, z = (V * 4294967296 + d0) / Y := ⟨_, rfl⟩
                          rw [hq, ← hQ0]
                          have kq0 := kn_q hKN hV0 hV1 hd00 hd01
                          rw [← hQ0] at kq0
                          clear hq
                          try rw [wrapU (by omega) (by omega)]
                          refine hK _ _ ?_; clear hK K
                          refine OW_op rfl (lt_some (by decide)) (fun K hK r => ?_)
                          simp only [x_move, ev, Env.get, Option.getD_some, ↓reduceIte, Nat.reduceEqDiff, NextH, Env.putO, Env.put, ↓reduceIte, Nat.reduceEqDiff, upd_upd, Int.reduceToNat]
                          refine hK _ _ ?_; clear hK K
                          refine OW_op rfl (lt_some (by decide)) (fun K hK r => ?_)
                          simp (disch := (first | omega | decide)) only [x_bin, g_int, b_add, wrap_i64, wrap_u64, wrap_u32, wrap_u8, ev, Env.get, Option.getD_some, ↓reduceIte, Nat.reduceEqDiff, NextH, Env.putO, Env.put, ↓reduceIte, Nat.reduceEqDiff, upd_upd, Int.reduceToNat]
                          try rw [wrapU (by omega) (by omega)]
                          refine hK _ _ ?_; clear hK K
                          refine OW_op rfl (lt_some (by decide)) (fun K hK r => ?_)
                          simp only [x_move, ev, Env.get, Option.getD_some, ↓reduceIte, Nat.reduceEqDiff, NextH, Env.putO, Env.put, ↓reduceIte, Nat.reduceEqDiff, upd_upd, Int.reduceToNat]
                          refine hK _ _ ?_; clear hK K
                          refine OW_op rfl (lt_some (by decide)) (fun K hK r => ?_)
                          simp (disch := (first | omega | decide)) only [x_bin, g_int, b_mul, wrap_i64, wrap_u64, wrap_u32, wrap_u8, ev, Env.get, Option.getD_some, ↓reduceIte, Nat.reduceEqDiff, NextH, Env.putO, Env.put, ↓reduceIte, Nat.reduceEqDiff, upd_upd, Int.reduceToNat]
                          refine hK _ _ ?_; clear hK K
                          refine OW_op rfl (lt_some (by decide)) (fun K hK r => ?_)
                          simp only [x_move, ev, Env.get, Option.getD_some, ↓reduceIte, Nat.reduceEqDiff, NextH, Env.putO, Env.put, ↓reduceIte, Nat.reduceEqDiff, upd_upd, Int.reduceToNat]
                          refine hK _ _ ?_; clear hK K
                          refine OW_op rfl (lt_some (by decide)) (fun K hK r => ?_)
                          simp (disch := (first | omega | decide)) only [x_bin, g_int, b_add, wrap_i64, wrap_u64, wrap_u32, wrap_u8, ev, Env.get, Option.getD_some, ↓reduceIte, Nat.reduceEqDiff, NextH, Env.putO, Env.put, ↓reduceIte, Nat.reduceEqDiff, upd_upd, Int.reduceToNat]
                          refine hK _ _ ?_; clear hK K
                          refine OW_op rfl (lt_some (by decide)) (fun K hK r => ?_)
                          simp only [x_move, ev, Env.get, Option.getD_some, ↓reduceIte, Nat.reduceEqDiff, NextH, Env.putO, Env.put, ↓reduceIte, Nat.reduceEqDiff, upd_upd, Int.reduceToNat]
                          refine hK _ _ ?_; clear hK K
                          refine OW_op rfl (lt_some (by decide)) (fun K hK r => ?_)
                          simp only [x_move, ev, Env.get, Option.getD_some, ↓reduceIte, Nat.reduceEqDiff, NextH, Env.putO, Env.put, ↓reduceIte, Nat.reduceEqDiff, upd_upd, Int.reduceToNat]
                          refine hK _ _ ?_; clear hK K
                          refine OW_op rfl (lt_some (by decide)) (fun K hK r => ?_)
                          simp (disch := (first | omega | decide)) only [x_bin, g_int, b_mul, wrap_i64, wrap_u64, wrap_u32, wrap_u8, ev, Env.get, Option.getD_some, ↓reduceIte, Nat.reduceEqDiff, NextH, Env.putO, Env.put, ↓reduceIte, Nat.reduceEqDiff, upd_upd, Int.reduceToNat]
                          refine hK _ _ ?_; clear hK K
                          refine OW_op rfl (lt_some (by decide)) (fun K hK r => ?_)
                          simp (disch := (first | omega | decide)) only [x_bin, g_int, b_sub, wrap_i64, wrap_u64, wrap_u32, wrap_u8, ev, Env.get, Option.getD_some, ↓reduceIte, Nat.reduceEqDiff, NextH, Env.putO, Env.put, ↓reduceIte, Nat.reduceEqDiff, upd_upd, Int.reduceToNat]
                          refine hK _ _ ?_; clear hK K
                          refine OW_op rfl (lt_some (by decide)) (fun K hK r => ?_)
                          simp only [x_move, ev, Env.get, Option.getD_some, ↓reduceIte, Nat.reduceEqDiff, NextH, Env.putO, Env.put, ↓reduceIte, Nat.reduceEqDiff, upd_upd, Int.reduceToNat]
                          refine hK _ _ ?_; clear hK K
                          refine OW_op rfl (lt_some (by decide)) (fun K hK r => ?_)
                          simp (disch := (first | omega | decide)) only [x_bin, g_int, b_shr, wrap_i64, wrap_u64, wrap_u32, wrap_u8, ev, Env.get, Option.getD_some, ↓reduceIte, Nat.reduceEqDiff, NextH, Env.putO, Env.put, ↓reduceIte, Nat.reduceEqDiff, upd_upd, Int.reduceToNat]
                          refine hK _ _ ?_; clear hK K
                          refine OW_op rfl (lt_some (by decide)) (fun K hK r => ?_)
                          simp only [x_assign, ev, Env.get, Option.getD_some, ↓reduceIte, Nat.reduceEqDiff, NextH, Env.putO, Env.put, ↓reduceIte, Nat.reduceEqDiff, upd_upd, Int.reduceToNat]
                          refine hK _ _ ?_; clear hK K
                          refine OW_op rfl (lt_some (by decide)) (fun K hK r => ?_)
                          simp only [x_assign, ev, Env.get, Option.getD_some, ↓reduceIte, Nat.reduceEqDiff, NextH, Env.putO, Env.put, ↓reduceIte, Nat.reduceEqDiff, upd_upd, Int.reduceToNat]
                          refine hK _ _ ?_; clear hK K
                          refine OW_nil ?_
                          try simp only [Ex.thnH, Ex.inBlockH, ↓reduceIte, Nat.reduceEqDiff]
                          refine hK46 _ _ ?_; try clear hK46 K46
                          refine CW_ret ?_
                          try simp only [Ex.thnH, Ex.inBlockH, ↓reduceIte, Nat.reduceEqDiff]
                          refine ⟨[_, _], ⟨rfl, rfl, trivial⟩, _, Le.refl _, ⟨_, congrArg (fun z => Value.tuple #[.int .u64 z, .int .u64 _]) ?_⟩, rfl⟩
                          have k2 := kn_two (Y := Y) (a := U) (b := d1) (c := d0) (by omega) hd00
                          rw [← hQ1, ← hV, ← hQ0] at k2
                          rw [k2, hU, hY]
                          exact kn_shift hs64 d1 d0 (by omega)

end Go.Proofs.Ytbeepknfcjejkaa.HL
