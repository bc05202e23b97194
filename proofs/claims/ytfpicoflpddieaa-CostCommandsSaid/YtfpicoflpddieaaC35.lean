/- A part of the proof. -/
import Derived.Test.YtfpicoflpddieaaC34
import Derived.Test.YtfpicoflpddieaaC27
import Derived.Test.YtfpicoflpddieaaMd12c
namespace Go.Proofs.Ytfpicoflpddieaa.HL
open Go Go.Proofs
set_option linter.unusedSimpArgs false
set_option linter.unusedVariables false
attribute [local irreducible] Lt Lq CW OW TW CallH

set_option maxRecDepth 100000 in
set_option maxHeartbeats 1000000 in
theorem times_ok (H : Hp) (a b : Int) (a1 : -9223372036854775808 ≤ a) (a2 : a ≤ 9223372036854775807) (b1 : -9223372036854775808 ≤ b) (b2 : b ≤ 9223372036854775807) : CallH Try.prog 21 #[.int .i64 a, .int .i64 b] H (fun v H' => v = .tuple #[.int .i64 (IntKind.i64.wrap (a * b)), .bool (decide (fitsI (a * b)))] ∧ Le H H') := by
  refine CallH_enter (l := [_, _]) (rl := [.tmp 4, .tmp 5]) (n := 14) Try.func21 rfl rfl rfl rfl rfl ?_
  simp only [envOf, Nat.reduceAdd]
  refine CW_seq (fun K1 hK1 => ?_)
  refine CW_region ?_
  refine OW_op rfl (lt_some (by decide)) (fun K hK r => ?_)
  simp only [x_assign, ev, Env.get, Option.getD_some, ↓reduceIte, Nat.reduceEqDiff, NextH, Env.putO, Env.put, ↓reduceIte, Nat.reduceEqDiff, upd_upd, Int.reduceToNat]
  refine hK _ _ ?_; clear hK K
  refine OW_op rfl (lt_some (by decide)) (fun K hK r => ?_)
  simp only [x_assign, ev, Env.get, Option.getD_some, ↓reduceIte, Nat.reduceEqDiff, NextH, Env.putO, Env.put, ↓reduceIte, Nat.reduceEqDiff, upd_upd, Int.reduceToNat]
  refine hK _ _ ?_; clear hK K
  refine OW_nil ?_
  try simp only [Ex.thnH, Ex.inBlockH, ↓reduceIte, Nat.reduceEqDiff]
  refine hK1 _ _ ?_; try clear hK1 K1
  refine CW_seq (fun K2 hK2 => ?_)
  refine CW_region ?_
  refine OW_op rfl (lt_some (by decide)) (fun K hK r => ?_)
  simp only [x_move, ev, Env.get, Option.getD_some, ↓reduceIte, Nat.reduceEqDiff, NextH, Env.putO, Env.put, ↓reduceIte, Nat.reduceEqDiff, upd_upd, Int.reduceToNat]
  refine hK _ _ ?_; clear hK K
  refine OW_op rfl (lt_some (by decide)) (fun K hK r => ?_)
  simp only [x_callF _ bd23, List.map_toArray, List.map_cons, List.map_nil, ev, Env.get, Option.getD_some, ↓reduceIte, Nat.reduceEqDiff, NextH, Env.putO, Env.put, ↓reduceIte, Nat.reduceEqDiff, upd_upd, Int.reduceToNat]
  refine (Of_ok _ a a1 a2).mono ?_
  rintro v7 H7 ⟨hl7, l7, hb7, hdec7, hbv7⟩
  have lH7_H : Le H H7 := Le.trans lhA hl7
  try simp only [ev, Env.get, Option.getD_some, ↓reduceIte, Nat.reduceEqDiff, NextH, Env.putO, Env.put, ↓reduceIte, Nat.reduceEqDiff, upd_upd, Int.reduceToNat]
  refine hK _ _ ?_; clear hK K
  refine OW_op rfl (lt_some (by decide)) (fun K hK r => ?_)
  simp only [x_move, ev, Env.get, Option.getD_some, ↓reduceIte, Nat.reduceEqDiff, NextH, Env.putO, Env.put, ↓reduceIte, Nat.reduceEqDiff, upd_upd, Int.reduceToNat]
  refine hK _ _ ?_; clear hK K
  refine OW_op rfl (lt_some (by decide)) (fun K hK r => ?_)
  simp only [x_callF _ bd23, List.map_toArray, List.map_cons, List.map_nil, ev, Env.get, Option.getD_some, ↓reduceIte, Nat.reduceEqDiff, NextH, Env.putO, Env.put, ↓reduceIte, Nat.reduceEqDiff, upd_upd, Int.reduceToNat]
  refine (Of_ok _ b b1 b2).mono ?_
  rintro v9 H9 ⟨hl9, l9, hb9, hdec9, hbv9⟩
  have lH9_H : Le H H9 := Le.trans lhA hl9
  try simp only [ev, Env.get, Option.getD_some, ↓reduceIte, Nat.reduceEqDiff, NextH, Env.putO, Env.put, ↓reduceIte, Nat.reduceEqDiff, upd_upd, Int.reduceToNat]
  refine hK _ _ ?_; clear hK K
  refine OW_op rfl (lt_some (by decide)) (fun K hK r => ?_)
  simp only [x_callF _ bd30, List.map_toArray, List.map_cons, List.map_nil, ev, Env.get, Option.getD_some, ↓reduceIte, Nat.reduceEqDiff, NextH, Env.putO, Env.put, ↓reduceIte, Nat.reduceEqDiff, upd_upd, Int.reduceToNat]
  refine (Mul2_ok _ _ _ _ _ _ _ 20 20 (hb7.le hl9) hb9 (by omega) (by omega)).mono ?_
  rintro v10 H10 ⟨hl10, c10, l10, hb10, hv10⟩
  have lH10_H : Le H H10 := Le.trans lhA hl10
  try simp only [ev, Env.get, Option.getD_some, ↓reduceIte, Nat.reduceEqDiff, NextH, Env.putO, Env.put, ↓reduceIte, Nat.reduceEqDiff, upd_upd, Int.reduceToNat]
  refine hK _ _ ?_; clear hK K
  refine OW_op rfl (lt_some (by decide)) (fun K hK r => ?_)
  simp only [x_callF _ bd24, List.map_toArray, List.map_cons, List.map_nil, ev, Env.get, Option.getD_some, ↓reduceIte, Nat.reduceEqDiff, NextH, Env.putO, Env.put, ↓reduceIte, Nat.reduceEqDiff, upd_upd, Int.reduceToNat]
  refine (Number_ok _ _ _ _ 4000 hb10 (by omega)).mono ?_
  rintro v11 H11 ⟨hl11, rfl⟩
  have lH11_H : Le H H11 := Le.trans lhA hl11
  rw [hv10, hbv7, hbv9]
  try simp only [ev, Env.get, Option.getD_some, ↓reduceIte, Nat.reduceEqDiff, NextH, Env.putO, Env.put, ↓reduceIte, Nat.reduceEqDiff, upd_upd, Int.reduceToNat]
  refine hK _ _ ?_; clear hK K
  refine OW_op rfl (lt_some (by decide)) (fun K hK r => ?_)
  simp only [x_extract, i_extract, List.getElem?_toArray, List.getElem?_cons_zero, List.getElem?_cons_succ, orF_some, ev, Env.get, Option.getD_some, ↓reduceIte, Nat.reduceEqDiff, NextH, Env.putO, Env.put, ↓reduceIte, Nat.reduceEqDiff, upd_upd, Int.reduceToNat]
  refine hK _ _ ?_; clear hK K
  refine OW_op rfl (lt_some (by decide)) (fun K hK r => ?_)
  simp only [x_extract, i_extract, List.getElem?_toArray, List.getElem?_cons_zero, List.getElem?_cons_succ, orF_some, ev, Env.get, Option.getD_some, ↓reduceIte, Nat.reduceEqDiff, NextH, Env.putO, Env.put, ↓reduceIte, Nat.reduceEqDiff, upd_upd, Int.reduceToNat]
  refine hK _ _ ?_; clear hK K
  refine OW_op rfl (lt_some (by decide)) (fun K hK r => ?_)
  simp only [x_assign, ev, Env.get, Option.getD_some, ↓reduceIte, Nat.reduceEqDiff, NextH, Env.putO, Env.put, ↓reduceIte, Nat.reduceEqDiff, upd_upd, Int.reduceToNat]
  refine hK _ _ ?_; clear hK K
  refine OW_op rfl (lt_some (by decide)) (fun K hK r => ?_)
  simp only [x_assign, ev, Env.get, Option.getD_some, ↓reduceIte, Nat.reduceEqDiff, NextH, Env.putO, Env.put, ↓reduceIte, Nat.reduceEqDiff, upd_upd, Int.reduceToNat]
  refine hK _ _ ?_; clear hK K
  refine OW_nil ?_
  try simp only [Ex.thnH, Ex.inBlockH, ↓reduceIte, Nat.reduceEqDiff]
  refine hK2 _ _ ?_; try clear hK2 K2
  refine CW_ret ?_
  try simp only [Ex.thnH, Ex.inBlockH, ↓reduceIte, Nat.reduceEqDiff]
  refine ⟨[_, _], ⟨rfl, rfl, trivial⟩, _, Le.refl _, rfl, lhA⟩

set_option maxRecDepth 100000 in
set_option maxHeartbeats 1000000 in
theorem rCosts_ok (H : Hp) (pb pc pf pw pp bt fu wr : Int) (pb1 : -9223372036854775808 ≤ pb) (pb2 : pb ≤ 9223372036854775807) (pc1 : -9223372036854775808 ≤ pc) (pc2 : pc ≤ 9223372036854775807) (pf1 : -9223372036854775808 ≤ pf) (pf2 : pf ≤ 9223372036854775807) (pw1 : -9223372036854775808 ≤ pw) (pw2 : pw ≤ 9223372036854775807) (bt1 : -9223372036854775808 ≤ bt) (bt2 : bt ≤ 9223372036854775807) (fu1 : -9223372036854775808 ≤ fu) (fu2 : fu ≤ 9223372036854775807) (wr1 : -9223372036854775808 ≤ wr) (wr2 : wr ≤ 9223372036854775807) : CallH Try.prog 9 #[.agg #[.int .i64 pb, .int .i64 pc, .int .i64 pf, .int .i64 pw, .int .i64 pp], .int .i64 bt, .int .i64 fu, .int .i64 wr] H (fun v H' => v = .tuple #[.int .i64 (rcC pb pc pf bt fu), .bool (decide (cmdOk pb pc pf bt fu)), .int .i64 (IntKind.i64.wrap (pw * wr)), .bool (decide (fitsI (pw * wr)))] ∧ Le H H') := by
  refine CallH_enter (l := [_, _, _, _]) (rl := [.tmp 8, .tmp 9, .tmp 10, .tmp 11]) (n := 66) Try.func9 rfl rfl rfl rfl rfl ?_
  simp only [envOf, Nat.reduceAdd]
  have hwa := wrap_range (pc * bt)
  have hwb := wrap_range (pf * fu)
  refine CW_seq (fun K1 hK1 => ?_)
  refine CW_region ?_
  refine OW_op rfl (lt_some (by decide)) (fun K hK r => ?_)
  simp only [x_box, Value.cells, ev, Env.get, Option.getD_some, ↓reduceIte, Nat.reduceEqDiff, NextH, Env.putO, Env.put, ↓reduceIte, Nat.reduceEqDiff, upd_upd, Int.reduceToNat]
  intro b4 hb4
  have f4_H : H b4 = none := none_of_le lhA hb4
  try simp only [ev, Env.get, Option.getD_some, ↓reduceIte, Nat.reduceEqDiff, NextH, Env.putO, Env.put, ↓reduceIte, Nat.reduceEqDiff, upd_upd, Int.reduceToNat]
  refine hK _ _ ?_; clear hK K
  refine OW_op rfl (lt_some (by decide)) (fun K hK r => ?_)
  simp only [x_assign, ev, Env.get, Option.getD_some, ↓reduceIte, Nat.reduceEqDiff, NextH, Env.putO, Env.put, ↓reduceIte, Nat.reduceEqDiff, upd_upd, Int.reduceToNat]
  refine hK _ _ ?_; clear hK K
  refine OW_op rfl (lt_some (by decide)) (fun K hK r => ?_)
  simp only [x_assign, ev, Env.get, Option.getD_some, ↓reduceIte, Nat.reduceEqDiff, NextH, Env.putO, Env.put, ↓reduceIte, Nat.reduceEqDiff, upd_upd, Int.reduceToNat]
  refine hK _ _ ?_; clear hK K
  refine OW_op rfl (lt_some (by decide)) (fun K hK r => ?_)
  simp only [x_assign, ev, Env.get, Option.getD_some, ↓reduceIte, Nat.reduceEqDiff, NextH, Env.putO, Env.put, ↓reduceIte, Nat.reduceEqDiff, upd_upd, Int.reduceToNat]
  refine hK _ _ ?_; clear hK K
  refine OW_op rfl (lt_some (by decide)) (fun K hK r => ?_)
  simp only [x_assign, ev, Env.get, Option.getD_some, ↓reduceIte, Nat.reduceEqDiff, NextH, Env.putO, Env.put, ↓reduceIte, Nat.reduceEqDiff, upd_upd, Int.reduceToNat]
  refine hK _ _ ?_; clear hK K
  refine OW_nil ?_
  try simp only [Ex.thnH, Ex.inBlockH, ↓reduceIte, Nat.reduceEqDiff]
  refine hK1 _ _ ?_; try clear hK1 K1
  refine CW_seq (fun K2 hK2 => ?_)
  refine CW_region ?_
  refine OW_op rfl (lt_some (by decide)) (fun K hK r => ?_)
  simp only [x_fieldAddr, fa23_3, add_mk, Nat.reduceAdd, Nat.zero_add, ev, Env.get, Option.getD_some, ↓reduceIte, Nat.reduceEqDiff, NextH, Env.putO, Env.put, ↓reduceIte, Nat.reduceEqDiff, upd_upd, Int.reduceToNat]
  refine hK _ _ ?_; clear hK K
  refine OW_op rfl (lt_some (by decide)) (fun K hK r => ?_)
  simp only [x_load, ev, Env.get, Option.getD_some, ↓reduceIte, Nat.reduceEqDiff, NextH, Env.putO, Env.put, ↓reduceIte, Nat.reduceEqDiff, upd_upd, Int.reduceToNat]
  refine Lt_loadAt1 Try.underlying3 rfl hbA ldA ?_
  try simp only [ev, Env.get, Option.getD_some, ↓reduceIte, Nat.reduceEqDiff, NextH, Env.putO, Env.put, ↓reduceIte, Nat.reduceEqDiff, upd_upd, Int.reduceToNat]
  refine hK _ _ ?_; clear hK K
  refine OW_op rfl (lt_some (by decide)) (fun K hK r => ?_)
  simp only [x_move, ev, Env.get, Option.getD_some, ↓reduceIte, Nat.reduceEqDiff, NextH, Env.putO, Env.put, ↓reduceIte, Nat.reduceEqDiff, upd_upd, Int.reduceToNat]
  refine hK _ _ ?_; clear hK K
  refine OW_op rfl (lt_some (by decide)) (fun K hK r => ?_)
  simp only [x_callF _ bd21, List.map_toArray, List.map_cons, List.map_nil, ev, Env.get, Option.getD_some, ↓reduceIte, Nat.reduceEqDiff, NextH, Env.putO, Env.put, ↓reduceIte, Nat.reduceEqDiff, upd_upd, Int.reduceToNat]
  refine (times_ok _ pw wr pw1 pw2 wr1 wr2).mono ?_
  rintro v25 H25 ⟨rfl, hl25⟩
  have kH25_b4 := hl25 b4 _ hbA
  have lH25_H : Le H H25 := Le.trans lhA hl25
  try simp only [ev, Env.get, Option.getD_some, ↓reduceIte, Nat.reduceEqDiff, NextH, Env.putO, Env.put, ↓reduceIte, Nat.reduceEqDiff, upd_upd, Int.reduceToNat]
  refine hK _ _ ?_; clear hK K
  refine OW_op rfl (lt_some (by decide)) (fun K hK r => ?_)
  simp only [x_move, ev, Env.get, Option.getD_some, ↓reduceIte, Nat.reduceEqDiff, NextH, Env.putO, Env.put, ↓reduceIte, Nat.reduceEqDiff, upd_upd, Int.reduceToNat]
  refine hK _ _ ?_; clear hK K
  refine OW_op rfl (lt_some (by decide)) (fun K hK r => ?_)
  simp only [x_extract, i_extract, List.getElem?_toArray, List.getElem?_cons_zero, List.getElem?_cons_succ, orF_some, ev, Env.get, Option.getD_some, ↓reduceIte, Nat.reduceEqDiff, NextH, Env.putO, Env.put, ↓reduceIte, Nat.reduceEqDiff, upd_upd, Int.reduceToNat]
  refine hK _ _ ?_; clear hK K
  refine OW_op rfl (lt_some (by decide)) (fun K hK r => ?_)
  simp only [x_extract, i_extract, List.getElem?_toArray, List.getElem?_cons_zero, List.getElem?_cons_succ, orF_some, ev, Env.get, Option.getD_some, ↓reduceIte, Nat.reduceEqDiff, NextH, Env.putO, Env.put, ↓reduceIte, Nat.reduceEqDiff, upd_upd, Int.reduceToNat]
  refine hK _ _ ?_; clear hK K
  refine OW_op rfl (lt_some (by decide)) (fun K hK r => ?_)
  simp only [x_assign, ev, Env.get, Option.getD_some, ↓reduceIte, Nat.reduceEqDiff, NextH, Env.putO, Env.put, ↓reduceIte, Nat.reduceEqDiff, upd_upd, Int.reduceToNat]
  refine hK _ _ ?_; clear hK K
  refine OW_op rfl (lt_some (by decide)) (fun K hK r => ?_)
  simp only [x_assign, ev, Env.get, Option.getD_some, ↓reduceIte, Nat.reduceEqDiff, NextH, Env.putO, Env.put, ↓reduceIte, Nat.reduceEqDiff, upd_upd, Int.reduceToNat]
  refine hK _ _ ?_; clear hK K
  refine OW_nil ?_
  try simp only [Ex.thnH, Ex.inBlockH, ↓reduceIte, Nat.reduceEqDiff]
  refine hK2 _ _ ?_; try clear hK2 K2
  refine CW_seq (fun K3 hK3 => ?_)
  refine CW_region ?_
  refine OW_op rfl (lt_some (by decide)) (fun K hK r => ?_)
  simp only [x_fieldAddr, fa23_1, add_mk, Nat.reduceAdd, Nat.zero_add, ev, Env.get, Option.getD_some, ↓reduceIte, Nat.reduceEqDiff, NextH, Env.putO, Env.put, ↓reduceIte, Nat.reduceEqDiff, upd_upd, Int.reduceToNat]
  refine hK _ _ ?_; clear hK K
  refine OW_op rfl (lt_some (by decide)) (fun K hK r => ?_)
  simp only [x_load, ev, Env.get, Option.getD_some, ↓reduceIte, Nat.reduceEqDiff, NextH, Env.putO, Env.put, ↓reduceIte, Nat.reduceEqDiff, upd_upd, Int.reduceToNat]
  refine Lt_loadAt1 Try.underlying3 rfl hbA ldA ?_
  try simp only [ev, Env.get, Option.getD_some, ↓reduceIte, Nat.reduceEqDiff, NextH, Env.putO, Env.put, ↓reduceIte, Nat.reduceEqDiff, upd_upd, Int.reduceToNat]
  refine hK _ _ ?_; clear hK K
  refine OW_op rfl (lt_some (by decide)) (fun K hK r => ?_)
  simp only [x_move, ev, Env.get, Option.getD_some, ↓reduceIte, Nat.reduceEqDiff, NextH, Env.putO, Env.put, ↓reduceIte, Nat.reduceEqDiff, upd_upd, Int.reduceToNat]
  refine hK _ _ ?_; clear hK K
  refine OW_op rfl (lt_some (by decide)) (fun K hK r => ?_)
  simp only [x_callF _ bd21, List.map_toArray, List.map_cons, List.map_nil, ev, Env.get, Option.getD_some, ↓reduceIte, Nat.reduceEqDiff, NextH, Env.putO, Env.put, ↓reduceIte, Nat.reduceEqDiff, upd_upd, Int.reduceToNat]
  refine (times_ok _ pc bt pc1 pc2 bt1 bt2).mono ?_
  rintro v32 H32 ⟨rfl, hl32⟩
  have kH32_b4 := hl32 b4 _ hbA
  have lH32_H : Le H H32 := Le.trans lhA hl32
  try simp only [ev, Env.get, Option.getD_some, ↓reduceIte, Nat.reduceEqDiff, NextH, Env.putO, Env.put, ↓reduceIte, Nat.reduceEqDiff, upd_upd, Int.reduceToNat]
  refine hK _ _ ?_; clear hK K
  refine OW_op rfl (lt_some (by decide)) (fun K hK r => ?_)
  simp only [x_move, ev, Env.get, Option.getD_some, ↓reduceIte, Nat.reduceEqDiff, NextH, Env.putO, Env.put, ↓reduceIte, Nat.reduceEqDiff, upd_upd, Int.reduceToNat]
  refine hK _ _ ?_; clear hK K
  refine OW_op rfl (lt_some (by decide)) (fun K hK r => ?_)
  simp only [x_extract, i_extract, List.getElem?_toArray, List.getElem?_cons_zero, List.getElem?_cons_succ, orF_some, ev, Env.get, Option.getD_some, ↓reduceIte, Nat.reduceEqDiff, NextH, Env.putO, Env.put, ↓reduceIte, Nat.reduceEqDiff, upd_upd, Int.reduceToNat]
  refine hK _ _ ?_; clear hK K
  refine OW_op rfl (lt_some (by decide)) (fun K hK r => ?_)
  simp only [x_extract, i_extract, List.getElem?_toArray, List.getElem?_cons_zero, List.getElem?_cons_succ, orF_some, ev, Env.get, Option.getD_some, ↓reduceIte, Nat.reduceEqDiff, NextH, Env.putO, Env.put, ↓reduceIte, Nat.reduceEqDiff, upd_upd, Int.reduceToNat]
  refine hK _ _ ?_; clear hK K
  refine OW_op rfl (lt_some (by decide)) (fun K hK r => ?_)
  simp only [x_assign, ev, Env.get, Option.getD_some, ↓reduceIte, Nat.reduceEqDiff, NextH, Env.putO, Env.put, ↓reduceIte, Nat.reduceEqDiff, upd_upd, Int.reduceToNat]
  refine hK _ _ ?_; clear hK K
  refine OW_op rfl (lt_some (by decide)) (fun K hK r => ?_)
  simp only [x_assign, ev, Env.get, Option.getD_some, ↓reduceIte, Nat.reduceEqDiff, NextH, Env.putO, Env.put, ↓reduceIte, Nat.reduceEqDiff, upd_upd, Int.reduceToNat]
  refine hK _ _ ?_; clear hK K
  refine OW_nil ?_
  try simp only [Ex.thnH, Ex.inBlockH, ↓reduceIte, Nat.reduceEqDiff]
  refine hK3 _ _ ?_; try clear hK3 K3
  refine CW_seq (fun K4 hK4 => ?_)
  refine CW_region ?_
  refine OW_op rfl (lt_some (by decide)) (fun K hK r => ?_)
  simp only [x_fieldAddr, fa23_2, add_mk, Nat.reduceAdd, Nat.zero_add, ev, Env.get, Option.getD_some, ↓reduceIte, Nat.reduceEqDiff, NextH, Env.putO, Env.put, ↓reduceIte, Nat.reduceEqDiff, upd_upd, Int.reduceToNat]
  refine hK _ _ ?_; clear hK K
  refine OW_op rfl (lt_some (by decide)) (fun K hK r => ?_)
  simp only [x_load, ev, Env.get, Option.getD_some, ↓reduceIte, Nat.reduceEqDiff, NextH, Env.putO, Env.put, ↓reduceIte, Nat.reduceEqDiff, upd_upd, Int.reduceToNat]
  refine Lt_loadAt1 Try.underlying3 rfl hbA ldA ?_
  try simp only [ev, Env.get, Option.getD_some, ↓reduceIte, Nat.reduceEqDiff, NextH, Env.putO, Env.put, ↓reduceIte, Nat.reduceEqDiff, upd_upd, Int.reduceToNat]
  refine hK _ _ ?_; clear hK K
  refine OW_op rfl (lt_some (by decide)) (fun K hK r => ?_)
  simp only [x_move, ev, Env.get, Option.getD_some, ↓reduceIte, Nat.reduceEqDiff, NextH, Env.putO, Env.put, ↓reduceIte, Nat.reduceEqDiff, upd_upd, Int.reduceToNat]
  refine hK _ _ ?_; clear hK K
  refine OW_op rfl (lt_some (by decide)) (fun K hK r => ?_)
  simp only [x_callF _ bd21, List.map_toArray, List.map_cons, List.map_nil, ev, Env.get, Option.getD_some, ↓reduceIte, Nat.reduceEqDiff, NextH, Env.putO, Env.put, ↓reduceIte, Nat.reduceEqDiff, upd_upd, Int.reduceToNat]
  refine (times_ok _ pf fu pf1 pf2 fu1 fu2).mono ?_
  rintro v39 H39 ⟨rfl, hl39⟩
  have kH39_b4 := hl39 b4 _ hbA
  have lH39_H : Le H H39 := Le.trans lhA hl39
  try simp only [ev, Env.get, Option.getD_some, ↓reduceIte, Nat.reduceEqDiff, NextH, Env.putO, Env.put, ↓reduceIte, Nat.reduceEqDiff, upd_upd, Int.reduceToNat]
  refine hK _ _ ?_; clear hK K
  refine OW_op rfl (lt_some (by decide)) (fun K hK r => ?_)
  simp only [x_move, ev, Env.get, Option.getD_some, ↓reduceIte, Nat.reduceEqDiff, NextH, Env.putO, Env.put, ↓reduceIte, Nat.reduceEqDiff, upd_upd, Int.reduceToNat]
  refine hK _ _ ?_; clear hK K
  refine OW_op rfl (lt_some (by decide)) (fun K hK r => ?_)
  simp only [x_extract, i_extract, List.getElem?_toArray, List.getElem?_cons_zero, List.getElem?_cons_succ, orF_some, ev, Env.get, Option.getD_some, ↓reduceIte, Nat.reduceEqDiff, NextH, Env.putO, Env.put, ↓reduceIte, Nat.reduceEqDiff, upd_upd, Int.reduceToNat]
  refine hK _ _ ?_; clear hK K
  refine OW_op rfl (lt_some (by decide)) (fun K hK r => ?_)
  simp only [x_extract, i_extract, List.getElem?_toArray, List.getElem?_cons_zero, List.getElem?_cons_succ, orF_some, ev, Env.get, Option.getD_some, ↓reduceIte, Nat.reduceEqDiff, NextH, Env.putO, Env.put, ↓reduceIte, Nat.reduceEqDiff, upd_upd, Int.reduceToNat]
  refine hK _ _ ?_; clear hK K
  refine OW_op rfl (lt_some (by decide)) (fun K hK r => ?_)
  simp only [x_assign, ev, Env.get, Option.getD_some, ↓reduceIte, Nat.reduceEqDiff, NextH, Env.putO, Env.put, ↓reduceIte, Nat.reduceEqDiff, upd_upd, Int.reduceToNat]
  refine hK _ _ ?_; clear hK K
  refine OW_op rfl (lt_some (by decide)) (fun K hK r => ?_)
  simp only [x_assign, ev, Env.get, Option.getD_some, ↓reduceIte, Nat.reduceEqDiff, NextH, Env.putO, Env.put, ↓reduceIte, Nat.reduceEqDiff, upd_upd, Int.reduceToNat]
  refine hK _ _ ?_; clear hK K
  refine OW_nil ?_
  try simp only [Ex.thnH, Ex.inBlockH, ↓reduceIte, Nat.reduceEqDiff]
  refine hK4 _ _ ?_; try clear hK4 K4
  refine CW_seq (fun K5 hK5 => ?_)
  refine CW_region ?_
  refine OW_op rfl (lt_some (by decide)) (fun K hK r => ?_)
  simp only [x_fieldAddr, fa23_0, add_mk, Nat.reduceAdd, Nat.zero_add, ev, Env.get, Option.getD_some, ↓reduceIte, Nat.reduceEqDiff, NextH, Env.putO, Env.put, ↓reduceIte, Nat.reduceEqDiff, upd_upd, Int.reduceToNat]
  refine hK _ _ ?_; clear hK K
  refine OW_op rfl (lt_some (by decide)) (fun K hK r => ?_)
  simp only [x_load, ev, Env.get, Option.getD_some, ↓reduceIte, Nat.reduceEqDiff, NextH, Env.putO, Env.put, ↓reduceIte, Nat.reduceEqDiff, upd_upd, Int.reduceToNat]
  refine Lt_loadAt1 Try.underlying3 rfl hbA ldA ?_
  try simp only [ev, Env.get, Option.getD_some, ↓reduceIte, Nat.reduceEqDiff, NextH, Env.putO, Env.put, ↓reduceIte, Nat.reduceEqDiff, upd_upd, Int.reduceToNat]
  refine hK _ _ ?_; clear hK K
  refine OW_op rfl (lt_some (by decide)) (fun K hK r => ?_)
  simp only [x_callF _ bd23, List.map_toArray, List.map_cons, List.map_nil, ev, Env.get, Option.getD_some, ↓reduceIte, Nat.reduceEqDiff, NextH, Env.putO, Env.put, ↓reduceIte, Nat.reduceEqDiff, upd_upd, Int.reduceToNat]
  refine (Of_ok _ pb pb1 pb2).mono ?_
  rintro v44 H44 ⟨hl44, l44, hb44, hdec44, hbv44⟩
  have kH44_b4 := hl44 b4 _ hbA
  have lH44_H : Le H H44 := Le.trans lhA hl44
  try simp only [ev, Env.get, Option.getD_some, ↓reduceIte, Nat.reduceEqDiff, NextH, Env.putO, Env.put, ↓reduceIte, Nat.reduceEqDiff, upd_upd, Int.reduceToNat]
  refine hK _ _ ?_; clear hK K
  refine OW_op rfl (lt_some (by decide)) (fun K hK r => ?_)
  simp only [x_move, ev, Env.get, Option.getD_some, ↓reduceIte, Nat.reduceEqDiff, NextH, Env.putO, Env.put, ↓reduceIte, Nat.reduceEqDiff, upd_upd, Int.reduceToNat]
  refine hK _ _ ?_; clear hK K
  refine OW_op rfl (lt_some (by decide)) (fun K hK r => ?_)
  simp only [x_callF _ bd23, List.map_toArray, List.map_cons, List.map_nil, ev, Env.get, Option.getD_some, ↓reduceIte, Nat.reduceEqDiff, NextH, Env.putO, Env.put, ↓reduceIte, Nat.reduceEqDiff, upd_upd, Int.reduceToNat]
  refine (Of_ok _ (IntKind.i64.wrap (pc * bt)) hwa.1 hwa.2).mono ?_
  rintro v46 H46 ⟨hl46, l46, hb46, hdec46, hbv46⟩
  have kH46_b4 := hl46 b4 _ hbA
  have lH46_H : Le H H46 := Le.trans lhA hl46
  try simp only [ev, Env.get, Option.getD_some, ↓reduceIte, Nat.reduceEqDiff, NextH, Env.putO, Env.put, ↓reduceIte, Nat.reduceEqDiff, upd_upd, Int.reduceToNat]
  refine hK _ _ ?_; clear hK K
  refine OW_op rfl (lt_some (by decide)) (fun K hK r => ?_)
  simp only [x_move, ev, Env.get, Option.getD_some, ↓reduceIte, Nat.reduceEqDiff, NextH, Env.putO, Env.put, ↓reduceIte, Nat.reduceEqDiff, upd_upd, Int.reduceToNat]
  refine hK _ _ ?_; clear hK K
  refine OW_op rfl (lt_some (by decide)) (fun K hK r => ?_)
  simp only [x_callF _ bd23, List.map_toArray, List.map_cons, List.map_nil, ev, Env.get, Option.getD_some, ↓reduceIte, Nat.reduceEqDiff, NextH, Env.putO, Env.put, ↓reduceIte, Nat.reduceEqDiff, upd_upd, Int.reduceToNat]
  refine (Of_ok _ (IntKind.i64.wrap (pf * fu)) hwb.1 hwb.2).mono ?_
  rintro v48 H48 ⟨hl48, l48, hb48, hdec48, hbv48⟩
  have kH48_b4 := hl48 b4 _ hbA
  have lH48_H : Le H H48 := Le.trans lhA hl48
  try simp only [ev, Env.get, Option.getD_some, ↓reduceIte, Nat.reduceEqDiff, NextH, Env.putO, Env.put, ↓reduceIte, Nat.reduceEqDiff, upd_upd, Int.reduceToNat]
  refine hK _ _ ?_; clear hK K
  refine OW_op rfl (lt_some (by decide)) (fun K hK r => ?_)
  simp only [x_callF _ bd22, List.map_toArray, List.map_cons, List.map_nil, ev, Env.get, Option.getD_some, ↓reduceIte, Nat.reduceEqDiff, NextH, Env.putO, Env.put, ↓reduceIte, Nat.reduceEqDiff, upd_upd, Int.reduceToNat]
  refine (Add2_ok _ _ _ _ _ _ _ 20 20 (hb46.le hl48) hb48 (by omega) (by omega)).mono ?_
  rintro v49 H49 ⟨hl49, c49, l49, hb49, hv49⟩
  have kH49_b4 := hl49 b4 _ hbA
  have lH49_H : Le H H49 := Le.trans lhA hl49
  try simp only [ev, Env.get, Option.getD_some, ↓reduceIte, Nat.reduceEqDiff, NextH, Env.putO, Env.put, ↓reduceIte, Nat.reduceEqDiff, upd_upd, Int.reduceToNat]
  refine hK _ _ ?_; clear hK K
  refine OW_op rfl (lt_some (by decide)) (fun K hK r => ?_)
  simp only [x_callF _ bd22, List.map_toArray, List.map_cons, List.map_nil, ev, Env.get, Option.getD_some, ↓reduceIte, Nat.reduceEqDiff, NextH, Env.putO, Env.put, ↓reduceIte, Nat.reduceEqDiff, upd_upd, Int.reduceToNat]
  refine (Add2_ok _ _ _ _ _ _ _ 20 41 (hb44.le (by exact Le.trans (Le.trans hl46 hl48) hl49)) hb49 (by omega) (by omega)).mono ?_
  rintro v50 H50 ⟨hl50, c50, l50, hb50, hv50⟩
  have kH50_b4 := hl50 b4 _ hbA
  have lH50_H : Le H H50 := Le.trans lhA hl50
  have hb50_ := hb50
  obtain ⟨x50, rfl, hx50, ⟨a50, y50, rfl, hq50⟩, dx50, nx50, lx50⟩ := hb50_
  try simp only [ev, Env.get, Option.getD_some, ↓reduceIte, Nat.reduceEqDiff, NextH, Env.putO, Env.put, ↓reduceIte, Nat.reduceEqDiff, upd_upd, Int.reduceToNat]
  refine hK _ _ ?_; clear hK K
  refine OW_op rfl (lt_some (by decide)) (fun K hK r => ?_)
  simp only [x_alloc, zr56, orF_some, Value.cells, ev, Env.get, Option.getD_some, ↓reduceIte, Nat.reduceEqDiff, NextH, Env.putO, Env.put, ↓reduceIte, Nat.reduceEqDiff, upd_upd, Int.reduceToNat]
  intro b18 hb18
  try have n18_b4 : b4 ≠ b18 := ne_of_none hbA hb18
  have f18_H : H b18 = none := none_of_le lhA hb18
  try simp only [ev, Env.get, Option.getD_some, ↓reduceIte, Nat.reduceEqDiff, NextH, Env.putO, Env.put, ↓reduceIte, Nat.reduceEqDiff, upd_upd, Int.reduceToNat]
  refine hK _ _ ?_; clear hK K
  refine OW_op rfl (lt_none) (fun K hK r => ?_)
  simp only [x_store, ev, Env.get, Option.getD_some, ↓reduceIte, Nat.reduceEqDiff, NextH, Env.putO, Env.put, ↓reduceIte, Nat.reduceEqDiff, upd_upd, Int.reduceToNat]
  first | refine Lt_storeAll sz56 bdA hbA bdA plA (by decide) ?_ | refine Lt_storeAtA sz56 bdA hbA bdA plA (by decide) ?_
  try simp only [ev, Env.get, Option.getD_some, ↓reduceIte, Nat.reduceEqDiff, NextH, Env.putO, Env.put, ↓reduceIte, Nat.reduceEqDiff, upd_upd, Int.reduceToNat]
  refine hK _ _ ?_; clear hK K
  refine OW_nil ?_
  try simp only [Ex.thnH, Ex.inBlockH, ↓reduceIte, Nat.reduceEqDiff]
  refine hK5 _ _ ?_; try clear hK5 K5
  refine CW_seq (fun K6 hK6 => ?_)
  refine CW_region ?_
  refine OW_op rfl (lt_some (by decide)) (fun K hK r => ?_)
  simp only [x_load, ev, Env.get, Option.getD_some, ↓reduceIte, Nat.reduceEqDiff, NextH, Env.putO, Env.put, ↓reduceIte, Nat.reduceEqDiff, upd_upd, Int.reduceToNat]
  first | refine Lt_loadAll Try.underlying56 rfl sz56 hbA bdA ?_ | refine Lt_loadAtA Try.underlying56 rfl sz56 hbA bdA ?_
  try simp only [List.extract_toArray, List.extract_eq_take_drop, Nat.zero_add, Nat.reduceAdd, Nat.reduceSub, Nat.sub_zero, List.drop_succ_cons, List.drop_zero, List.take_succ_cons, List.take_zero, List.take_nil, List.drop_nil]
  try simp only [ev, Env.get, Option.getD_some, ↓reduceIte, Nat.reduceEqDiff, NextH, Env.putO, Env.put, ↓reduceIte, Nat.reduceEqDiff, upd_upd, Int.reduceToNat]
  refine hK _ _ ?_; clear hK K
  refine OW_op rfl (lt_some (by decide)) (fun K hK r => ?_)
  simp only [x_callF _ bd24, List.map_toArray, List.map_cons, List.map_nil, ev, Env.get, Option.getD_some, ↓reduceIte, Nat.reduceEqDiff, NextH, Env.putO, Env.put, ↓reduceIte, Nat.reduceEqDiff, upd_upd, Int.reduceToNat]
  refine (Number_ok _ _ _ _ 62 ⟨_, rfl, hx50.le lhA, ⟨_, _, rfl, hq50⟩, dx50, nx50, lx50⟩ (by omega)).mono ?_
  rintro v53 H53 ⟨hl53, rfl⟩
  have kH53_b4 := hl53 b4 _ hbA
  have kH53_b18 := hl53 b18 _ hbA
  have lH53_H : Le H H53 := Le.trans lhA hl53
  rw [hv50, hv49, hbv44, hbv46, hbv48]
  try simp only [ev, Env.get, Option.getD_some, ↓reduceIte, Nat.reduceEqDiff, NextH, Env.putO, Env.put, ↓reduceIte, Nat.reduceEqDiff, upd_upd, Int.reduceToNat]
  refine hK _ _ ?_; clear hK K
  refine OW_op rfl (lt_some (by decide)) (fun K hK r => ?_)
  simp only [x_move, ev, Env.get, Option.getD_some, ↓reduceIte, Nat.reduceEqDiff, NextH, Env.putO, Env.put, ↓reduceIte, Nat.reduceEqDiff, upd_upd, Int.reduceToNat]
  refine hK _ _ ?_; clear hK K
  refine OW_op rfl (lt_some (by decide)) (fun K hK r => ?_)
  simp only [x_extract, i_extract, List.getElem?_toArray, List.getElem?_cons_zero, List.getElem?_cons_succ, orF_some, ev, Env.get, Option.getD_some, ↓reduceIte, Nat.reduceEqDiff, NextH, Env.putO, Env.put, ↓reduceIte, Nat.reduceEqDiff, upd_upd, Int.reduceToNat]
  refine hK _ _ ?_; clear hK K
  refine OW_op rfl (lt_some (by decide)) (fun K hK r => ?_)
  simp only [x_extract, i_extract, List.getElem?_toArray, List.getElem?_cons_zero, List.getElem?_cons_succ, orF_some, ev, Env.get, Option.getD_some, ↓reduceIte, Nat.reduceEqDiff, NextH, Env.putO, Env.put, ↓reduceIte, Nat.reduceEqDiff, upd_upd, Int.reduceToNat]
  refine hK _ _ ?_; clear hK K
  refine OW_op rfl (lt_some (by decide)) (fun K hK r => ?_)
  simp only [x_assign, ev, Env.get, Option.getD_some, ↓reduceIte, Nat.reduceEqDiff, NextH, Env.putO, Env.put, ↓reduceIte, Nat.reduceEqDiff, upd_upd, Int.reduceToNat]
  refine hK _ _ ?_; clear hK K
  refine OW_op rfl (lt_some (by decide)) (fun K hK r => ?_)
  simp only [x_assign, ev, Env.get, Option.getD_some, ↓reduceIte, Nat.reduceEqDiff, NextH, Env.putO, Env.put, ↓reduceIte, Nat.reduceEqDiff, upd_upd, Int.reduceToNat]
  refine hK _ _ ?_; clear hK K
  refine OW_nil ?_
  try simp only [Ex.thnH, Ex.inBlockH, ↓reduceIte, Nat.reduceEqDiff]
  refine hK6 _ _ ?_; try clear hK6 K6
  refine CW_seq (fun K7 hK7 => ?_)
  refine CW_region ?_
  refine OW_op rfl (lt_some (by decide)) (fun K hK r => ?_)
  simp only [x_move, ev, Env.get, Option.getD_some, ↓reduceIte, Nat.reduceEqDiff, NextH, Env.putO, Env.put, ↓reduceIte, Nat.reduceEqDiff, upd_upd, Int.reduceToNat]
  refine hK _ _ ?_; clear hK K
  refine OW_op rfl (lt_some (by decide)) (fun K hK r => ?_)
  simp only [x_move, ev, Env.get, Option.getD_some, ↓reduceIte, Nat.reduceEqDiff, NextH, Env.putO, Env.put, ↓reduceIte, Nat.reduceEqDiff, upd_upd, Int.reduceToNat]
  refine hK _ _ ?_; clear hK K
  refine OW_op rfl (lt_some (by decide)) (fun K hK r => ?_)
  simp only [x_move, ev, Env.get, Option.getD_some, ↓reduceIte, Nat.reduceEqDiff, NextH, Env.putO, Env.put, ↓reduceIte, Nat.reduceEqDiff, upd_upd, Int.reduceToNat]
  refine hK _ _ ?_; clear hK K
  (first | refine OW_split (d := 58) rfl (fun g58 => ?_) (fun g58 => ?_) | skip)
  all_goals try (exfalso; exact cnA g58)
  all_goals (try simp only [decide_eq_true_eq, decide_eq_false_iff_not, Bool.not_eq_true, Bool.not_eq_false, Bool.and_eq_true, Bool.or_eq_true, Bool.or_eq_false_iff, Bool.not_eq_true, Bool.not_eq_eq_eq_not, Bool.not_true, Bool.not_false] at g58)
  all_goals
    try simp only [NextH, Env.putO, Env.put, ↓reduceIte, Nat.reduceEqDiff, upd_upd, Int.reduceToNat]
    first
    | refine OW_guardT rfl (lt_some (by decide)) rfl (fun K hK r => ?_)
      simp only [x_move, ev, Env.get, Option.getD_some, ↓reduceIte, Nat.reduceEqDiff, NextH, Env.putO, Env.put, ↓reduceIte, Nat.reduceEqDiff, upd_upd, Int.reduceToNat]
      refine hK _ _ ?_; clear hK K
    | refine OW_guardF rfl (lt_some (by decide)) rfl ?_
      simp only [NextH, Env.putO, Env.put, ↓reduceIte, Nat.reduceEqDiff, upd_upd, Int.reduceToNat]
    refine OW_op rfl (lt_some (by decide)) (fun K hK r => ?_)
    simp only [x_pick, l_asBool, HL.ite_bool, if_true, if_false, Bool.false_eq_true, ev, Env.get, Option.getD_some, ↓reduceIte, Nat.reduceEqDiff, NextH, Env.putO, Env.put, ↓reduceIte, Nat.reduceEqDiff, upd_upd, Int.reduceToNat]
    refine hK _ _ ?_; clear hK K
    refine OW_op rfl (lt_some (by decide)) (fun K hK r => ?_)
    simp only [x_move, ev, Env.get, Option.getD_some, ↓reduceIte, Nat.reduceEqDiff, NextH, Env.putO, Env.put, ↓reduceIte, Nat.reduceEqDiff, upd_upd, Int.reduceToNat]
    refine hK _ _ ?_; clear hK K
    (first | refine OW_split (d := 61) rfl (fun g61 => ?_) (fun g61 => ?_) | skip)
    all_goals try (exfalso; exact cnA g61)
    all_goals (try simp only [decide_eq_true_eq, decide_eq_false_iff_not, Bool.not_eq_true, Bool.not_eq_false, Bool.and_eq_true, Bool.or_eq_true, Bool.or_eq_false_iff, Bool.not_eq_true, Bool.not_eq_eq_eq_not, Bool.not_true, Bool.not_false] at g61)
    all_goals
      try simp only [NextH, Env.putO, Env.put, ↓reduceIte, Nat.reduceEqDiff, upd_upd, Int.reduceToNat]
      first
      | refine OW_guardT rfl (lt_some (by decide)) rfl (fun K hK r => ?_)
        simp only [x_move, ev, Env.get, Option.getD_some, ↓reduceIte, Nat.reduceEqDiff, NextH, Env.putO, Env.put, ↓reduceIte, Nat.reduceEqDiff, upd_upd, Int.reduceToNat]
        refine hK _ _ ?_; clear hK K
      | refine OW_guardF rfl (lt_some (by decide)) rfl ?_
        simp only [NextH, Env.putO, Env.put, ↓reduceIte, Nat.reduceEqDiff, upd_upd, Int.reduceToNat]
      refine OW_op rfl (lt_some (by decide)) (fun K hK r => ?_)
      simp only [x_pick, l_asBool, HL.ite_bool, if_true, if_false, Bool.false_eq_true, ev, Env.get, Option.getD_some, ↓reduceIte, Nat.reduceEqDiff, NextH, Env.putO, Env.put, ↓reduceIte, Nat.reduceEqDiff, upd_upd, Int.reduceToNat]
      refine hK _ _ ?_; clear hK K
      refine OW_op rfl (lt_some (by decide)) (fun K hK r => ?_)
      simp only [x_move, ev, Env.get, Option.getD_some, ↓reduceIte, Nat.reduceEqDiff, NextH, Env.putO, Env.put, ↓reduceIte, Nat.reduceEqDiff, upd_upd, Int.reduceToNat]
      refine hK _ _ ?_; clear hK K
      refine OW_op rfl (lt_some (by decide)) (fun K hK r => ?_)
      simp only [x_move, ev, Env.get, Option.getD_some, ↓reduceIte, Nat.reduceEqDiff, NextH, Env.putO, Env.put, ↓reduceIte, Nat.reduceEqDiff, upd_upd, Int.reduceToNat]
      refine hK _ _ ?_; clear hK K
      refine OW_op rfl (lt_some (by decide)) (fun K hK r => ?_)
      simp only [x_assign, ev, Env.get, Option.getD_some, ↓reduceIte, Nat.reduceEqDiff, NextH, Env.putO, Env.put, ↓reduceIte, Nat.reduceEqDiff, upd_upd, Int.reduceToNat]
      refine hK _ _ ?_; clear hK K
      refine OW_op rfl (lt_some (by decide)) (fun K hK r => ?_)
      simp only [x_assign, ev, Env.get, Option.getD_some, ↓reduceIte, Nat.reduceEqDiff, NextH, Env.putO, Env.put, ↓reduceIte, Nat.reduceEqDiff, upd_upd, Int.reduceToNat]
      refine hK _ _ ?_; clear hK K
      refine OW_op rfl (lt_some (by decide)) (fun K hK r => ?_)
      simp only [x_assign, ev, Env.get, Option.getD_some, ↓reduceIte, Nat.reduceEqDiff, NextH, Env.putO, Env.put, ↓reduceIte, Nat.reduceEqDiff, upd_upd, Int.reduceToNat]
      refine hK _ _ ?_; clear hK K
      refine OW_op rfl (lt_some (by decide)) (fun K hK r => ?_)
      simp only [x_assign, ev, Env.get, Option.getD_some, ↓reduceIte, Nat.reduceEqDiff, NextH, Env.putO, Env.put, ↓reduceIte, Nat.reduceEqDiff, upd_upd, Int.reduceToNat]
      refine hK _ _ ?_; clear hK K
      refine OW_nil ?_
      try simp only [Ex.thnH, Ex.inBlockH, ↓reduceIte, Nat.reduceEqDiff]
      refine hK7 _ _ ?_; try clear hK7 K7
      refine CW_ret ?_
      try simp only [Ex.thnH, Ex.inBlockH, ↓reduceIte, Nat.reduceEqDiff]
      refine ⟨[_, _, _, _], ⟨rfl, rfl, rfl, rfl, trivial⟩, _, Le.refl _, ?_, lhA⟩
      show Value.tuple _ = _
      have e1 : decide (cmdOk pb pc pf bt fu) = decide ((fitsI (pc * bt) ∧ fitsI (pf * fu)) ∧ fitsI (pb + (IntKind.i64.wrap (pc * bt) + IntKind.i64.wrap (pf * fu)))) := decide_eq_decide.2 (rc_near pb pc pf bt fu).symm
      rw [e1]
      simp_all [rcC]

set_option maxRecDepth 100000 in
set_option maxHeartbeats 1000000 in
theorem rCommand_ok (H : Hp) (pb pc pf pw pp bt fu wr : Int) (pb1 : -9223372036854775808 ≤ pb) (pb2 : pb ≤ 9223372036854775807) (pc1 : -9223372036854775808 ≤ pc) (pc2 : pc ≤ 9223372036854775807) (pf1 : -9223372036854775808 ≤ pf) (pf2 : pf ≤ 9223372036854775807) (pw1 : -9223372036854775808 ≤ pw) (pw2 : pw ≤ 9223372036854775807) (bt1 : -9223372036854775808 ≤ bt) (bt2 : bt ≤ 9223372036854775807) (fu1 : -9223372036854775808 ≤ fu) (fu2 : fu ≤ 9223372036854775807) (wr1 : -9223372036854775808 ≤ wr) (wr2 : wr ≤ 9223372036854775807) : CallH Try.prog 12 #[.agg #[.int .i64 pb, .int .i64 pc, .int .i64 pf, .int .i64 pw, .int .i64 pp], .int .i64 bt, .int .i64 fu, .int .i64 wr] H (fun v H' => v = .bool (comB pb pc pf pw bt fu wr) ∧ Le H H') := by
  refine CallH_enter (l := [_, _, _, _]) (rl := [.tmp 8]) (n := 31) Try.func12 rfl rfl rfl rfl rfl ?_
  simp only [envOf, Nat.reduceAdd]
  refine CW_seq (fun K1 hK1 => ?_)
  refine CW_region ?_
  refine OW_op rfl (lt_some (by decide)) (fun K hK r => ?_)
  simp only [x_box, Value.cells, ev, Env.get, Option.getD_some, ↓reduceIte, Nat.reduceEqDiff, NextH, Env.putO, Env.put, ↓reduceIte, Nat.reduceEqDiff, upd_upd, Int.reduceToNat]
  intro b4 hb4
  have f4_H : H b4 = none := none_of_le lhA hb4
  try simp only [ev, Env.get, Option.getD_some, ↓reduceIte, Nat.reduceEqDiff, NextH, Env.putO, Env.put, ↓reduceIte, Nat.reduceEqDiff, upd_upd, Int.reduceToNat]
  refine hK _ _ ?_; clear hK K
  refine OW_op rfl (lt_some (by decide)) (fun K hK r => ?_)
  simp only [x_assign, ev, Env.get, Option.getD_some, ↓reduceIte, Nat.reduceEqDiff, NextH, Env.putO, Env.put, ↓reduceIte, Nat.reduceEqDiff, upd_upd, Int.reduceToNat]
  refine hK _ _ ?_; clear hK K
  refine OW_nil ?_
  try simp only [Ex.thnH, Ex.inBlockH, ↓reduceIte, Nat.reduceEqDiff]
  refine hK1 _ _ ?_; try clear hK1 K1
  refine CW_seq (fun K2 hK2 => ?_)
  refine CW_region ?_
  refine OW_op rfl (lt_some (by decide)) (fun K hK r => ?_)
  simp only [x_load, ev, Env.get, Option.getD_some, ↓reduceIte, Nat.reduceEqDiff, NextH, Env.putO, Env.put, ↓reduceIte, Nat.reduceEqDiff, upd_upd, Int.reduceToNat]
  first | refine Lt_loadAll Try.underlying23 rfl sz23 hbA bdA ?_ | refine Lt_loadAtA Try.underlying23 rfl sz23 hbA bdA ?_
  try simp only [List.extract_toArray, List.extract_eq_take_drop, Nat.zero_add, Nat.reduceAdd, Nat.reduceSub, Nat.sub_zero, List.drop_succ_cons, List.drop_zero, List.take_succ_cons, List.take_zero, List.take_nil, List.drop_nil]
  try simp only [ev, Env.get, Option.getD_some, ↓reduceIte, Nat.reduceEqDiff, NextH, Env.putO, Env.put, ↓reduceIte, Nat.reduceEqDiff, upd_upd, Int.reduceToNat]
  refine hK _ _ ?_; clear hK K
  refine OW_op rfl (lt_some (by decide)) (fun K hK r => ?_)
  simp only [x_move, ev, Env.get, Option.getD_some, ↓reduceIte, Nat.reduceEqDiff, NextH, Env.putO, Env.put, ↓reduceIte, Nat.reduceEqDiff, upd_upd, Int.reduceToNat]
  refine hK _ _ ?_; clear hK K
  refine OW_op rfl (lt_some (by decide)) (fun K hK r => ?_)
  simp only [x_move, ev, Env.get, Option.getD_some, ↓reduceIte, Nat.reduceEqDiff, NextH, Env.putO, Env.put, ↓reduceIte, Nat.reduceEqDiff, upd_upd, Int.reduceToNat]
  refine hK _ _ ?_; clear hK K
  refine OW_op rfl (lt_some (by decide)) (fun K hK r => ?_)
  simp only [x_move, ev, Env.get, Option.getD_some, ↓reduceIte, Nat.reduceEqDiff, NextH, Env.putO, Env.put, ↓reduceIte, Nat.reduceEqDiff, upd_upd, Int.reduceToNat]
  refine hK _ _ ?_; clear hK K
  refine OW_op rfl (lt_some (by decide)) (fun K hK r => ?_)
  simp only [x_callF _ bd9, List.map_toArray, List.map_cons, List.map_nil, ev, Env.get, Option.getD_some, ↓reduceIte, Nat.reduceEqDiff, NextH, Env.putO, Env.put, ↓reduceIte, Nat.reduceEqDiff, upd_upd, Int.reduceToNat]
  refine (rCosts_ok _ pb pc pf pw pp bt fu wr pb1 pb2 pc1 pc2 pf1 pf2 pw1 pw2 bt1 bt2 fu1 fu2 wr1 wr2).mono ?_
  rintro v18 H18 ⟨rfl, hl18⟩
  have kH18_b4 := hl18 b4 _ hbA
  have lH18_H : Le H H18 := Le.trans lhA hl18
  try simp only [ev, Env.get, Option.getD_some, ↓reduceIte, Nat.reduceEqDiff, NextH, Env.putO, Env.put, ↓reduceIte, Nat.reduceEqDiff, upd_upd, Int.reduceToNat]
  refine hK _ _ ?_; clear hK K
  refine OW_op rfl (lt_some (by decide)) (fun K hK r => ?_)
  simp only [x_move, ev, Env.get, Option.getD_some, ↓reduceIte, Nat.reduceEqDiff, NextH, Env.putO, Env.put, ↓reduceIte, Nat.reduceEqDiff, upd_upd, Int.reduceToNat]
  refine hK _ _ ?_; clear hK K
  refine OW_op rfl (lt_some (by decide)) (fun K hK r => ?_)
  simp only [x_extract, i_extract, List.getElem?_toArray, List.getElem?_cons_zero, List.getElem?_cons_succ, orF_some, ev, Env.get, Option.getD_some, ↓reduceIte, Nat.reduceEqDiff, NextH, Env.putO, Env.put, ↓reduceIte, Nat.reduceEqDiff, upd_upd, Int.reduceToNat]
  refine hK _ _ ?_; clear hK K
  refine OW_op rfl (lt_some (by decide)) (fun K hK r => ?_)
  simp only [x_extract, i_extract, List.getElem?_toArray, List.getElem?_cons_zero, List.getElem?_cons_succ, orF_some, ev, Env.get, Option.getD_some, ↓reduceIte, Nat.reduceEqDiff, NextH, Env.putO, Env.put, ↓reduceIte, Nat.reduceEqDiff, upd_upd, Int.reduceToNat]
  refine hK _ _ ?_; clear hK K
  refine OW_op rfl (lt_some (by decide)) (fun K hK r => ?_)
  simp only [x_extract, i_extract, List.getElem?_toArray, List.getElem?_cons_zero, List.getElem?_cons_succ, orF_some, ev, Env.get, Option.getD_some, ↓reduceIte, Nat.reduceEqDiff, NextH, Env.putO, Env.put, ↓reduceIte, Nat.reduceEqDiff, upd_upd, Int.reduceToNat]
  refine hK _ _ ?_; clear hK K
  refine OW_op rfl (lt_some (by decide)) (fun K hK r => ?_)
  simp only [x_extract, i_extract, List.getElem?_toArray, List.getElem?_cons_zero, List.getElem?_cons_succ, orF_some, ev, Env.get, Option.getD_some, ↓reduceIte, Nat.reduceEqDiff, NextH, Env.putO, Env.put, ↓reduceIte, Nat.reduceEqDiff, upd_upd, Int.reduceToNat]
  refine hK _ _ ?_; clear hK K
  refine OW_op rfl (lt_some (by decide)) (fun K hK r => ?_)
  simp only [x_assign, ev, Env.get, Option.getD_some, ↓reduceIte, Nat.reduceEqDiff, NextH, Env.putO, Env.put, ↓reduceIte, Nat.reduceEqDiff, upd_upd, Int.reduceToNat]
  refine hK _ _ ?_; clear hK K
  refine OW_op rfl (lt_some (by decide)) (fun K hK r => ?_)
  simp only [x_assign, ev, Env.get, Option.getD_some, ↓reduceIte, Nat.reduceEqDiff, NextH, Env.putO, Env.put, ↓reduceIte, Nat.reduceEqDiff, upd_upd, Int.reduceToNat]
  refine hK _ _ ?_; clear hK K
  refine OW_op rfl (lt_some (by decide)) (fun K hK r => ?_)
  simp only [x_assign, ev, Env.get, Option.getD_some, ↓reduceIte, Nat.reduceEqDiff, NextH, Env.putO, Env.put, ↓reduceIte, Nat.reduceEqDiff, upd_upd, Int.reduceToNat]
  refine hK _ _ ?_; clear hK K
  refine OW_op rfl (lt_some (by decide)) (fun K hK r => ?_)
  simp only [x_assign, ev, Env.get, Option.getD_some, ↓reduceIte, Nat.reduceEqDiff, NextH, Env.putO, Env.put, ↓reduceIte, Nat.reduceEqDiff, upd_upd, Int.reduceToNat]
  refine hK _ _ ?_; clear hK K
  refine OW_nil ?_
  try simp only [Ex.thnH, Ex.inBlockH, ↓reduceIte, Nat.reduceEqDiff]
  refine hK2 _ _ ?_; try clear hK2 K2
  refine CW_seq (fun K3 hK3 => ?_)
  refine CW_seq (fun K4 hK4 => ?_)
  refine CW_region ?_
  refine OW_op rfl (lt_some (by decide)) (fun K hK r => ?_)
  simp only [x_move, ev, Env.get, Option.getD_some, ↓reduceIte, Nat.reduceEqDiff, NextH, Env.putO, Env.put, ↓reduceIte, Nat.reduceEqDiff, upd_upd, Int.reduceToNat]
  refine hK _ _ ?_; clear hK K
  refine OW_op rfl (lt_some (by decide)) (fun K hK r => ?_)
  simp only [x_un, u_not, ev, Env.get, Option.getD_some, ↓reduceIte, Nat.reduceEqDiff, NextH, Env.putO, Env.put, ↓reduceIte, Nat.reduceEqDiff, upd_upd, Int.reduceToNat]
  refine hK _ _ ?_; clear hK K
  refine OW_nil ?_
  try simp only [Ex.thnH, Ex.inBlockH, ↓reduceIte, Nat.reduceEqDiff]
  refine hK4 _ _ ?_; try clear hK4 K4
  refine CW_cond (fun r => rfl) (fun c24 => ?_) (fun c24 => ?_)
  · first
    | (exfalso; exact cnA c24; done)
    | skip
      (try simp only [decide_eq_true_eq, decide_eq_false_iff_not, Bool.not_eq_true, Bool.not_eq_false, Bool.and_eq_true, Bool.or_eq_true, Bool.or_eq_false_iff, Bool.not_eq_true, Bool.not_eq_eq_eq_not, Bool.not_true, Bool.not_false] at c24)
      refine CW_seq (fun K5 hK5 => ?_)
      refine CW_region ?_
      refine OW_op rfl (lt_some (by decide)) (fun K hK r => ?_)
      simp only [x_assign, ev, Env.get, Option.getD_some, ↓reduceIte, Nat.reduceEqDiff, NextH, Env.putO, Env.put, ↓reduceIte, Nat.reduceEqDiff, upd_upd, Int.reduceToNat]
      refine hK _ _ ?_; clear hK K
      refine OW_nil ?_
      try simp only [Ex.thnH, Ex.inBlockH, ↓reduceIte, Nat.reduceEqDiff]
      refine hK5 _ _ ?_; try clear hK5 K5
      refine CW_ret ?_
      try simp only [Ex.thnH, Ex.inBlockH, ↓reduceIte, Nat.reduceEqDiff]
      refine ⟨[_], ⟨rfl, trivial⟩, _, Le.refl _, ?_, lhA⟩
      show Value.bool _ = _
      rw [rcom_over (by simpa using c24)]
  · first
    | (exfalso; exact cnA c24; done)
    | skip
      (try simp only [decide_eq_true_eq, decide_eq_false_iff_not, Bool.not_eq_true, Bool.not_eq_false, Bool.and_eq_true, Bool.or_eq_true, Bool.or_eq_false_iff, Bool.not_eq_true, Bool.not_eq_eq_eq_not, Bool.not_true, Bool.not_false] at c24)
      refine CW_skip ?_
      try simp only [Ex.thnH, Ex.inBlockH, ↓reduceIte, Nat.reduceEqDiff]
      refine hK3 _ _ ?_; try clear hK3 K3
      refine CW_seq (fun K6 hK6 => ?_)
      refine CW_region ?_
      refine OW_op rfl (lt_some (by decide)) (fun K hK r => ?_)
      simp only [x_move, ev, Env.get, Option.getD_some, ↓reduceIte, Nat.reduceEqDiff, NextH, Env.putO, Env.put, ↓reduceIte, Nat.reduceEqDiff, upd_upd, Int.reduceToNat]
      refine hK _ _ ?_; clear hK K
      refine OW_op rfl (lt_some (by decide)) (fun K hK r => ?_)
      simp only [x_move, ev, Env.get, Option.getD_some, ↓reduceIte, Nat.reduceEqDiff, NextH, Env.putO, Env.put, ↓reduceIte, Nat.reduceEqDiff, upd_upd, Int.reduceToNat]
      refine hK _ _ ?_; clear hK K
      (first | refine OW_split (d := 26) rfl (fun g26 => ?_) (fun g26 => ?_) | skip)
      all_goals try (exfalso; exact cnA g26)
      all_goals (try simp only [decide_eq_true_eq, decide_eq_false_iff_not, Bool.not_eq_true, Bool.not_eq_false, Bool.and_eq_true, Bool.or_eq_true, Bool.or_eq_false_iff, Bool.not_eq_true, Bool.not_eq_eq_eq_not, Bool.not_true, Bool.not_false] at g26)
      all_goals
        try simp only [NextH, Env.putO, Env.put, ↓reduceIte, Nat.reduceEqDiff, upd_upd, Int.reduceToNat]
        first
        | refine OW_guardT rfl (lt_some (by decide)) rfl (fun K hK r => ?_)
          simp only [x_move, ev, Env.get, Option.getD_some, ↓reduceIte, Nat.reduceEqDiff, NextH, Env.putO, Env.put, ↓reduceIte, Nat.reduceEqDiff, upd_upd, Int.reduceToNat]
          refine hK _ _ ?_; clear hK K
        | refine OW_guardF rfl (lt_some (by decide)) rfl ?_
          simp only [NextH, Env.putO, Env.put, ↓reduceIte, Nat.reduceEqDiff, upd_upd, Int.reduceToNat]
        first
        | refine OW_guardT rfl (lt_some (by decide)) rfl (fun K hK r => ?_)
          simp only [x_move, ev, Env.get, Option.getD_some, ↓reduceIte, Nat.reduceEqDiff, NextH, Env.putO, Env.put, ↓reduceIte, Nat.reduceEqDiff, upd_upd, Int.reduceToNat]
          refine hK _ _ ?_; clear hK K
        | refine OW_guardF rfl (lt_some (by decide)) rfl ?_
          simp only [NextH, Env.putO, Env.put, ↓reduceIte, Nat.reduceEqDiff, upd_upd, Int.reduceToNat]
        first
        | refine OW_guardT rfl (lt_some (by decide)) rfl (fun K hK r => ?_)
          simp (disch := (first | omega | decide)) only [x_bin, g_int, b_leq, dec_lt_t, dec_lt_f, dec_le_t, dec_le_f, dec_eq_t, dec_eq_f, Bool.not_true, Bool.not_false, ev, Env.get, Option.getD_some, ↓reduceIte, Nat.reduceEqDiff, NextH, Env.putO, Env.put, ↓reduceIte, Nat.reduceEqDiff, upd_upd, Int.reduceToNat]
          refine hK _ _ ?_; clear hK K
        | refine OW_guardF rfl (lt_some (by decide)) rfl ?_
          simp only [NextH, Env.putO, Env.put, ↓reduceIte, Nat.reduceEqDiff, upd_upd, Int.reduceToNat]
        refine OW_op rfl (lt_some (by decide)) (fun K hK r => ?_)
        simp only [x_pick, l_asBool, HL.ite_bool, if_true, if_false, Bool.false_eq_true, ev, Env.get, Option.getD_some, ↓reduceIte, Nat.reduceEqDiff, NextH, Env.putO, Env.put, ↓reduceIte, Nat.reduceEqDiff, upd_upd, Int.reduceToNat]
        refine hK _ _ ?_; clear hK K
        refine OW_op rfl (lt_some (by decide)) (fun K hK r => ?_)
        simp only [x_assign, ev, Env.get, Option.getD_some, ↓reduceIte, Nat.reduceEqDiff, NextH, Env.putO, Env.put, ↓reduceIte, Nat.reduceEqDiff, upd_upd, Int.reduceToNat]
        refine hK _ _ ?_; clear hK K
        refine OW_nil ?_
        try simp only [Ex.thnH, Ex.inBlockH, ↓reduceIte, Nat.reduceEqDiff]
        refine hK6 _ _ ?_; try clear hK6 K6
        refine CW_ret ?_
        try simp only [Ex.thnH, Ex.inBlockH, ↓reduceIte, Nat.reduceEqDiff]
        refine ⟨[_], ⟨rfl, trivial⟩, _, Le.refl _, ?_, lhA⟩
        show Value.bool _ = _
        have hf : fitsI (pw * wr) := by simpa using c24
        first | rw [rcom_near hf (by simpa using g26)] | rw [rcom_far hf (by simpa using g26)]

end Go.Proofs.Ytfpicoflpddieaa.HL
