/- Parts of the proof, one behind the other: D14, D17, D18, D19, D20, D13, D21, D22, D23, D30, D31, D32, D33, D34, D35, D36, D37, D38, D39, D40, D41, D42, D43, D44, D45, D46, D47, D48. -/
import Derived.Test.YtkmjncmdhinlgaaX2
set_option linter.unusedSimpArgs false
set_option linter.unusedVariables false
section
namespace Go.Proofs.Ytkmjncmdhinlgaa.HL
open Go Go.Proofs
set_option linter.unusedSimpArgs false
set_option linter.unusedVariables false
attribute [local irreducible] Lt Lq CW OW TW CallH

set_option maxRecDepth 100000 in
set_option maxHeartbeats 1000000 in
theorem down_ok (H : Hp) (p : Nat) (s : St) (rd cap : Nat) (bs : List Nat) (Fs : Nat → Hp) (h : SX H p s rd cap bs Fs) : CallH Try.prog 19 #[(.pointer (some ⟨p, 0, none⟩))] H (fun v H' => v = .bool s.gone ∧ H' = H) := by
  refine CallH_enter (l := [_]) (rl := [.tmp 2]) (n := 12) Try.func19 rfl rfl rfl rfl rfl ?_
  simp only [envOf, Nat.reduceAdd]
  have hhd := h.hd
  refine CW_seq (fun K1 hK1 => ?_)
  refine CW_region ?_
  refine OW_as rfl ?_
  refine OW_nil ?_
  try simp only [Ex.thnH, Ex.inBlockH, ↓reduceIte, Nat.reduceEqDiff]
  refine hK1 _ _ ?_; try clear hK1 K1
  refine CW_seq (fun K2 hK2 => ?_)
  refine CW_region ?_
  refine OW_mv rfl ?_
  refine OW_opS (fun K hK r => ?_)
  simp only [x_bin, g_int, g_bool, g_string, g_pointer, g_slice, g_map, g_func, g_nilFunc, g_iface, g_nil_iface, g_nil_r, g_nil_l, eX, ↓reduceIte, Nat.reduceEqDiff, Int.reduceToNat]
  rw [e_eql _ _ _ _ (by simp)]
  rw [q_equal]
  first | rw [q_ptr_nil _ _ _ Try.underlying26] | rw [q_nil_ptr _ _ _ Try.underlying26]
  try simp only [eX, ↓reduceIte, Nat.reduceEqDiff, Int.reduceToNat]
  refine hK _ _ ?_; clear hK K
  refine OW_mv rfl ?_
  (first | refine OW_split (d := 5) rfl (fun g5 => ?_) (fun g5 => ?_) | skip)
  all_goals try (exfalso; exact cnA g5)
  all_goals (try simp only [decide_eq_true_eq, decide_eq_false_iff_not, Bool.not_eq_true, Bool.not_eq_false, Bool.and_eq_true, Bool.or_eq_true, Bool.or_eq_false_iff, Bool.not_eq_true, Bool.not_eq_eq_eq_not, Bool.not_true, Bool.not_false] at g5)
  all_goals
    try simp only [eX, ↓reduceIte, Nat.reduceEqDiff, Int.reduceToNat]
    first
    | refine OW_guardT rfl (lt_some (by decide)) rfl (fun K hK r => ?_)
      simp only [x_move, eX, ↓reduceIte, Nat.reduceEqDiff, Int.reduceToNat]
      refine hK _ _ ?_; clear hK K
    | refine OW_guardF rfl (lt_some (by decide)) rfl ?_
      simp only [eX, ↓reduceIte, Nat.reduceEqDiff, Int.reduceToNat]
    first
    | refine OW_guardT rfl (lt_some (by decide)) rfl (fun K hK r => ?_)
      rw [x_nilCheck _ _ rfl]
      simp only [eX, ↓reduceIte, Nat.reduceEqDiff, Int.reduceToNat]
      refine hK _ _ ?_; clear hK K
    | refine OW_guardF rfl (lt_some (by decide)) rfl ?_
      simp only [eX, ↓reduceIte, Nat.reduceEqDiff, Int.reduceToNat]
    first
    | refine OW_guardT rfl (lt_some (by decide)) rfl (fun K hK r => ?_)
      simp only [x_fieldAddr, fa77_0, add_mk, Nat.reduceAdd, Nat.zero_add, eX, ↓reduceIte, Nat.reduceEqDiff, Int.reduceToNat]
      refine hK _ _ ?_; clear hK K
    | refine OW_guardF rfl (lt_some (by decide)) rfl ?_
      simp only [eX, ↓reduceIte, Nat.reduceEqDiff, Int.reduceToNat]
    first
    | refine OW_guardT rfl (lt_some (by decide)) rfl (fun K hK r => ?_)
      simp only [x_fieldAddr, fa74_3, add_mk, Nat.reduceAdd, Nat.zero_add, eX, ↓reduceIte, Nat.reduceEqDiff, Int.reduceToNat]
      refine hK _ _ ?_; clear hK K
    | refine OW_guardF rfl (lt_some (by decide)) rfl ?_
      simp only [eX, ↓reduceIte, Nat.reduceEqDiff, Int.reduceToNat]
    first
    | refine OW_guardT rfl (lt_some (by decide)) rfl (fun K hK r => ?_)
      simp only [x_load, eX, ↓reduceIte, Nat.reduceEqDiff, Int.reduceToNat]
      refine Lt_loadAt1 Try.underlying4 rfl hbA ldA ?_
      try simp only [eX, ↓reduceIte, Nat.reduceEqDiff, Int.reduceToNat]
      refine hK _ _ ?_; clear hK K
    | refine OW_guardF rfl (lt_some (by decide)) rfl ?_
      simp only [eX, ↓reduceIte, Nat.reduceEqDiff, Int.reduceToNat]
    refine OW_opS (fun K hK r => ?_)
    simp only [x_pick, l_asBool, HL.ite_bool, if_true, if_false, Bool.false_eq_true, eX, ↓reduceIte, Nat.reduceEqDiff, Int.reduceToNat]
    refine hK _ _ ?_; clear hK K
    refine OW_as rfl ?_
    refine OW_nil ?_
    try simp only [Ex.thnH, Ex.inBlockH, ↓reduceIte, Nat.reduceEqDiff]
    refine hK2 _ _ ?_; try clear hK2 K2
    refine CW_ret ?_
    try simp only [Ex.thnH, Ex.inBlockH, ↓reduceIte, Nat.reduceEqDiff]
    first | exact ⟨[_], ⟨rfl, trivial⟩, _, Le.refl _, rfl, rfl⟩ | (exfalso; simp_all; done)

set_option maxRecDepth 100000 in
set_option maxHeartbeats 1000000 in
theorem steps_ok (H : Hp) (p : Nat) (s : St) (rd cap : Nat) (bs : List Nat) (Fs : Nat → Hp) (h : SX H p s rd cap bs Fs) : CallH Try.prog 21 #[(.pointer (some ⟨p, 0, none⟩))] H (fun v H' => v = .int .i64 s.steps ∧ H' = H) := by
  refine CallH_enter (l := [_]) (rl := [.tmp 2]) (n := 10) Try.func21 rfl rfl rfl rfl rfl ?_
  simp only [envOf, Nat.reduceAdd]
  have hhd := h.hd
  refine CW_seq (fun K1 hK1 => ?_)
  refine CW_region ?_
  refine OW_as rfl ?_
  refine OW_nil ?_
  try simp only [Ex.thnH, Ex.inBlockH, ↓reduceIte, Nat.reduceEqDiff]
  refine hK1 _ _ ?_; try clear hK1 K1
  refine CW_seq (fun K2 hK2 => ?_)
  refine CW_seq (fun K3 hK3 => ?_)
  refine CW_region ?_
  refine OW_mv rfl ?_
  refine OW_opS (fun K hK r => ?_)
  simp only [x_bin, g_int, g_bool, g_string, g_pointer, g_slice, g_map, g_func, g_nilFunc, g_iface, g_nil_iface, g_nil_r, g_nil_l, eX, ↓reduceIte, Nat.reduceEqDiff, Int.reduceToNat]
  rw [e_eql _ _ _ _ (by simp)]
  rw [q_equal]
  first | rw [q_ptr_nil _ _ _ Try.underlying26] | rw [q_nil_ptr _ _ _ Try.underlying26]
  try simp only [eX, ↓reduceIte, Nat.reduceEqDiff, Int.reduceToNat]
  refine hK _ _ ?_; clear hK K
  refine OW_nil ?_
  try simp only [Ex.thnH, Ex.inBlockH, ↓reduceIte, Nat.reduceEqDiff]
  refine hK3 _ _ ?_; try clear hK3 K3
  refine CW_cond (fun r => rfl) (fun c4 => ?_) (fun c4 => ?_)
  · first
    | (exfalso; exact cnA c4; done)
    | skip
      (try simp only [decide_eq_true_eq, decide_eq_false_iff_not, Bool.not_eq_true, Bool.not_eq_false, Bool.and_eq_true, Bool.or_eq_true, Bool.or_eq_false_iff, Bool.not_eq_true, Bool.not_eq_eq_eq_not, Bool.not_true, Bool.not_false] at c4)
      refine CW_seq (fun K4 hK4 => ?_)
      refine CW_region ?_
      refine OW_as rfl ?_
      refine OW_nil ?_
      try simp only [Ex.thnH, Ex.inBlockH, ↓reduceIte, Nat.reduceEqDiff]
      refine hK4 _ _ ?_; try clear hK4 K4
      refine CW_ret ?_
      try simp only [Ex.thnH, Ex.inBlockH, ↓reduceIte, Nat.reduceEqDiff]
      skip
  · first
    | (exfalso; exact cnA c4; done)
    | skip
      (try simp only [decide_eq_true_eq, decide_eq_false_iff_not, Bool.not_eq_true, Bool.not_eq_false, Bool.and_eq_true, Bool.or_eq_true, Bool.or_eq_false_iff, Bool.not_eq_true, Bool.not_eq_eq_eq_not, Bool.not_true, Bool.not_false] at c4)
      refine CW_skip ?_
      try simp only [Ex.thnH, Ex.inBlockH, ↓reduceIte, Nat.reduceEqDiff]
      refine hK2 _ _ ?_; try clear hK2 K2
      refine CW_seq (fun K5 hK5 => ?_)
      refine CW_region ?_
      refine OW_mv rfl ?_
      refine OW_opS (fun K hK r => ?_)
      rw [x_nilCheck _ _ rfl]
      simp only [eX, ↓reduceIte, Nat.reduceEqDiff, Int.reduceToNat]
      refine hK _ _ ?_; clear hK K
      refine OW_opS (fun K hK r => ?_)
      simp only [x_fieldAddr, fa77_0, add_mk, Nat.reduceAdd, Nat.zero_add, eX, ↓reduceIte, Nat.reduceEqDiff, Int.reduceToNat]
      refine hK _ _ ?_; clear hK K
      refine OW_opS (fun K hK r => ?_)
      simp only [x_fieldAddr, fa74_0, add_mk, Nat.reduceAdd, Nat.zero_add, eX, ↓reduceIte, Nat.reduceEqDiff, Int.reduceToNat]
      refine hK _ _ ?_; clear hK K
      refine OW_opS (fun K hK r => ?_)
      simp only [x_load, eX, ↓reduceIte, Nat.reduceEqDiff, Int.reduceToNat]
      refine Lt_loadAt1 Try.underlying3 rfl hbA ldA ?_
      try simp only [eX, ↓reduceIte, Nat.reduceEqDiff, Int.reduceToNat]
      refine hK _ _ ?_; clear hK K
      refine OW_as rfl ?_
      refine OW_nil ?_
      try simp only [Ex.thnH, Ex.inBlockH, ↓reduceIte, Nat.reduceEqDiff]
      refine hK5 _ _ ?_; try clear hK5 K5
      refine CW_ret ?_
      try simp only [Ex.thnH, Ex.inBlockH, ↓reduceIte, Nat.reduceEqDiff]
      exact ⟨[_], ⟨rfl, trivial⟩, _, Le.refl _, rfl, rfl⟩

set_option maxRecDepth 100000 in
set_option maxHeartbeats 1000000 in
theorem many_ok (H : Hp) (p : Nat) (s : St) (rd cap : Nat) (bs : List Nat) (Fs : Nat → Hp) (h : SX H p s rd cap bs Fs) : CallH Try.prog 24 #[(.pointer (some ⟨p, 0, none⟩))] H (fun v H' => v = .int .i64 s.dv.length ∧ H' = H) := by
  refine CallH_enter (l := [_]) (rl := [.tmp 2]) (n := 10) Try.func24 rfl rfl rfl rfl rfl ?_
  simp only [envOf, Nat.reduceAdd]
  have hhd := h.hd
  refine CW_seq (fun K1 hK1 => ?_)
  refine CW_region ?_
  refine OW_as rfl ?_
  refine OW_nil ?_
  try simp only [Ex.thnH, Ex.inBlockH, ↓reduceIte, Nat.reduceEqDiff]
  refine hK1 _ _ ?_; try clear hK1 K1
  refine CW_seq (fun K2 hK2 => ?_)
  refine CW_seq (fun K3 hK3 => ?_)
  refine CW_region ?_
  refine OW_mv rfl ?_
  refine OW_opS (fun K hK r => ?_)
  simp only [x_bin, g_int, g_bool, g_string, g_pointer, g_slice, g_map, g_func, g_nilFunc, g_iface, g_nil_iface, g_nil_r, g_nil_l, eX, ↓reduceIte, Nat.reduceEqDiff, Int.reduceToNat]
  rw [e_eql _ _ _ _ (by simp)]
  rw [q_equal]
  first | rw [q_ptr_nil _ _ _ Try.underlying26] | rw [q_nil_ptr _ _ _ Try.underlying26]
  try simp only [eX, ↓reduceIte, Nat.reduceEqDiff, Int.reduceToNat]
  refine hK _ _ ?_; clear hK K
  refine OW_nil ?_
  try simp only [Ex.thnH, Ex.inBlockH, ↓reduceIte, Nat.reduceEqDiff]
  refine hK3 _ _ ?_; try clear hK3 K3
  refine CW_cond (fun r => rfl) (fun c4 => ?_) (fun c4 => ?_)
  · first
    | (exfalso; exact cnA c4; done)
    | skip
      (try simp only [decide_eq_true_eq, decide_eq_false_iff_not, Bool.not_eq_true, Bool.not_eq_false, Bool.and_eq_true, Bool.or_eq_true, Bool.or_eq_false_iff, Bool.not_eq_true, Bool.not_eq_eq_eq_not, Bool.not_true, Bool.not_false] at c4)
      refine CW_seq (fun K4 hK4 => ?_)
      refine CW_region ?_
      refine OW_as rfl ?_
      refine OW_nil ?_
      try simp only [Ex.thnH, Ex.inBlockH, ↓reduceIte, Nat.reduceEqDiff]
      refine hK4 _ _ ?_; try clear hK4 K4
      refine CW_ret ?_
      try simp only [Ex.thnH, Ex.inBlockH, ↓reduceIte, Nat.reduceEqDiff]
      skip
  · first
    | (exfalso; exact cnA c4; done)
    | skip
      (try simp only [decide_eq_true_eq, decide_eq_false_iff_not, Bool.not_eq_true, Bool.not_eq_false, Bool.and_eq_true, Bool.or_eq_true, Bool.or_eq_false_iff, Bool.not_eq_true, Bool.not_eq_eq_eq_not, Bool.not_true, Bool.not_false] at c4)
      refine CW_skip ?_
      try simp only [Ex.thnH, Ex.inBlockH, ↓reduceIte, Nat.reduceEqDiff]
      refine hK2 _ _ ?_; try clear hK2 K2
      refine CW_seq (fun K5 hK5 => ?_)
      refine CW_region ?_
      refine OW_mv rfl ?_
      refine OW_opS (fun K hK r => ?_)
      rw [x_nilCheck _ _ rfl]
      simp only [eX, ↓reduceIte, Nat.reduceEqDiff, Int.reduceToNat]
      refine hK _ _ ?_; clear hK K
      refine OW_opS (fun K hK r => ?_)
      simp only [x_fieldAddr, fa77_1, add_mk, Nat.reduceAdd, Nat.zero_add, eX, ↓reduceIte, Nat.reduceEqDiff, Int.reduceToNat]
      refine hK _ _ ?_; clear hK K
      refine OW_opS (fun K hK r => ?_)
      simp only [x_load, eX, ↓reduceIte, Nat.reduceEqDiff, Int.reduceToNat]
      refine Lt_loadAt1 Try.underlying75 rfl hbA ldA ?_
      try simp only [eX, ↓reduceIte, Nat.reduceEqDiff, Int.reduceToNat]
      refine hK _ _ ?_; clear hK K
      refine OW_opS (fun K hK r => ?_)
      simp only [x_builtin, l_len, List.map_toArray, List.map_cons, List.map_nil, i_len_slice _ _ Try.underlying75, eX, ↓reduceIte, Nat.reduceEqDiff, Int.reduceToNat]
      refine hK _ _ ?_; clear hK K
      refine OW_as rfl ?_
      refine OW_nil ?_
      try simp only [Ex.thnH, Ex.inBlockH, ↓reduceIte, Nat.reduceEqDiff]
      refine hK5 _ _ ?_; try clear hK5 K5
      refine CW_ret ?_
      try simp only [Ex.thnH, Ex.inBlockH, ↓reduceIte, Nat.reduceEqDiff]
      exact ⟨[_], ⟨rfl, trivial⟩, _, Le.refl _, rfl, rfl⟩

set_option maxRecDepth 100000 in
set_option maxHeartbeats 1000000 in
theorem waiting_in (H : Hp) (p : Nat) (s : St) (rd cap : Nat) (bs : List Nat) (Fs : Nat → Hp) (h : SX H p s rd cap bs Fs) (hl : s.dv.length ≤ 1000) (dev : Int) (hin : 0 ≤ dev ∧ dev < s.dv.length) : CallH Try.prog 18 #[(.pointer (some ⟨p, 0, none⟩)), .int .i64 dev] H (fun v H' => v = .int .i64 ((s.dv.getD dev.toNat default).wait.length : Int) ∧ H' = H) := by
  refine CallH_enter (l := [_, _]) (rl := [.tmp 4]) (n := 16) Try.func18 rfl rfl rfl rfl rfl ?_
  simp only [envOf, Nat.reduceAdd]
  have hk : dev.toNat < s.dv.length := by omega
  obtain ⟨mb, es, c, wv, wrs, hb0, hm0, hms, how, hbm, hwb, hwm⟩ := (h.dev dev.toNat hk).facts
  obtain ⟨wa, wcp, rfl⟩ := how.holds.form
  have kb := h.le dev.toNat hk _ _ hb0
  refine CW_seq (fun K1 hK1 => ?_)
  refine CW_region ?_
  refine OW_as rfl ?_
  refine OW_nil ?_
  try simp only [Ex.thnH, Ex.inBlockH, ↓reduceIte, Nat.reduceEqDiff]
  refine hK1 _ _ ?_; try clear hK1 K1
  refine CW_seq (fun K2 hK2 => ?_)
  refine CW_seq (fun K3 hK3 => ?_)
  refine CW_region ?_
  refine OW_mv rfl ?_
  refine OW_mv rfl ?_
  refine OW_opS (fun K hK r => ?_)
  simp only [x_callF _ bd30, List.map_toArray, List.map_cons, List.map_nil, eX, ↓reduceIte, Nat.reduceEqDiff, Int.reduceToNat]
  refine (device_ok _ p s rd cap bs Fs h dev hl).mono ?_
  rintro v H' ⟨rfl, rfl⟩
  rw [show devV s bs dev = ptrV (bs.getD dev.toNat 0) from if_pos hin]
  simp only [ptrV]
  try simp only [eX, ↓reduceIte, Nat.reduceEqDiff, Int.reduceToNat]
  refine hK _ _ ?_; clear hK K
  refine OW_as rfl ?_
  refine OW_nil ?_
  try simp only [Ex.thnH, Ex.inBlockH, ↓reduceIte, Nat.reduceEqDiff]
  refine hK3 _ _ ?_; try clear hK3 K3
  refine CW_seq (fun K4 hK4 => ?_)
  refine CW_region ?_
  refine OW_mv rfl ?_
  refine OW_opS (fun K hK r => ?_)
  simp only [x_bin, g_int, g_bool, g_string, g_pointer, g_slice, g_map, g_func, g_nilFunc, g_iface, g_nil_iface, g_nil_r, g_nil_l, eX, ↓reduceIte, Nat.reduceEqDiff, Int.reduceToNat]
  rw [e_neq _ _ _ _ (by simp)]
  rw [q_equal]
  first | rw [q_ptr_nil _ _ _ Try.underlying78] | rw [q_nil_ptr _ _ _ Try.underlying78]
  try simp only [eX, ↓reduceIte, Nat.reduceEqDiff, Int.reduceToNat]
  refine hK _ _ ?_; clear hK K
  refine OW_nil ?_
  try simp only [Ex.thnH, Ex.inBlockH, ↓reduceIte, Nat.reduceEqDiff]
  refine hK4 _ _ ?_; try clear hK4 K4
  refine CW_cond (fun r => rfl) (fun c10 => ?_) (fun c10 => ?_)
  · first
    | (exfalso; exact cnA c10; done)
    | skip
      (try simp only [decide_eq_true_eq, decide_eq_false_iff_not, Bool.not_eq_true, Bool.not_eq_false, Bool.and_eq_true, Bool.or_eq_true, Bool.or_eq_false_iff, Bool.not_eq_true, Bool.not_eq_eq_eq_not, Bool.not_true, Bool.not_false] at c10)
      refine CW_seq (fun K5 hK5 => ?_)
      refine CW_region ?_
      refine OW_mv rfl ?_
      refine OW_opS (fun K hK r => ?_)
      rw [x_nilCheck _ _ rfl]
      simp only [eX, ↓reduceIte, Nat.reduceEqDiff, Int.reduceToNat]
      refine hK _ _ ?_; clear hK K
      refine OW_opS (fun K hK r => ?_)
      simp only [x_fieldAddr, fa82_2, add_mk, Nat.reduceAdd, Nat.zero_add, eX, ↓reduceIte, Nat.reduceEqDiff, Int.reduceToNat]
      refine hK _ _ ?_; clear hK K
      refine OW_opS (fun K hK r => ?_)
      simp only [x_load, eX, ↓reduceIte, Nat.reduceEqDiff, Int.reduceToNat]
      refine Lt_loadAt1 Try.underlying80 rfl hbA ldA ?_
      try simp only [eX, ↓reduceIte, Nat.reduceEqDiff, Int.reduceToNat]
      refine hK _ _ ?_; clear hK K
      refine OW_opS (fun K hK r => ?_)
      simp only [x_builtin, l_len, List.map_toArray, List.map_cons, List.map_nil, i_len_slice _ _ Try.underlying80, eX, ↓reduceIte, Nat.reduceEqDiff, Int.reduceToNat]
      refine hK _ _ ?_; clear hK K
      refine OW_as rfl ?_
      refine OW_nil ?_
      try simp only [Ex.thnH, Ex.inBlockH, ↓reduceIte, Nat.reduceEqDiff]
      refine hK5 _ _ ?_; try clear hK5 K5
      refine CW_ret ?_
      try simp only [Ex.thnH, Ex.inBlockH, ↓reduceIte, Nat.reduceEqDiff]
      exact ⟨[_], ⟨rfl, trivial⟩, _, Le.refl _, rfl, rfl⟩
  · first
    | (exfalso; exact cnA c10; done)
    | skip
      (try simp only [decide_eq_true_eq, decide_eq_false_iff_not, Bool.not_eq_true, Bool.not_eq_false, Bool.and_eq_true, Bool.or_eq_true, Bool.or_eq_false_iff, Bool.not_eq_true, Bool.not_eq_eq_eq_not, Bool.not_true, Bool.not_false] at c10)
      refine CW_skip ?_
      try simp only [Ex.thnH, Ex.inBlockH, ↓reduceIte, Nat.reduceEqDiff]
      refine hK2 _ _ ?_; try clear hK2 K2
      refine CW_seq (fun K6 hK6 => ?_)
      refine CW_region ?_
      refine OW_as rfl ?_
      refine OW_nil ?_
      try simp only [Ex.thnH, Ex.inBlockH, ↓reduceIte, Nat.reduceEqDiff]
      refine hK6 _ _ ?_; try clear hK6 K6
      refine CW_ret ?_
      try simp only [Ex.thnH, Ex.inBlockH, ↓reduceIte, Nat.reduceEqDiff]
      skip

set_option maxRecDepth 100000 in
set_option maxHeartbeats 1000000 in
theorem waiting_out (H : Hp) (p : Nat) (s : St) (rd cap : Nat) (bs : List Nat) (Fs : Nat → Hp) (h : SX H p s rd cap bs Fs) (hl : s.dv.length ≤ 1000) (dev : Int) (hno : ¬ (0 ≤ dev ∧ dev < s.dv.length)) : CallH Try.prog 18 #[(.pointer (some ⟨p, 0, none⟩)), .int .i64 dev] H (fun v H' => v = .int .i64 0 ∧ H' = H) := by
  refine CallH_enter (l := [_, _]) (rl := [.tmp 4]) (n := 16) Try.func18 rfl rfl rfl rfl rfl ?_
  simp only [envOf, Nat.reduceAdd]
  refine CW_seq (fun K1 hK1 => ?_)
  refine CW_region ?_
  refine OW_as rfl ?_
  refine OW_nil ?_
  try simp only [Ex.thnH, Ex.inBlockH, ↓reduceIte, Nat.reduceEqDiff]
  refine hK1 _ _ ?_; try clear hK1 K1
  refine CW_seq (fun K2 hK2 => ?_)
  refine CW_seq (fun K3 hK3 => ?_)
  refine CW_region ?_
  refine OW_mv rfl ?_
  refine OW_mv rfl ?_
  refine OW_opS (fun K hK r => ?_)
  simp only [x_callF _ bd30, List.map_toArray, List.map_cons, List.map_nil, eX, ↓reduceIte, Nat.reduceEqDiff, Int.reduceToNat]
  refine (device_ok _ p s rd cap bs Fs h dev hl).mono ?_
  rintro v H' ⟨rfl, rfl⟩
  rw [show devV s bs dev = .pointer none from if_neg hno]
  try simp only [eX, ↓reduceIte, Nat.reduceEqDiff, Int.reduceToNat]
  refine hK _ _ ?_; clear hK K
  refine OW_as rfl ?_
  refine OW_nil ?_
  try simp only [Ex.thnH, Ex.inBlockH, ↓reduceIte, Nat.reduceEqDiff]
  refine hK3 _ _ ?_; try clear hK3 K3
  refine CW_seq (fun K4 hK4 => ?_)
  refine CW_region ?_
  refine OW_mv rfl ?_
  refine OW_opS (fun K hK r => ?_)
  simp only [x_bin, g_int, g_bool, g_string, g_pointer, g_slice, g_map, g_func, g_nilFunc, g_iface, g_nil_iface, g_nil_r, g_nil_l, eX, ↓reduceIte, Nat.reduceEqDiff, Int.reduceToNat]
  rw [e_neq _ _ _ _ (by simp)]
  rw [q_equal]
  first | rw [q_ptr_nil _ _ _ Try.underlying78] | rw [q_nil_ptr _ _ _ Try.underlying78]
  try simp only [eX, ↓reduceIte, Nat.reduceEqDiff, Int.reduceToNat]
  refine hK _ _ ?_; clear hK K
  refine OW_nil ?_
  try simp only [Ex.thnH, Ex.inBlockH, ↓reduceIte, Nat.reduceEqDiff]
  refine hK4 _ _ ?_; try clear hK4 K4
  refine CW_cond (fun r => rfl) (fun c10 => ?_) (fun c10 => ?_)
  · first
    | (exfalso; exact cnA c10; done)
    | skip
      (try simp only [decide_eq_true_eq, decide_eq_false_iff_not, Bool.not_eq_true, Bool.not_eq_false, Bool.and_eq_true, Bool.or_eq_true, Bool.or_eq_false_iff, Bool.not_eq_true, Bool.not_eq_eq_eq_not, Bool.not_true, Bool.not_false] at c10)
      refine CW_seq (fun K5 hK5 => ?_)
      refine CW_region ?_
      refine OW_mv rfl ?_
      refine OW_opS (fun K hK r => ?_)
      rw [x_nilCheck _ _ rfl]
      simp only [eX, ↓reduceIte, Nat.reduceEqDiff, Int.reduceToNat]
      refine hK _ _ ?_; clear hK K
      refine OW_opS (fun K hK r => ?_)
      simp only [x_fieldAddr, fa82_2, add_mk, Nat.reduceAdd, Nat.zero_add, eX, ↓reduceIte, Nat.reduceEqDiff, Int.reduceToNat]
      refine hK _ _ ?_; clear hK K
      refine OW_opS (fun K hK r => ?_)
      simp only [x_load, eX, ↓reduceIte, Nat.reduceEqDiff, Int.reduceToNat]
      refine Lt_loadAt1 Try.underlying80 rfl hbA ldA ?_
      try simp only [eX, ↓reduceIte, Nat.reduceEqDiff, Int.reduceToNat]
      refine hK _ _ ?_; clear hK K
      refine OW_opS (fun K hK r => ?_)
      simp only [x_builtin, l_len, List.map_toArray, List.map_cons, List.map_nil, i_len_slice _ _ Try.underlying80, eX, ↓reduceIte, Nat.reduceEqDiff, Int.reduceToNat]
      refine hK _ _ ?_; clear hK K
      refine OW_as rfl ?_
      refine OW_nil ?_
      try simp only [Ex.thnH, Ex.inBlockH, ↓reduceIte, Nat.reduceEqDiff]
      refine hK5 _ _ ?_; try clear hK5 K5
      refine CW_ret ?_
      try simp only [Ex.thnH, Ex.inBlockH, ↓reduceIte, Nat.reduceEqDiff]
      skip
  · first
    | (exfalso; exact cnA c10; done)
    | skip
      (try simp only [decide_eq_true_eq, decide_eq_false_iff_not, Bool.not_eq_true, Bool.not_eq_false, Bool.and_eq_true, Bool.or_eq_true, Bool.or_eq_false_iff, Bool.not_eq_true, Bool.not_eq_eq_eq_not, Bool.not_true, Bool.not_false] at c10)
      refine CW_skip ?_
      try simp only [Ex.thnH, Ex.inBlockH, ↓reduceIte, Nat.reduceEqDiff]
      refine hK2 _ _ ?_; try clear hK2 K2
      refine CW_seq (fun K6 hK6 => ?_)
      refine CW_region ?_
      refine OW_as rfl ?_
      refine OW_nil ?_
      try simp only [Ex.thnH, Ex.inBlockH, ↓reduceIte, Nat.reduceEqDiff]
      refine hK6 _ _ ?_; try clear hK6 K6
      refine CW_ret ?_
      try simp only [Ex.thnH, Ex.inBlockH, ↓reduceIte, Nat.reduceEqDiff]
      exact ⟨[_], ⟨rfl, trivial⟩, _, Le.refl _, rfl, rfl⟩

end Go.Proofs.Ytkmjncmdhinlgaa.HL
end
section
namespace Go.Proofs.Ytkmjncmdhinlgaa.HL
open Go Go.Proofs
set_option linter.unusedSimpArgs false
set_option linter.unusedVariables false
attribute [local irreducible] Lt Lq CW OW TW CallH


theorem lastW_none {i : Int} : ∀ {ws : List Wt}, (∀ j, j < ws.length → (ws.getD j default).at_ ≠ i) → lastW ws i = none
  | [], _ => rfl
  | w :: r, h => by
    simp only [lastW]
    rw [lastW_none (ws := r) (fun j hj => by simpa using h (j + 1) (by simp; omega))]
    have : w.at_ ≠ i := by simpa using h 0 (by simp)
    simp [this]
theorem lastW_at {i : Int} : ∀ {ws : List Wt} {k : Nat}, k < ws.length → (ws.getD k default).at_ = i → (∀ j, k < j → j < ws.length → (ws.getD j default).at_ ≠ i) → lastW ws i = some (ws.getD k default).x
  | [], _, h, _, _ => absurd h (by simp)
  | w :: r, 0, _, h1, h2 => by
    simp only [lastW]
    rw [lastW_none (ws := r) (fun j hj => by simpa using h2 (j + 1) (by omega) (by simp; omega))]
    have : w.at_ = i := by simpa using h1
    simp [this]
  | w :: r, k + 1, h, h1, h2 => by
    simp only [lastW]
    rw [lastW_at (ws := r) (k := k) (by simpa using h) (by simpa using h1) (fun j hj hjl => by simpa using h2 (j + 1) (by omega) (by simp; omega))]
    simp
def St.rd (s : St) (dev i : Int) : Sec × Option Int := if s.gone = true then (Sec.zero, some 3) else if s.has dev i = true then ((s.dv.getD dev.toNat default).read i, none) else (Sec.zero, some 1)
def St.su (s : St) (dev i : Int) : Sec := if 0 ≤ dev ∧ dev < s.dv.length then (s.dv.getD dev.toNat default).sure i else Sec.zero
abbrev TBack (ws : List Wt) : Nat → List Value → Hp → Prop := Tpure (fun i => [.int .i64 ((ws.length : Int) - 1 - i), .agg (ws.getD (ws.length - 1 - i) default).c.toArray])

set_option maxRecDepth 100000 in
set_option maxHeartbeats 1000000 in
theorem Backward_ok (H : Hp) (a : Option Addr) (n cap : Nat) : CallH Try.prog 38 #[.slice a n cap] H (fun v' H' => ∃ b1, H b1 = none ∧ v' = .func (.func 45) #[] #[.pointer (some ⟨b1, 0, none⟩)] ∧ H' = H.upd b1 (.cells #[.slice a n cap] 80)) := by
  refine CallH_enter (l := [_]) (rl := [.tmp 2]) (n := 4) Try.func38 rfl rfl rfl rfl rfl ?_
  simp only [envOf, Nat.reduceAdd]
  refine CW_seq (fun K1 hK1 => ?_)
  refine CW_region ?_
  refine OW_opS (fun K hK r => ?_)
  simp only [x_box, Value.cells, eX, ↓reduceIte, Nat.reduceEqDiff, Int.reduceToNat]
  intro b1 hb1
  have f1_H : H b1 = none := none_of_le lhA hb1
  try simp only [eX, ↓reduceIte, Nat.reduceEqDiff, Int.reduceToNat]
  refine hK _ _ ?_; clear hK K
  refine OW_as rfl ?_
  refine OW_nil ?_
  try simp only [Ex.thnH, Ex.inBlockH, ↓reduceIte, Nat.reduceEqDiff]
  refine hK1 _ _ ?_; try clear hK1 K1
  refine CW_seq (fun K2 hK2 => ?_)
  refine CW_region ?_
  refine OW_opS (fun K hK r => ?_)
  simp only [x_makeFunc, List.map_toArray, List.map_cons, List.map_nil, eX, ↓reduceIte, Nat.reduceEqDiff, Int.reduceToNat]
  refine hK _ _ ?_; clear hK K
  refine OW_as rfl ?_
  refine OW_nil ?_
  try simp only [Ex.thnH, Ex.inBlockH, ↓reduceIte, Nat.reduceEqDiff]
  refine hK2 _ _ ?_; try clear hK2 K2
  refine CW_ret ?_
  try simp only [Ex.thnH, Ex.inBlockH, ↓reduceIte, Nat.reduceEqDiff]
  exact ⟨[_], ⟨rfl, trivial⟩, _, Le.refl _, b1, hb1, rfl, rfl⟩

set_option maxRecDepth 100000 in
set_option maxHeartbeats 4000000 in
theorem backward1_ok (H0 : Hp) (b1 : Nat) (a : Option Addr) (cap : Nat) (ws : List Wt) (hv : Holds H0 65 (.slice a ws.length cap) ws.length (wts ws)) (h1 : H0 b1 = some (.cells #[.slice a ws.length cap] 80)) (hl : ws.length ≤ 1000000) (yf : Fn) (ya yb : Array Value) (J : Nat → Hp → Prop) (S : Hp → Prop) (H : Hp) (hle : ∀ i H, J i H → Le H0 H) (hy : ∀ i, i < ws.length → ∀ H, J i H → ∀ args F, TBack ws i args F → H.apart F → ValH Try.prog (.func yf ya yb) args.toArray (H.join F) (fun v H2 => ∃ H3, Le H3 H2 ∧ ((v = .bool true ∧ J (i + 1) H3) ∨ (v = .bool false ∧ S H3)))) (hj : J 0 H) :
  CallH Try.prog 45 #[.func yf ya yb, .pointer (some ⟨b1, 0, none⟩)] H (fun _ H2 => ∃ H3, Le H3 H2 ∧ (J ws.length H3 ∨ S H3)) := by
  refine CallH_enter (l := [_, _]) (rl := []) (n := 19) Try.func45 rfl rfl rfl rfl rfl ?_
  simp only [envOf, Nat.reduceAdd]
  have hk1 := hle 0 H hj _ _ h1
  refine CW_seq (fun K1 hK1 => ?_)
  refine CW_region ?_
  refine OW_opS (fun K hK r => ?_)
  simp only [x_load, eX, ↓reduceIte, Nat.reduceEqDiff, Int.reduceToNat]
  refine Lt_loadAt1 Try.underlying80 rfl hbA ldA ?_
  try simp only [eX, ↓reduceIte, Nat.reduceEqDiff, Int.reduceToNat]
  refine hK _ _ ?_; clear hK K
  refine OW_opS (fun K hK r => ?_)
  simp only [x_builtin, l_len, List.map_toArray, List.map_cons, List.map_nil, i_len_slice _ _ Try.underlying80, eX, ↓reduceIte, Nat.reduceEqDiff, Int.reduceToNat]
  refine hK _ _ ?_; clear hK K
  refine OW_opS (fun K hK r => ?_)
  simp (disch := (first | omega | decide)) only [x_bin, g_int, b_sub, wrap_i64, wrap_u64, wrap_u32, wrap_u8, eX, ↓reduceIte, Nat.reduceEqDiff, Int.reduceToNat]
  refine hK _ _ ?_; clear hK K
  refine OW_as rfl ?_
  refine OW_nil ?_
  try simp only [Ex.thnH, Ex.inBlockH, ↓reduceIte, Nat.reduceEqDiff]
  refine hK1 _ _ ?_; try clear hK1 K1
  refine CW_block ?_
  refine CW_loop (fun m e H_ => ∃ (k : Nat) (HJ : Hp), k ≤ ws.length ∧ m = ws.length - k ∧ J k HJ ∧ Le HJ H_ ∧ Env.has [(0, .func yf ya yb), (1, .pointer (some ⟨b1, 0, none⟩)), (3, .int .i64 ((ws.length : Int) - 1 - k))] e) (ws.length) ?_ ?_
  · skip
    refine ⟨0, H, by omega, by omega, hj, Le.refl _, rfl, rfl, ?_, trivial⟩
    show some (Value.int _ _) = some (Value.int _ _)
    congr 2; omega
  intro m_ e_ H_ hI_
  obtain ⟨k, HJ, hk, rfl, hJ, hlJ, he⟩ := hI_
  have hl0 := Le.trans (hle k HJ hJ) hlJ
  have hk1_ := hl0 _ _ h1
  refine CW_env he.sub ?_; clear he e_
  refine CW_seq (fun K2 hK2 => ?_)
  refine CW_seq (fun K3 hK3 => ?_)
  refine CW_region ?_
  refine OW_mv rfl ?_
  refine OW_opS (fun K hK r => ?_)
  simp (disch := (first | omega | decide)) only [x_bin, g_int, b_geq, dec_lt_t, dec_lt_f, dec_le_t, dec_le_f, dec_eq_t, dec_eq_f, Bool.not_true, Bool.not_false, eX, ↓reduceIte, Nat.reduceEqDiff, Int.reduceToNat]
  refine hK _ _ ?_; clear hK K
  refine OW_nil ?_
  try simp only [Ex.thnH, Ex.inBlockH, ↓reduceIte, Nat.reduceEqDiff]
  refine hK3 _ _ ?_; try clear hK3 K3
  refine CW_cond (fun r => rfl) (fun c8 => ?_) (fun c8 => ?_)
  · first
    | (exfalso; exact cnA c8; done)
    | skip
      (try simp only [decide_eq_true_eq, decide_eq_false_iff_not, Bool.not_eq_true, Bool.not_eq_false, Bool.and_eq_true, Bool.or_eq_true, Bool.or_eq_false_iff, Bool.not_eq_true, Bool.not_eq_eq_eq_not, Bool.not_true, Bool.not_false] at c8)
      have hkN : k < ws.length := by omega
      obtain ⟨bw, ow, cw, Tw, Fw, ew, hbw, hsw, atw⟩ := (hv.le hl0).at (by omega)
      refine CW_skip ?_
      try simp only [Ex.thnH, Ex.inBlockH, ↓reduceIte, Nat.reduceEqDiff]
      refine hK2 _ _ ?_; try clear hK2 K2
      refine CW_seq (fun K4 hK4 => ?_)
      refine CW_block ?_
      refine CW_seq (fun K5 hK5 => ?_)
      refine CW_region ?_
      refine OW_mv rfl ?_
      refine OW_mv rfl ?_
      refine OW_opS (fun K hK r => ?_)
      simp only [x_load, eX, ↓reduceIte, Nat.reduceEqDiff, Int.reduceToNat]
      refine Lt_loadAt1 Try.underlying80 rfl hbA ldA ?_
      try simp only [eX, ↓reduceIte, Nat.reduceEqDiff, Int.reduceToNat]
      refine hK _ _ ?_; clear hK K
      refine OW_mv rfl ?_
      refine OW_opS (fun K hK r => ?_)
      simp only [x_indexAddr, eX, ↓reduceIte, Nat.reduceEqDiff, Int.reduceToNat]
      refine Lt_indexSof Try.underlying80 sz87 ew ixA ixA ?_
      rw [show ((ws.length : Int) - 1 - k).toNat = ws.length - 1 - k from by omega]
      refine hK _ _ ?_; clear hK K
      refine OW_opS (fun K hK r => ?_)
      simp only [x_load, eX, ↓reduceIte, Nat.reduceEqDiff, Int.reduceToNat]
      refine Lt_loadAtA Try.underlying87 rfl sz87 hbw (by have := Nat.mul_le_mul_right 65 (show ws.length - 1 - k + 1 ≤ ws.length by omega); omega) ?_
      rw [ext_at Wt.len atw rfl (ws.length - 1 - k) (by omega) hsw]
      refine hK _ _ ?_; clear hK K
      refine OW_opS (fun K hK r => ?_)
      simp only [x_call, List.map_toArray, List.map_cons, List.map_nil, eX, ↓reduceIte, Nat.reduceEqDiff, Int.reduceToNat]
      show ValH _ _ _ _ _
      refine (Iter.yield0 (hy k hkN HJ hJ _ emptyHp ⟨rfl, rfl⟩ (apart_empty _)) hlJ).mono ?_
      rintro v17 H17 ⟨t, H3, rfl, hl3, hyes, hno, _⟩
      try simp only [eX, ↓reduceIte, Nat.reduceEqDiff, Int.reduceToNat]
      refine hK _ _ ?_; clear hK K
      refine OW_opS (fun K hK r => ?_)
      simp only [x_un, u_not, eX, ↓reduceIte, Nat.reduceEqDiff, Int.reduceToNat]
      refine hK _ _ ?_; clear hK K
      refine OW_nil ?_
      try simp only [Ex.thnH, Ex.inBlockH, ↓reduceIte, Nat.reduceEqDiff]
      refine hK5 _ _ ?_; try clear hK5 K5
      refine CW_cond (fun r => rfl) (fun c18 => ?_) (fun c18 => ?_)
      · first
        | (exfalso; exact cnA c18; done)
        | skip
          have q18 := c18
          refine CW_ret ?_
          try simp only [Ex.thnH, Ex.inBlockH, ↓reduceIte, Nat.reduceEqDiff]
          exact ⟨[], trivial, _, Le.refl _, H3, hl3, .inr (hno (by simpa using q18))⟩
      · first
        | (exfalso; exact cnA c18; done)
        | skip
          have ht : t = true := by simpa using c18
          have hJ3 := hyes ht
          refine CW_skip ?_
          try simp only [Ex.thnH, Ex.inBlockH, ↓reduceIte, Nat.reduceEqDiff]
          refine hK4 _ _ ?_; try clear hK4 K4
          refine CW_region ?_
          refine OW_mv rfl ?_
          refine OW_opS (fun K hK r => ?_)
          simp (disch := (first | omega | decide)) only [x_bin, g_int, b_sub, wrap_i64, wrap_u64, wrap_u32, wrap_u8, eX, ↓reduceIte, Nat.reduceEqDiff, Int.reduceToNat]
          refine hK _ _ ?_; clear hK K
          refine OW_as rfl ?_
          refine OW_nil ?_
          try simp only [Ex.thnH, Ex.inBlockH, ↓reduceIte, Nat.reduceEqDiff]
          refine ⟨ws.length - (k + 1), by omega, k + 1, H3, by omega, rfl, hJ3, hl3, rfl, rfl, ?_, trivial⟩
          show some (Value.int _ _) = some (Value.int _ _)
          congr 2; omega
  · first
    | (exfalso; exact cnA c8; done)
    | skip
      (try simp only [decide_eq_true_eq, decide_eq_false_iff_not, Bool.not_eq_true, Bool.not_eq_false, Bool.and_eq_true, Bool.or_eq_true, Bool.or_eq_false_iff, Bool.not_eq_true, Bool.not_eq_eq_eq_not, Bool.not_true, Bool.not_false] at c8)
      have hkN : k = ws.length := by omega
      refine CW_exit ?_
      try simp only [Ex.thnH, Ex.inBlockH, ↓reduceIte, Nat.reduceEqDiff]
      subst hkN
      exact ⟨[], trivial, _, Le.refl _, HJ, hlJ, .inl hJ⟩


theorem iter_back (H0 : Hp) (b1 : Nat) (a : Option Addr) (cap : Nat) (ws : List Wt) (hv : Holds H0 65 (.slice a ws.length cap) ws.length (wts ws)) (h1 : H0 b1 = some (.cells #[.slice a ws.length cap] 80)) (hl : ws.length ≤ 1000000) : Iter Try.prog (.func (.func 45) #[] #[.pointer (some ⟨b1, 0, none⟩)]) H0 ws.length (TBack ws) :=
  fun yf ya yb J S H hle hy hj => ValH_func bd45 (backward1_ok H0 b1 a cap ws hv h1 hl yf ya yb J S H hle hy hj)

set_option maxRecDepth 100000 in
set_option maxHeartbeats 8000000 in
theorem read_ok (H : Hp) (p : Nat) (s : St) (rd cap : Nat) (bs : List Nat) (Fs : Nat → Hp) (h : SX H p s rd cap bs Fs) (hl : s.dv.length ≤ 1000) (hw : ∀ i, (s.dv.getD i default).wait.length ≤ 1000000) (dev i : Int) : CallH Try.prog 16 #[(.pointer (some ⟨p, 0, none⟩)), .int .i64 dev, .int .i64 i] H (fun v H' => v = .tuple #[(s.rd dev i).1.v, errV (s.rd dev i).2] ∧ H' = H) := by
  refine CallH_enter (l := [_, _, _]) (rl := [.cell 6 38, .cell 7 28]) (n := 45) Try.func16 rfl rfl rfl rfl rfl ?_
  simp only [envOf, Nat.reduceAdd]
  refine CW_seq (fun K1 hK1 => ?_)
  refine CW_region ?_
  refine OW_opS (fun K hK r => ?_)
  simp only [x_box, Value.cells, eX, ↓reduceIte, Nat.reduceEqDiff, Int.reduceToNat]
  intro b5 hb5
  have f5_H : H b5 = none := none_of_le lhA hb5
  try simp only [eX, ↓reduceIte, Nat.reduceEqDiff, Int.reduceToNat]
  refine hK _ _ ?_; clear hK K
  refine OW_opS (fun K hK r => ?_)
  simp only [x_alloc, zr38, orF_some, Value.cells, eX, ↓reduceIte, Nat.reduceEqDiff, Int.reduceToNat]
  intro b6 hb6
  try have n6_b5 : b5 ≠ b6 := ne_of_none hbA hb6
  have f6_H : H b6 = none := none_of_le lhA hb6
  try simp only [eX, ↓reduceIte, Nat.reduceEqDiff, Int.reduceToNat]
  refine hK _ _ ?_; clear hK K
  refine OW_opS (fun K hK r => ?_)
  simp only [x_alloc, zr28, orF_some, Value.cells, eX, ↓reduceIte, Nat.reduceEqDiff, Int.reduceToNat]
  intro b7 hb7
  try have n7_b5 : b5 ≠ b7 := ne_of_none hbA hb7
  try have n7_b6 : b6 ≠ b7 := ne_of_none hbA hb7
  have f7_H : H b7 = none := none_of_le lhA hb7
  try simp only [eX, ↓reduceIte, Nat.reduceEqDiff, Int.reduceToNat]
  refine hK _ _ ?_; clear hK K
  refine OW_nil ?_
  try simp only [Ex.thnH, Ex.inBlockH, ↓reduceIte, Nat.reduceEqDiff]
  refine hK1 _ _ ?_; try clear hK1 K1
  refine CW_seq (fun K2 hK2 => ?_)
  refine CW_region ?_
  refine OW_mv rfl ?_
  refine OW_mv rfl ?_
  refine OW_opS (fun K hK r => ?_)
  simp only [x_callF _ bd30, List.map_toArray, List.map_cons, List.map_nil, eX, ↓reduceIte, Nat.reduceEqDiff, Int.reduceToNat]
  refine (device_ok _ p s rd cap bs Fs (h.mono lhA) dev hl).mono ?_
  rintro v H' ⟨rfl, rfl⟩
  try simp only [eX, ↓reduceIte, Nat.reduceEqDiff, Int.reduceToNat]
  refine hK _ _ ?_; clear hK K
  refine OW_as rfl ?_
  refine OW_nil ?_
  try simp only [Ex.thnH, Ex.inBlockH, ↓reduceIte, Nat.reduceEqDiff]
  refine hK2 _ _ ?_; try clear hK2 K2
  refine CW_seq (fun K3 hK3 => ?_)
  refine CW_block ?_
  refine CW_seq (fun K4 hK4 => ?_)
  refine CW_region ?_
  refine OW_mv rfl ?_
  refine OW_opS (fun K hK r => ?_)
  simp only [x_callF _ bd19, List.map_toArray, List.map_cons, List.map_nil, eX, ↓reduceIte, Nat.reduceEqDiff, Int.reduceToNat]
  refine (down_ok _ p s rd cap bs Fs (h.mono lhA)).mono ?_
  rintro v H' ⟨rfl, rfl⟩
  try simp only [eX, ↓reduceIte, Nat.reduceEqDiff, Int.reduceToNat]
  refine hK _ _ ?_; clear hK K
  refine OW_as rfl ?_
  refine OW_nil ?_
  try simp only [Ex.thnH, Ex.inBlockH, ↓reduceIte, Nat.reduceEqDiff]
  refine hK4 _ _ ?_; try clear hK4 K4
  refine CW_cond (fun r => rfl) (fun c14 => ?_) (fun c14 => ?_)
  · first
    | (exfalso; exact cnA c14; done)
    | skip
      have hgo : s.gone = true := c14
      refine CW_seq (fun K5 hK5 => ?_)
      refine CW_region ?_
      refine OW_opS (fun K hK r => ?_)
      simp only [x_build, List.map_toArray, List.map_cons, List.map_nil, eX, ↓reduceIte, Nat.reduceEqDiff, Int.reduceToNat]
      rw [l_buildArr Try.underlying38 sz5 zr38]
      simp only [Value.cells]
      simp only [fill_nil, orF_some, List.setIfInBounds_toArray, List.set_cons_zero, List.set_cons_succ]
      try simp only [eX, ↓reduceIte, Nat.reduceEqDiff, Int.reduceToNat]
      refine hK _ _ ?_; clear hK K
      refine OW_opS (fun K hK r => ?_)
      simp only [x_makeInterface, i_makeInterface, Try.underlying71, orF_some, eX, ↓reduceIte, Nat.reduceEqDiff, Int.reduceToNat]
      refine hK _ _ ?_; clear hK K
      refine OW_op rfl (lt_none) (fun K hK r => ?_)
      simp only [x_store, eX, ↓reduceIte, Nat.reduceEqDiff, Int.reduceToNat]
      first | refine Lt_storeAll sz38 bdA hbA bdA plA (by decide) ?_ | refine Lt_storeAtA sz38 bdA hbA bdA plA (by decide) ?_
      try simp only [eX, ↓reduceIte, Nat.reduceEqDiff, Int.reduceToNat]
      refine hK _ _ ?_; clear hK K
      refine OW_op rfl (lt_none) (fun K hK r => ?_)
      simp only [x_store, eX, ↓reduceIte, Nat.reduceEqDiff, Int.reduceToNat]
      refine Lt_storeAt1 sz28 hbA bdA plA fzA ?_
      try simp only [setL0, setL1, setL2, setL3, setL4, setL5, setL6, setL7, setL8, setL9]
      try simp only [eX, ↓reduceIte, Nat.reduceEqDiff, Int.reduceToNat]
      refine hK _ _ ?_; clear hK K
      refine OW_nil ?_
      try simp only [Ex.thnH, Ex.inBlockH, ↓reduceIte, Nat.reduceEqDiff]
      refine hK5 _ _ ?_; try clear hK5 K5
      refine CW_ret ?_
      try simp only [Ex.thnH, Ex.inBlockH, ↓reduceIte, Nat.reduceEqDiff]
      refine ⟨[_, _], ⟨⟨_, rfl, Lq_loadAll Try.underlying38 rfl sz38 hbA (by simp [Sec.h])⟩, ⟨_, rfl, Lq_load1 Try.underlying28 rfl hbA ldA⟩, trivial⟩, H, lhA, ?_, rfl⟩
      show Value.tuple _ = _
      unfold St.rd; rw [if_pos hgo]; rfl
  · first
    | (exfalso; exact cnA c14; done)
    | skip
      have hgo : s.gone = false := by simpa using c14
      refine CW_seq (fun K6 hK6 => ?_)
      refine CW_region ?_
      refine OW_mv rfl ?_
      refine OW_opS (fun K hK r => ?_)
      simp only [x_load, eX, ↓reduceIte, Nat.reduceEqDiff, Int.reduceToNat]
      refine Lt_loadAt1 Try.underlying3 rfl hbA ldA ?_
      try simp only [eX, ↓reduceIte, Nat.reduceEqDiff, Int.reduceToNat]
      refine hK _ _ ?_; clear hK K
      refine OW_opS (fun K hK r => ?_)
      simp only [x_callF _ bd31, List.map_toArray, List.map_cons, List.map_nil, eX, ↓reduceIte, Nat.reduceEqDiff, Int.reduceToNat]
      refine (has_dev _ p s rd cap bs Fs (h.mono lhA) dev i).mono ?_
      rintro v H' ⟨rfl, rfl⟩
      try simp only [eX, ↓reduceIte, Nat.reduceEqDiff, Int.reduceToNat]
      refine hK _ _ ?_; clear hK K
      refine OW_opS (fun K hK r => ?_)
      simp only [x_un, u_not, eX, ↓reduceIte, Nat.reduceEqDiff, Int.reduceToNat]
      refine hK _ _ ?_; clear hK K
      refine OW_as rfl ?_
      refine OW_nil ?_
      try simp only [Ex.thnH, Ex.inBlockH, ↓reduceIte, Nat.reduceEqDiff]
      refine hK6 _ _ ?_; try clear hK6 K6
      refine CW_cond (fun r => rfl) (fun c19 => ?_) (fun c19 => ?_)
      · first
        | (exfalso; exact cnA c19; done)
        | skip
          (try simp only [decide_eq_true_eq, decide_eq_false_iff_not, Bool.not_eq_true, Bool.not_eq_false, Bool.and_eq_true, Bool.or_eq_true, Bool.or_eq_false_iff, Bool.not_eq_true, Bool.not_eq_eq_eq_not, Bool.not_true, Bool.not_false] at c19)
          have hno : s.has dev i = false := by simpa using c19
          refine CW_seq (fun K7 hK7 => ?_)
          refine CW_region ?_
          refine OW_opS (fun K hK r => ?_)
          simp only [x_build, List.map_toArray, List.map_cons, List.map_nil, eX, ↓reduceIte, Nat.reduceEqDiff, Int.reduceToNat]
          rw [l_buildArr Try.underlying38 sz5 zr38]
          simp only [Value.cells]
          simp only [fill_nil, orF_some, List.setIfInBounds_toArray, List.set_cons_zero, List.set_cons_succ]
          try simp only [eX, ↓reduceIte, Nat.reduceEqDiff, Int.reduceToNat]
          refine hK _ _ ?_; clear hK K
          refine OW_opS (fun K hK r => ?_)
          simp only [x_makeInterface, i_makeInterface, Try.underlying71, orF_some, eX, ↓reduceIte, Nat.reduceEqDiff, Int.reduceToNat]
          refine hK _ _ ?_; clear hK K
          refine OW_op rfl (lt_none) (fun K hK r => ?_)
          simp only [x_store, eX, ↓reduceIte, Nat.reduceEqDiff, Int.reduceToNat]
          first | refine Lt_storeAll sz38 bdA hbA bdA plA (by decide) ?_ | refine Lt_storeAtA sz38 bdA hbA bdA plA (by decide) ?_
          try simp only [eX, ↓reduceIte, Nat.reduceEqDiff, Int.reduceToNat]
          refine hK _ _ ?_; clear hK K
          refine OW_op rfl (lt_none) (fun K hK r => ?_)
          simp only [x_store, eX, ↓reduceIte, Nat.reduceEqDiff, Int.reduceToNat]
          refine Lt_storeAt1 sz28 hbA bdA plA fzA ?_
          try simp only [setL0, setL1, setL2, setL3, setL4, setL5, setL6, setL7, setL8, setL9]
          try simp only [eX, ↓reduceIte, Nat.reduceEqDiff, Int.reduceToNat]
          refine hK _ _ ?_; clear hK K
          refine OW_nil ?_
          try simp only [Ex.thnH, Ex.inBlockH, ↓reduceIte, Nat.reduceEqDiff]
          refine hK7 _ _ ?_; try clear hK7 K7
          refine CW_ret ?_
          try simp only [Ex.thnH, Ex.inBlockH, ↓reduceIte, Nat.reduceEqDiff]
          refine ⟨[_, _], ⟨⟨_, rfl, Lq_loadAll Try.underlying38 rfl sz38 hbA (by simp [Sec.h])⟩, ⟨_, rfl, Lq_load1 Try.underlying28 rfl hbA ldA⟩, trivial⟩, H, lhA, ?_, rfl⟩
          show Value.tuple _ = _
          unfold St.rd; rw [if_neg (by rw [hgo]; simp), if_neg (by rw [hno]; simp)]; rfl
      · first
        | (exfalso; exact cnA c19; done)
        | skip
          (try simp only [decide_eq_true_eq, decide_eq_false_iff_not, Bool.not_eq_true, Bool.not_eq_false, Bool.and_eq_true, Bool.or_eq_true, Bool.or_eq_false_iff, Bool.not_eq_true, Bool.not_eq_eq_eq_not, Bool.not_true, Bool.not_false] at c19)
          have hyes : s.has dev i = true := by simpa using c19
          have hin : 0 ≤ dev ∧ dev < s.dv.length := by unfold St.has at hyes; simp at hyes; omega
          have hk : dev.toNat < s.dv.length := by omega
          have hdv : devV s bs dev = ptrV (bs.getD dev.toNat 0) := by unfold devV; rw [if_pos hin]
          simp only [hdv]
          have hwl := hw dev.toNat
          obtain ⟨b, hbd⟩ : ∃ b, b = bs.getD dev.toNat 0 := ⟨_, rfl⟩
          obtain ⟨d, hd0⟩ : ∃ d, d = s.dv.getD dev.toNat default := ⟨_, rfl⟩
          have hrd : s.rd dev i = (d.read i, none) := by unfold St.rd; rw [if_neg (by rw [hgo]; simp), if_pos hyes, hd0]
          rw [← hd0] at hwl
          simp only [← hbd]
          obtain ⟨mb, es, c, wv, wrs, hb0, hm0, hms, how, hbm, hwb, hwm⟩ := (hd0 ▸ hbd ▸ h.dev dev.toNat hk : DvX (Fs dev.toNat) b d).facts
          obtain ⟨wa, wcp, rfl⟩ := how.holds.form
          have hleF := h.le dev.toNat hk
          have kb := hleF _ _ hb0
          have km := hleF _ _ hm0
          have nb5 : b ≠ b5 := ne_of_none kb f5_H
          have nb6 : b ≠ b6 := ne_of_none kb f6_H
          have nb7 : b ≠ b7 := ne_of_none kb f7_H
          simp only [ptrV]
          refine CW_skip ?_
          try simp only [Ex.thnH, Ex.inBlockH, ↓reduceIte, Nat.reduceEqDiff]
          refine hK3 _ _ ?_; try clear hK3 K3
          refine CW_seq (fun K8 hK8 => ?_)
          refine CW_seq (fun K9 hK9 => ?_)
          refine CW_region ?_
          refine OW_mv rfl ?_
          refine OW_opS (fun K hK r => ?_)
          rw [x_nilCheck _ _ rfl]
          simp only [eX, ↓reduceIte, Nat.reduceEqDiff, Int.reduceToNat]
          refine hK _ _ ?_; clear hK K
          refine OW_opS (fun K hK r => ?_)
          simp only [x_fieldAddr, fa82_2, add_mk, Nat.reduceAdd, Nat.zero_add, eX, ↓reduceIte, Nat.reduceEqDiff, Int.reduceToNat]
          refine hK _ _ ?_; clear hK K
          refine OW_opS (fun K hK r => ?_)
          simp only [x_load, eX, ↓reduceIte, Nat.reduceEqDiff, Int.reduceToNat]
          refine Lt_loadAt1 Try.underlying80 rfl hbA ldA ?_
          try simp only [eX, ↓reduceIte, Nat.reduceEqDiff, Int.reduceToNat]
          refine hK _ _ ?_; clear hK K
          refine OW_opS (fun K hK r => ?_)
          simp only [x_callF _ bd38, List.map_toArray, List.map_cons, List.map_nil, eX, ↓reduceIte, Nat.reduceEqDiff, Int.reduceToNat]
          refine (Backward_ok _ wa d.wait.length wcp).mono ?_
          rintro v30 H30 ⟨b30, hb30, rfl, hH30⟩
          have f30 : H b30 = none := none_of_le lhA hb30
          have l30 : Le H H30 := by rw [hH30]; exact le_upd_of lhA f30
          have k30 : H30 b30 = some (.cells #[.slice wa d.wait.length wcp] 80) := by rw [hH30]; exact upd_same _ _ _
          have k5 : H30 b5 = some (.cells #[.int .i64 i] 3) := by rw [hH30]; exact (upd_ne _ _ (ne_of_none hbA hb30)).trans hbA
          have k6 : H30 b6 = some (.cells (Array.replicate 64 (.int .u8 0)) 38) := by rw [hH30]; exact (upd_ne _ _ (ne_of_none hbA hb30)).trans hbA
          have k7 : H30 b7 = some (.cells #[.nilIface] 28) := by rw [hH30]; exact (upd_ne _ _ (ne_of_none hbA hb30)).trans hbA
          try simp only [eX, ↓reduceIte, Nat.reduceEqDiff, Int.reduceToNat]
          refine hK _ _ ?_; clear hK K
          refine OW_nil ?_
          try simp only [Ex.thnH, Ex.inBlockH, ↓reduceIte, Nat.reduceEqDiff]
          refine hK9 _ _ ?_; try clear hK9 K9
          refine CW_block ?_
          refine CW_rangeFunc (fun r => rfl) (iter_back H30 b30 wa wcp d.wait (how.holds.le (Le.trans hleF l30)) k30 hwl) (fun j H_ => Le H30 H_ ∧ ∀ t, t < j → (d.wait.getD (d.wait.length - 1 - t) default).at_ ≠ i) ?_ ?_ (by decide) ?_ ?_
          · skip
            exact fun j H_ hj => hj.1
          · skip
            exact ⟨Le.refl _, fun t ht => absurd ht (by omega)⟩
          · intro l_ i_ hi_ H_ hI_ args_ F_ hT_ hF_
            obtain ⟨hl_, hno_⟩ := hI_
            obtain ⟨rfl, rfl⟩ := hT_
            rw [join_empty]
            have hlH := Le.trans l30 hl_
            have q5 := hl_ _ _ k5
            have q6 := hl_ _ _ k6
            have q7 := hl_ _ _ k7
            refine ⟨rfl, ?_⟩
            simp only [putAll, List.zip_cons_cons, List.zip_nil_right, List.zip_nil_left, eX, ↓reduceIte, Nat.reduceEqDiff, Int.reduceToNat]
            refine CW_region ?_
            refine OW_opS (fun K hK r => ?_)
            simp only [x_alloc, zr87, orF_some, Value.cells, eX, ↓reduceIte, Nat.reduceEqDiff, Int.reduceToNat]
            intro b10 hb10
            try have n10_b5 : b5 ≠ b10 := ne_of_none hbA hb10
            try have n10_b6 : b6 ≠ b10 := ne_of_none hbA hb10
            try have n10_b7 : b7 ≠ b10 := ne_of_none hbA hb10
            have f10_H : H b10 = none := none_of_le lhA hb10
            try simp only [eX, ↓reduceIte, Nat.reduceEqDiff, Int.reduceToNat]
            refine hK _ _ ?_; clear hK K
            refine OW_op rfl (lt_none) (fun K hK r => ?_)
            simp only [x_store, eX, ↓reduceIte, Nat.reduceEqDiff, Int.reduceToNat]
            refine Lt_storeAll sz87 (by simp [Sec.h]) hbA (by simp [Sec.h]) (Wt.plain _) (by decide) ?_
            refine hK _ _ ?_; clear hK K
            refine OW_nil ?_
            try simp only [Ex.thnH, Ex.inBlockH, ↓reduceIte, Nat.reduceEqDiff]
            first | refine ⟨rfl, ?_⟩ | refine ⟨trivial, ?_⟩
            refine CW_block ?_
            refine CW_seq (fun K10 hK10 => ?_)
            refine CW_region ?_
            refine OW_opS (fun K hK r => ?_)
            simp only [x_fieldAddr, fa87_0, add_mk, Nat.reduceAdd, Nat.zero_add, eX, ↓reduceIte, Nat.reduceEqDiff, Int.reduceToNat]
            refine hK _ _ ?_; clear hK K
            refine OW_opS (fun K hK r => ?_)
            simp only [x_load, eX, ↓reduceIte, Nat.reduceEqDiff, Int.reduceToNat]
            refine Lt_loadAt1 Try.underlying3 rfl hbA (wt_at (d.wait.getD (d.wait.length - 1 - i_) default)) ?_
            refine hK _ _ ?_; clear hK K
            refine OW_opS (fun K hK r => ?_)
            simp only [x_load, eX, ↓reduceIte, Nat.reduceEqDiff, Int.reduceToNat]
            refine Lt_loadAt1 Try.underlying3 rfl hbA ldA ?_
            try simp only [eX, ↓reduceIte, Nat.reduceEqDiff, Int.reduceToNat]
            refine hK _ _ ?_; clear hK K
            refine OW_opS (fun K hK r => ?_)
            simp (disch := (first | omega | decide)) only [x_bin, g_int, b_eql, dec_lt_t, dec_lt_f, dec_le_t, dec_le_f, dec_eq_t, dec_eq_f, Bool.not_true, Bool.not_false, eX, ↓reduceIte, Nat.reduceEqDiff, Int.reduceToNat]
            refine hK _ _ ?_; clear hK K
            refine OW_nil ?_
            try simp only [Ex.thnH, Ex.inBlockH, ↓reduceIte, Nat.reduceEqDiff]
            refine hK10 _ _ ?_; try clear hK10 K10
            refine CW_cond (fun r => rfl) (fun c36 => ?_) (fun c36 => ?_)
            · first
              | (exfalso; exact cnA c36; done)
              | skip
                (try simp only [decide_eq_true_eq, decide_eq_false_iff_not, Bool.not_eq_true, Bool.not_eq_false, Bool.and_eq_true, Bool.or_eq_true, Bool.or_eq_false_iff, Bool.not_eq_true, Bool.not_eq_eq_eq_not, Bool.not_true, Bool.not_false] at c36)
                refine CW_seq (fun K11 hK11 => ?_)
                refine CW_region ?_
                refine OW_opS (fun K hK r => ?_)
                simp only [x_fieldAddr, fa87_1, add_mk, Nat.reduceAdd, Nat.zero_add, eX, ↓reduceIte, Nat.reduceEqDiff, Int.reduceToNat]
                refine hK _ _ ?_; clear hK K
                refine OW_opS (fun K hK r => ?_)
                simp only [x_load, eX, ↓reduceIte, Nat.reduceEqDiff, Int.reduceToNat]
                refine Lt_loadAtA Try.underlying38 rfl sz38 hbA (by simp [Sec.h]) ?_
                rw [wt_x]
                refine hK _ _ ?_; clear hK K
                refine OW_op rfl (lt_none) (fun K hK r => ?_)
                simp only [x_store, eX, ↓reduceIte, Nat.reduceEqDiff, Int.reduceToNat]
                refine Lt_storeAll sz38 (by simp [Sec.h]) hbA (by simp [Sec.h]) (PlainL.ints _ _) (by decide) ?_
                refine hK _ _ ?_; clear hK K
                refine OW_op rfl (lt_none) (fun K hK r => ?_)
                simp only [x_store, eX, ↓reduceIte, Nat.reduceEqDiff, Int.reduceToNat]
                refine Lt_storeAt1 sz28 hbA bdA plA fzA ?_
                try simp only [setL0, setL1, setL2, setL3, setL4, setL5, setL6, setL7, setL8, setL9]
                try simp only [eX, ↓reduceIte, Nat.reduceEqDiff, Int.reduceToNat]
                refine hK _ _ ?_; clear hK K
                refine OW_nil ?_
                try simp only [Ex.thnH, Ex.inBlockH, ↓reduceIte, Nat.reduceEqDiff]
                refine hK11 _ _ ?_; try clear hK11 K11
                refine CW_ret ?_
                try simp only [Ex.thnH, Ex.inBlockH, ↓reduceIte, Nat.reduceEqDiff]
                refine ⟨[_, _], ⟨⟨_, rfl, Lq_loadAll Try.underlying38 rfl sz38 hbA (by simp [Sec.h])⟩, ⟨_, rfl, Lq_load1 Try.underlying28 rfl hbA ldA⟩, trivial⟩, H, lhA, ?_, rfl⟩
                show Value.tuple _ = _
                rw [hrd]
                unfold Dv.read
                rw [lastW_at (k := d.wait.length - 1 - i_) (by omega) c36 (fun j hj hjl => by have := hno_ (d.wait.length - 1 - j) (by omega); rwa [show d.wait.length - 1 - (d.wait.length - 1 - j) = j from by omega] at this)]
                rfl
            · first
              | (exfalso; exact cnA c36; done)
              | skip
                (try simp only [decide_eq_true_eq, decide_eq_false_iff_not, Bool.not_eq_true, Bool.not_eq_false, Bool.and_eq_true, Bool.or_eq_true, Bool.or_eq_false_iff, Bool.not_eq_true, Bool.not_eq_eq_eq_not, Bool.not_true, Bool.not_false] at c36)
                refine CW_skip ?_
                try simp only [Ex.thnH, Ex.inBlockH, ↓reduceIte, Nat.reduceEqDiff]
                refine ⟨le_upd_of hl_ (none_of_le hl_ hb10), fun t ht => ?_⟩
                by_cases e : t = i_
                · subst e; exact c36
                · exact hno_ t (by omega)
          intro H_ hI_
          obtain ⟨hl_, hno_⟩ := hI_
          have hlH := Le.trans l30 hl_
          have q5 := hl_ _ _ k5
          have q6 := hl_ _ _ k6
          have q7 := hl_ _ _ k7
          have qb := hlH _ _ kb
          have qm := hlH _ _ km
          try simp only [Ex.thnH, Ex.inBlockH, ↓reduceIte, Nat.reduceEqDiff]
          refine hK8 _ _ ?_; try clear hK8 K8
          refine CW_seq (fun K12 hK12 => ?_)
          refine CW_drawE [0, 0, 0, 1, 1, 1, 3, 3] [0, 1, 2, 3, 4, 5, 6, 7] (by kernel_rfl) (by kernel_rfl) (fun R10 hR10 => ?_)
          apply TW_pure rfl (lt_some (by decide)) rfl
          · intro r
            simp only [x_move, eX, ↓reduceIte, Nat.reduceEqDiff]
            exact ⟨rfl, Le.refl _⟩
          simp only [eX, ↓reduceIte, Nat.reduceEqDiff, Int.reduceToNat]
          apply TW_pure rfl (lt_some (by decide)) rfl
          · intro r
            rw [x_nilCheck _ _ rfl]
            exact ⟨rfl, Le.refl _⟩
          simp only [eX, ↓reduceIte, Nat.reduceEqDiff, Int.reduceToNat]
          apply TW_pure rfl (lt_some (by decide)) rfl
          · intro r
            simp only [x_fieldAddr, fa82_1, add_mk, Nat.reduceAdd, Nat.zero_add, eX, ↓reduceIte, Nat.reduceEqDiff]
            exact ⟨rfl, Le.refl _⟩
          simp only [eX, ↓reduceIte, Nat.reduceEqDiff, Int.reduceToNat]
          apply TW_look rfl (lt_some (by decide)) rfl
          · intro r
            simp only [x_load, eX, ↓reduceIte, Nat.reduceEqDiff]
            refine Lt_loadAt1 Try.underlying79 rfl hbA ldA ?_
            exact ⟨rfl, Le.refl _⟩
          simp only [eX, ↓reduceIte, Nat.reduceEqDiff, Int.reduceToNat]
          apply TW_look rfl (lt_some (by decide)) rfl
          · intro r
            simp only [x_load, eX, ↓reduceIte, Nat.reduceEqDiff]
            refine Lt_loadAt1 Try.underlying3 rfl hbA ldA ?_
            exact ⟨rfl, Le.refl _⟩
          simp only [eX, ↓reduceIte, Nat.reduceEqDiff, Int.reduceToNat]
          apply TW_look rfl (lt_some (by decide)) rfl
          · intro r
            simp only [x_lookup, eX, ↓reduceIte, Nat.reduceEqDiff]
            refine Lt_lookup Try.underlying79 Try.underlying3 zr38 hbA hms.1 ?_
            rw [hms.2]
            exact ⟨rfl, Le.refl _⟩
          simp only [eX, ↓reduceIte, Nat.reduceEqDiff, Int.reduceToNat]
          refine TW_last rfl (lt_none) rfl (fun K hK r => ?_)
          simp only [x_store, eX, ↓reduceIte, Nat.reduceEqDiff, Int.reduceToNat]
          refine Lt_storeAll sz38 (by simp [Sec.h]) hbA (by simp [Sec.h]) (PlainL.ints _ _) (by decide) ?_
          refine hK _ _ ?_; clear hK K
          refine TW_last rfl (lt_none) rfl (fun K hK r => ?_)
          simp only [x_store, eX, ↓reduceIte, Nat.reduceEqDiff, Int.reduceToNat]
          refine Lt_storeAt1 sz28 hbA bdA plA fzA ?_
          try simp only [setL0, setL1, setL2, setL3, setL4, setL5, setL6, setL7, setL8, setL9]
          try simp only [eX, ↓reduceIte, Nat.reduceEqDiff, Int.reduceToNat]
          refine hK _ _ ?_; clear hK K
          refine TW_nil ?_
          try simp only [Ex.thnH, Ex.inBlockH, ↓reduceIte, Nat.reduceEqDiff]
          refine hK12 _ _ ?_; try clear hK12 K12
          refine CW_ret ?_
          try simp only [Ex.thnH, Ex.inBlockH, ↓reduceIte, Nat.reduceEqDiff]
          refine ⟨[_, _], ⟨⟨_, rfl, Lq_loadAll Try.underlying38 rfl sz38 hbA (by simp [Sec.h])⟩, ⟨_, rfl, Lq_load1 Try.underlying28 rfl hbA ldA⟩, trivial⟩, H, lhA, ?_, rfl⟩
          show Value.tuple _ = _
          rw [hrd]
          unfold Dv.read
          rw [lastW_none (fun j hj => by have := hno_ (d.wait.length - 1 - j) (by omega); rwa [show d.wait.length - 1 - (d.wait.length - 1 - j) = j from by omega] at this)]
          rfl

end Go.Proofs.Ytkmjncmdhinlgaa.HL
end
section
namespace Go.Proofs.Ytkmjncmdhinlgaa.HL
open Go Go.Proofs
set_option linter.unusedSimpArgs false
set_option linter.unusedVariables false
attribute [local irreducible] Lt Lq CW OW TW CallH

set_option maxRecDepth 100000 in
set_option maxHeartbeats 8000000 in
theorem sure_in (H : Hp) (p : Nat) (s : St) (rd cap : Nat) (bs : List Nat) (Fs : Nat → Hp) (h : SX H p s rd cap bs Fs) (hl : s.dv.length ≤ 1000) (dev i : Int) (hin : 0 ≤ dev ∧ dev < s.dv.length) : CallH Try.prog 17 #[(.pointer (some ⟨p, 0, none⟩)), .int .i64 dev, .int .i64 i] H (fun v H' => v = (s.su dev i).v ∧ H' = H) := by
  refine CallH_enter (l := [_, _, _]) (rl := [.cell 6 38]) (n := 20) Try.func17 rfl rfl rfl rfl rfl ?_
  simp only [envOf, Nat.reduceAdd]
  have hk : dev.toNat < s.dv.length := by omega
  obtain ⟨b, hbd⟩ : ∃ b, b = bs.getD dev.toNat 0 := ⟨_, rfl⟩
  obtain ⟨mb, es, c, wv, wrs, hb0, hm0, hms, how, hbm, hwb, hwm⟩ := (hbd ▸ h.dev dev.toNat hk : DvX (Fs dev.toNat) b (s.dv.getD dev.toNat default)).facts
  have hleF := h.le dev.toNat hk
  have kb := hleF _ _ hb0
  have km := hleF _ _ hm0
  refine CW_seq (fun K1 hK1 => ?_)
  refine CW_region ?_
  refine OW_opS (fun K hK r => ?_)
  simp only [x_alloc, zr38, orF_some, Value.cells, eX, ↓reduceIte, Nat.reduceEqDiff, Int.reduceToNat]
  intro b6 hb6
  have f6_H : H b6 = none := none_of_le lhA hb6
  try simp only [eX, ↓reduceIte, Nat.reduceEqDiff, Int.reduceToNat]
  refine hK _ _ ?_; clear hK K
  refine OW_nil ?_
  try simp only [Ex.thnH, Ex.inBlockH, ↓reduceIte, Nat.reduceEqDiff]
  refine hK1 _ _ ?_; try clear hK1 K1
  refine CW_seq (fun K2 hK2 => ?_)
  refine CW_region ?_
  refine OW_mv rfl ?_
  refine OW_mv rfl ?_
  refine OW_opS (fun K hK r => ?_)
  simp only [x_callF _ bd30, List.map_toArray, List.map_cons, List.map_nil, eX, ↓reduceIte, Nat.reduceEqDiff, Int.reduceToNat]
  refine (device_ok _ p s rd cap bs Fs (h.mono lhA) dev hl).mono ?_
  rintro v H' ⟨rfl, rfl⟩
  rw [show devV s bs dev = ptrV (bs.getD dev.toNat 0) from if_pos hin]
  simp only [← hbd]
  have nb6 : b ≠ b6 := ne_of_none kb f6_H
  have nm6 : mb ≠ b6 := ne_of_none km f6_H
  simp only [ptrV]
  try simp only [eX, ↓reduceIte, Nat.reduceEqDiff, Int.reduceToNat]
  refine hK _ _ ?_; clear hK K
  refine OW_as rfl ?_
  refine OW_nil ?_
  try simp only [Ex.thnH, Ex.inBlockH, ↓reduceIte, Nat.reduceEqDiff]
  refine hK2 _ _ ?_; try clear hK2 K2
  refine CW_seq (fun K3 hK3 => ?_)
  refine CW_seq (fun K4 hK4 => ?_)
  refine CW_region ?_
  refine OW_mv rfl ?_
  refine OW_opS (fun K hK r => ?_)
  simp only [x_bin, g_int, g_bool, g_string, g_pointer, g_slice, g_map, g_func, g_nilFunc, g_iface, g_nil_iface, g_nil_r, g_nil_l, eX, ↓reduceIte, Nat.reduceEqDiff, Int.reduceToNat]
  rw [e_eql _ _ _ _ (by simp)]
  rw [q_equal]
  first | rw [q_ptr_nil _ _ _ Try.underlying78] | rw [q_nil_ptr _ _ _ Try.underlying78]
  try simp only [eX, ↓reduceIte, Nat.reduceEqDiff, Int.reduceToNat]
  refine hK _ _ ?_; clear hK K
  refine OW_nil ?_
  try simp only [Ex.thnH, Ex.inBlockH, ↓reduceIte, Nat.reduceEqDiff]
  refine hK4 _ _ ?_; try clear hK4 K4
  refine CW_cond (fun r => rfl) (fun c12 => ?_) (fun c12 => ?_)
  · first
    | (exfalso; exact cnA c12; done)
    | skip
      (try simp only [decide_eq_true_eq, decide_eq_false_iff_not, Bool.not_eq_true, Bool.not_eq_false, Bool.and_eq_true, Bool.or_eq_true, Bool.or_eq_false_iff, Bool.not_eq_true, Bool.not_eq_eq_eq_not, Bool.not_true, Bool.not_false] at c12)
      refine CW_seq (fun K5 hK5 => ?_)
      refine CW_region ?_
      refine OW_opS (fun K hK r => ?_)
      simp only [x_build, List.map_toArray, List.map_cons, List.map_nil, eX, ↓reduceIte, Nat.reduceEqDiff, Int.reduceToNat]
      rw [l_buildArr Try.underlying38 sz5 zr38]
      simp only [Value.cells]
      simp only [fill_nil, orF_some, List.setIfInBounds_toArray, List.set_cons_zero, List.set_cons_succ]
      try simp only [eX, ↓reduceIte, Nat.reduceEqDiff, Int.reduceToNat]
      refine hK _ _ ?_; clear hK K
      refine OW_op rfl (lt_none) (fun K hK r => ?_)
      simp only [x_store, eX, ↓reduceIte, Nat.reduceEqDiff, Int.reduceToNat]
      first | refine Lt_storeAll sz38 bdA hbA bdA plA (by decide) ?_ | refine Lt_storeAtA sz38 bdA hbA bdA plA (by decide) ?_
      try simp only [eX, ↓reduceIte, Nat.reduceEqDiff, Int.reduceToNat]
      refine hK _ _ ?_; clear hK K
      refine OW_nil ?_
      try simp only [Ex.thnH, Ex.inBlockH, ↓reduceIte, Nat.reduceEqDiff]
      refine hK5 _ _ ?_; try clear hK5 K5
      refine CW_ret ?_
      try simp only [Ex.thnH, Ex.inBlockH, ↓reduceIte, Nat.reduceEqDiff]
      skip
  · first
    | (exfalso; exact cnA c12; done)
    | skip
      (try simp only [decide_eq_true_eq, decide_eq_false_iff_not, Bool.not_eq_true, Bool.not_eq_false, Bool.and_eq_true, Bool.or_eq_true, Bool.or_eq_false_iff, Bool.not_eq_true, Bool.not_eq_eq_eq_not, Bool.not_true, Bool.not_false] at c12)
      refine CW_skip ?_
      try simp only [Ex.thnH, Ex.inBlockH, ↓reduceIte, Nat.reduceEqDiff]
      refine hK3 _ _ ?_; try clear hK3 K3
      refine CW_seq (fun K6 hK6 => ?_)
      refine CW_region ?_
      refine OW_mv rfl ?_
      refine OW_opS (fun K hK r => ?_)
      rw [x_nilCheck _ _ rfl]
      simp only [eX, ↓reduceIte, Nat.reduceEqDiff, Int.reduceToNat]
      refine hK _ _ ?_; clear hK K
      refine OW_opS (fun K hK r => ?_)
      simp only [x_fieldAddr, fa82_1, add_mk, Nat.reduceAdd, Nat.zero_add, eX, ↓reduceIte, Nat.reduceEqDiff, Int.reduceToNat]
      refine hK _ _ ?_; clear hK K
      refine OW_opS (fun K hK r => ?_)
      simp only [x_load, eX, ↓reduceIte, Nat.reduceEqDiff, Int.reduceToNat]
      refine Lt_loadAt1 Try.underlying79 rfl hbA ldA ?_
      try simp only [eX, ↓reduceIte, Nat.reduceEqDiff, Int.reduceToNat]
      refine hK _ _ ?_; clear hK K
      refine OW_mv rfl ?_
      refine OW_opS (fun K hK r => ?_)
      simp only [x_lookup, eX, ↓reduceIte, Nat.reduceEqDiff, Int.reduceToNat]
      refine Lt_lookup Try.underlying79 Try.underlying3 zr38 hbA hms.1 ?_
      rw [hms.2]
      refine hK _ _ ?_; clear hK K
      refine OW_op rfl (lt_none) (fun K hK r => ?_)
      simp only [x_store, eX, ↓reduceIte, Nat.reduceEqDiff, Int.reduceToNat]
      refine Lt_storeAll sz38 (by simp [Sec.h]) hbA (by simp [Sec.h]) (PlainL.ints _ _) (by decide) ?_
      refine hK _ _ ?_; clear hK K
      refine OW_nil ?_
      try simp only [Ex.thnH, Ex.inBlockH, ↓reduceIte, Nat.reduceEqDiff]
      refine hK6 _ _ ?_; try clear hK6 K6
      refine CW_ret ?_
      try simp only [Ex.thnH, Ex.inBlockH, ↓reduceIte, Nat.reduceEqDiff]
      refine ⟨[_], ⟨⟨_, rfl, Lq_loadAll Try.underlying38 rfl sz38 hbA (by simp [Sec.h])⟩, trivial⟩, H, lhA, ?_, rfl⟩
      unfold St.su; rw [if_pos hin]; rfl

set_option maxRecDepth 100000 in
set_option maxHeartbeats 8000000 in
theorem sure_out (H : Hp) (p : Nat) (s : St) (rd cap : Nat) (bs : List Nat) (Fs : Nat → Hp) (h : SX H p s rd cap bs Fs) (hl : s.dv.length ≤ 1000) (dev i : Int) (hno : ¬ (0 ≤ dev ∧ dev < s.dv.length)) : CallH Try.prog 17 #[(.pointer (some ⟨p, 0, none⟩)), .int .i64 dev, .int .i64 i] H (fun v H' => v = (s.su dev i).v ∧ H' = H) := by
  refine CallH_enter (l := [_, _, _]) (rl := [.cell 6 38]) (n := 20) Try.func17 rfl rfl rfl rfl rfl ?_
  simp only [envOf, Nat.reduceAdd]
  refine CW_seq (fun K1 hK1 => ?_)
  refine CW_region ?_
  refine OW_opS (fun K hK r => ?_)
  simp only [x_alloc, zr38, orF_some, Value.cells, eX, ↓reduceIte, Nat.reduceEqDiff, Int.reduceToNat]
  intro b6 hb6
  have f6_H : H b6 = none := none_of_le lhA hb6
  try simp only [eX, ↓reduceIte, Nat.reduceEqDiff, Int.reduceToNat]
  refine hK _ _ ?_; clear hK K
  refine OW_nil ?_
  try simp only [Ex.thnH, Ex.inBlockH, ↓reduceIte, Nat.reduceEqDiff]
  refine hK1 _ _ ?_; try clear hK1 K1
  refine CW_seq (fun K2 hK2 => ?_)
  refine CW_region ?_
  refine OW_mv rfl ?_
  refine OW_mv rfl ?_
  refine OW_opS (fun K hK r => ?_)
  simp only [x_callF _ bd30, List.map_toArray, List.map_cons, List.map_nil, eX, ↓reduceIte, Nat.reduceEqDiff, Int.reduceToNat]
  refine (device_ok _ p s rd cap bs Fs (h.mono lhA) dev hl).mono ?_
  rintro v H' ⟨rfl, rfl⟩
  rw [show devV s bs dev = .pointer none from if_neg hno]
  try simp only [eX, ↓reduceIte, Nat.reduceEqDiff, Int.reduceToNat]
  refine hK _ _ ?_; clear hK K
  refine OW_as rfl ?_
  refine OW_nil ?_
  try simp only [Ex.thnH, Ex.inBlockH, ↓reduceIte, Nat.reduceEqDiff]
  refine hK2 _ _ ?_; try clear hK2 K2
  refine CW_seq (fun K3 hK3 => ?_)
  refine CW_seq (fun K4 hK4 => ?_)
  refine CW_region ?_
  refine OW_mv rfl ?_
  refine OW_opS (fun K hK r => ?_)
  simp only [x_bin, g_int, g_bool, g_string, g_pointer, g_slice, g_map, g_func, g_nilFunc, g_iface, g_nil_iface, g_nil_r, g_nil_l, eX, ↓reduceIte, Nat.reduceEqDiff, Int.reduceToNat]
  rw [e_eql _ _ _ _ (by simp)]
  rw [q_equal]
  first | rw [q_ptr_nil _ _ _ Try.underlying78] | rw [q_nil_ptr _ _ _ Try.underlying78]
  try simp only [eX, ↓reduceIte, Nat.reduceEqDiff, Int.reduceToNat]
  refine hK _ _ ?_; clear hK K
  refine OW_nil ?_
  try simp only [Ex.thnH, Ex.inBlockH, ↓reduceIte, Nat.reduceEqDiff]
  refine hK4 _ _ ?_; try clear hK4 K4
  refine CW_cond (fun r => rfl) (fun c12 => ?_) (fun c12 => ?_)
  · first
    | (exfalso; exact cnA c12; done)
    | skip
      (try simp only [decide_eq_true_eq, decide_eq_false_iff_not, Bool.not_eq_true, Bool.not_eq_false, Bool.and_eq_true, Bool.or_eq_true, Bool.or_eq_false_iff, Bool.not_eq_true, Bool.not_eq_eq_eq_not, Bool.not_true, Bool.not_false] at c12)
      refine CW_seq (fun K5 hK5 => ?_)
      refine CW_region ?_
      refine OW_opS (fun K hK r => ?_)
      simp only [x_build, List.map_toArray, List.map_cons, List.map_nil, eX, ↓reduceIte, Nat.reduceEqDiff, Int.reduceToNat]
      rw [l_buildArr Try.underlying38 sz5 zr38]
      simp only [Value.cells]
      simp only [fill_nil, orF_some, List.setIfInBounds_toArray, List.set_cons_zero, List.set_cons_succ]
      try simp only [eX, ↓reduceIte, Nat.reduceEqDiff, Int.reduceToNat]
      refine hK _ _ ?_; clear hK K
      refine OW_op rfl (lt_none) (fun K hK r => ?_)
      simp only [x_store, eX, ↓reduceIte, Nat.reduceEqDiff, Int.reduceToNat]
      first | refine Lt_storeAll sz38 bdA hbA bdA plA (by decide) ?_ | refine Lt_storeAtA sz38 bdA hbA bdA plA (by decide) ?_
      try simp only [eX, ↓reduceIte, Nat.reduceEqDiff, Int.reduceToNat]
      refine hK _ _ ?_; clear hK K
      refine OW_nil ?_
      try simp only [Ex.thnH, Ex.inBlockH, ↓reduceIte, Nat.reduceEqDiff]
      refine hK5 _ _ ?_; try clear hK5 K5
      refine CW_ret ?_
      try simp only [Ex.thnH, Ex.inBlockH, ↓reduceIte, Nat.reduceEqDiff]
      refine ⟨[_], ⟨⟨_, rfl, Lq_loadAll Try.underlying38 rfl sz38 hbA (by simp [Sec.h])⟩, trivial⟩, H, lhA, ?_, rfl⟩
      unfold St.su; rw [if_neg hno]; rfl
  · first
    | (exfalso; exact cnA c12; done)
    | skip
      (try simp only [decide_eq_true_eq, decide_eq_false_iff_not, Bool.not_eq_true, Bool.not_eq_false, Bool.and_eq_true, Bool.or_eq_true, Bool.or_eq_false_iff, Bool.not_eq_true, Bool.not_eq_eq_eq_not, Bool.not_true, Bool.not_false] at c12)
      refine CW_skip ?_
      try simp only [Ex.thnH, Ex.inBlockH, ↓reduceIte, Nat.reduceEqDiff]
      refine hK3 _ _ ?_; try clear hK3 K3
      refine CW_seq (fun K6 hK6 => ?_)
      refine CW_region ?_
      refine OW_mv rfl ?_
      refine OW_opS (fun K hK r => ?_)
      rw [x_nilCheck _ _ rfl]
      simp only [eX, ↓reduceIte, Nat.reduceEqDiff, Int.reduceToNat]
      refine hK _ _ ?_; clear hK K
      refine OW_opS (fun K hK r => ?_)
      simp only [x_fieldAddr, fa82_1, add_mk, Nat.reduceAdd, Nat.zero_add, eX, ↓reduceIte, Nat.reduceEqDiff, Int.reduceToNat]
      refine hK _ _ ?_; clear hK K
      refine OW_opS (fun K hK r => ?_)
      simp only [x_load, eX, ↓reduceIte, Nat.reduceEqDiff, Int.reduceToNat]
      refine Lt_loadAt1 Try.underlying79 rfl hbA ldA ?_
      try simp only [eX, ↓reduceIte, Nat.reduceEqDiff, Int.reduceToNat]
      refine hK _ _ ?_; clear hK K
      refine OW_mv rfl ?_
      refine OW_opS (fun K hK r => ?_)
      simp only [x_lookup, eX, ↓reduceIte, Nat.reduceEqDiff, Int.reduceToNat]
      refine Lt_lookup Try.underlying79 Try.underlying3 zr38 hbA (by with_reducible assumption) ?_
      try simp only [eX, ↓reduceIte, Nat.reduceEqDiff, Int.reduceToNat]
      refine hK _ _ ?_; clear hK K
      refine OW_op rfl (lt_none) (fun K hK r => ?_)
      simp only [x_store, eX, ↓reduceIte, Nat.reduceEqDiff, Int.reduceToNat]
      first | refine Lt_storeAll sz38 bdA hbA bdA plA (by decide) ?_ | refine Lt_storeAtA sz38 bdA hbA bdA plA (by decide) ?_
      try simp only [eX, ↓reduceIte, Nat.reduceEqDiff, Int.reduceToNat]
      refine hK _ _ ?_; clear hK K
      refine OW_nil ?_
      try simp only [Ex.thnH, Ex.inBlockH, ↓reduceIte, Nat.reduceEqDiff]
      refine hK6 _ _ ?_; try clear hK6 K6
      refine CW_ret ?_
      try simp only [Ex.thnH, Ex.inBlockH, ↓reduceIte, Nat.reduceEqDiff]
      skip


theorem sure_ok (H : Hp) (p : Nat) (s : St) (rd cap : Nat) (bs : List Nat) (Fs : Nat → Hp) (h : SX H p s rd cap bs Fs) (hl : s.dv.length ≤ 1000) (dev i : Int) : CallH Try.prog 17 #[(.pointer (some ⟨p, 0, none⟩)), .int .i64 dev, .int .i64 i] H (fun v H' => v = (s.su dev i).v ∧ H' = H) := by
  by_cases hin : 0 ≤ dev ∧ dev < s.dv.length
  · exact sure_in H p s rd cap bs Fs h hl dev i hin
  · exact sure_out H p s rd cap bs Fs h hl dev i hin
/-- a set cut out of its heap -/
def SetF (F : Hp) (p : Nat) (s : St) : Prop := SetX F p s
theorem DvX.own {F : Hp} {b : Nat} {d : Dv} (h : DvX F b d) : F b ≠ none := by obtain ⟨m, wv, e⟩ := h.blk; rw [e]; simp
theorem SX.cut {F : Hp} {p : Nat} {s : St} {r cap : Nat} {bs : List Nat} {Fs : Nat → Hp} (h : SX F p s r cap bs Fs) : ∃ F', Le F' F ∧ SX F' p s r cap bs Fs ∧ ∀ x, F' x ≠ none → x = p ∨ x = r ∨ ∃ i, i < s.dv.length ∧ Fs i x ≠ none := by
  classical
  refine ⟨fun x => if x = p ∨ x = r ∨ ∃ i, i < s.dv.length ∧ Fs i x ≠ none then F x else none, fun x o hx => ?_, ⟨by simpa using h.hd, h.len, ?_, h.dev, fun i hi x o hx => ?_, h.fp, h.sep⟩, fun x hx => ?_⟩
  · by_cases hc : x = p ∨ x = r ∨ ∃ i, i < s.dv.length ∧ Fs i x ≠ none
    · simpa only [if_pos hc] using hx
    · simp only [if_neg hc] at hx; cases hx
  · exact h.own.stay (fun b o hb ho => by cases hb; simpa using ho)
  · have hc : x = p ∨ x = r ∨ ∃ i, i < s.dv.length ∧ Fs i x ≠ none := .inr (.inr ⟨i, hi, by rw [hx]; simp⟩)
    simp only [if_pos hc]; exact h.le i hi x o hx
  · by_cases hc : x = p ∨ x = r ∨ ∃ i, i < s.dv.length ∧ Fs i x ≠ none
    · exact hc
    · simp only [if_neg hc] at hx; exact absurd rfl hx

end Go.Proofs.Ytkmjncmdhinlgaa.HL
end
section
namespace Go.Proofs.Ytkmjncmdhinlgaa.HL
open Go Go.Proofs
set_option linter.unusedSimpArgs false
set_option linter.unusedVariables false
attribute [local irreducible] Lt Lq CW OW TW CallH


def okN (n : Int) : Bool := decide (1 ≤ n) && decide (n ≤ 4096)
def newDv (n : Int) : Dv := ⟨n, fun _ => Sec.zero, []⟩
def newSt (l : List Int) : St := ⟨0, 0, false, false, l.map newDv⟩
def goodN (l : List Int) : Bool := decide (1 ≤ l.length) && decide (l.length ≤ 5) && l.all okN
/-- so many devices of a new set -/
structure NX (H0 H : Hp) (p : Nat) (l : List Int) (k : Nat) (v : Value) (rs : Option Nat) (bs : List Nat) (Fs : Nat → Hp) : Prop where
  hd : H p = some (.cells #[.int .i64 0, .int .i64 0, .bool false, .bool false, v] 77)
  len : bs.length = k
  own : OwnS H 78 1 v k (bs.map ptrV) rs
  dev : ∀ i, i < k → DvX (Fs i) (bs.getD i 0) (newDv (l.getD i default))
  le : ∀ i, i < k → Le (Fs i) H
  fp : ∀ i, i < k → Fs i p = none ∧ ∀ r, rs = some r → Fs i r = none
  sep : ∀ i j, i < k → j < k → i ≠ j → ∀ x, Fs i x ≠ none → Fs j x = none
  fr : ∀ i, i < k → ∀ x, Fs i x ≠ none → H0 x = none
  frr : ∀ r, rs = some r → H0 r = none
  frp : H0 p = none
  old : Le H0 H


theorem good_bad {l : List Int} {k : Nat} (hk : k < l.length) (h : okN (l.getD k default) = false) : goodN l = false := by
  unfold goodN
  have : l.all okN = false := by
    rw [List.all_eq_false]
    rw [List.getD_eq_getElem?_getD, List.getElem?_eq_getElem hk] at h
    exact ⟨l[k], List.getElem_mem hk, by simpa using h⟩
  rw [this]; simp
theorem good_all {l : List Int} (h1 : 1 ≤ l.length) (h2 : l.length ≤ 5) (h : ∀ j, j < l.length → okN (l.getD j default) = true) : goodN l = true := by
  unfold goodN
  have : l.all okN = true := by
    rw [List.all_eq_true]
    intro x hx
    obtain ⟨j, hj, rfl⟩ := List.mem_iff_getElem.1 hx
    have := h j hj
    rwa [List.getD_eq_getElem?_getD, List.getElem?_eq_getElem hj] at this
  rw [this]; simp [h1, h2]
theorem ints_get {l : List Int} {c : Array Value} {o n : Nat} (h : ∀ j, j < n * 1 → c[o + j]? = (l.map (Value.int .i64))[j]?) (hn : n = l.length) (k : Nat) (hk : k < l.length) : c[o + k]? = some (.int .i64 (l.getD k default)) := by
  rw [h k (by omega), List.getElem?_map, List.getElem?_eq_getElem hk, List.getD_eq_getElem?_getD, List.getElem?_eq_getElem hk]; rfl
theorem NX.ne {H0 H : Hp} {p : Nat} {l : List Int} {k : Nat} {v : Value} {rs : Option Nat} {bs : List Nat} {Fs : Nat → Hp} (h : NX H0 H p l k v rs bs Fs) : rs ≠ some p := fun e => by
  obtain ⟨_, ⟨_, _, h0⟩ | ⟨r', cc, c', _, g2, _, _, _, g3⟩⟩ := h.own
  · rw [e] at h0; cases h0
  · rw [e] at g3; cases g3; rw [h.hd] at g2; injection g2 with g2; injection g2 with _ g2; revert g2; decide
theorem NX.next {H0 H HF : Hp} {p : Nat} {l : List Int} {k : Nat} {v : Value} {rs : Option Nat} {bs : List Nat} {Fs : Nat → Hp} (h : NX H0 H p l k v rs bs Fs) {bm b : Nat} (hm : H bm = none) (hb : H b = none) (hmb : bm ≠ b) {v' : Value} {rs' : Option Nat}
    (hhd : HF p = some (.cells #[.int .i64 0, .int .i64 0, .bool false, .bool false, v'] 77)) (hown : OwnS HF 78 1 v' (k + 1) (bs.map ptrV ++ [ptrV b]) rs') (hfm : HF bm = some (.map #[] 0)) (hfb : HF b = some (.cells #[.int .i64 (l.getD k default), .map (some bm), .slice none 0 0] 82))
    (hkeep : ∀ x o, H x = some o → x ≠ p → rs ≠ some x → HF x = some o) (hr : ∀ r, rs' = some r → rs = some r ∨ (H r = none ∧ r ≠ bm ∧ r ≠ b)) :
    NX H0 HF p l (k + 1) v' rs' (bs ++ [b]) (fun i => if i = k then (emptyHp.upd bm (.map #[] 0)).upd b (.cells #[.int .i64 (l.getD k default), .map (some bm), .slice none 0 0] 82) else Fs i) := by
  have dF : ∀ x, ((emptyHp.upd bm (.map #[] 0)).upd b (.cells #[.int .i64 (l.getD k default), .map (some bm), .slice none 0 0] 82)) x ≠ none → x = bm ∨ x = b := fun x hx => by
    by_cases e : x = b
    · exact .inr e
    · by_cases e2 : x = bm
      · exact .inl e2
      · rw [upd_ne _ _ e, upd_ne _ _ e2] at hx; exact absurd rfl hx
  have dn : ∀ x, H x ≠ none → ((emptyHp.upd bm (.map #[] 0)).upd b (.cells #[.int .i64 (l.getD k default), .map (some bm), .slice none 0 0] 82)) x = none := fun x hx => by
    rw [upd_ne _ _ (fun e => by subst e; exact hx hb), upd_ne _ _ (fun e => by subst e; exact hx hm)]; rfl
  have hkp : ∀ i, i < k → ∀ x, Fs i x ≠ none → H x ≠ none := fun i hi x hx hn => hx (none_of_le (h.le i hi) hn)
  refine ⟨hhd, by simp [h.len], by rw [List.map_append]; exact hown, fun i hi => ?_, fun i hi => ?_, fun i hi => ?_, fun i j hi hj hij x hx => ?_, fun i hi x hx => ?_, fun r e => ?_, h.frp, fun x o hx => hkeep x o (h.old x o hx) (fun e => by subst e; rw [h.frp] at hx; cases hx) (fun e => by rw [h.frr x e] at hx; cases hx)⟩
  · by_cases e : i = k
    · subst e
      simp only [if_true]
      have eb : (bs ++ [b]).getD i 0 = b := by rw [← h.len]; simp [List.getD_eq_getElem?_getD]
      rw [eb]
      exact ⟨bm, #[], 0, .slice none 0 0, none, upd_same _ _ _, (upd_ne _ _ hmb).trans (upd_same _ _ _), MapS.nil, OwnS.nil _ _ _, fun x hx => (dF x hx).elim (fun e => .inr (.inl e)) .inl⟩
    · simp only [if_neg e]
      have eb : (bs ++ [b]).getD i 0 = bs.getD i 0 := by
        rw [List.getD_eq_getElem?_getD, List.getD_eq_getElem?_getD, List.getElem?_append_left (by rw [h.len]; omega)]
      rw [eb]; exact h.dev i (by omega)
  · by_cases e : i = k
    · subst e; simp only [if_true]; exact le_put (le_put (le_empty _) hfm) hfb
    · simp only [if_neg e]
      have hi' : i < k := by omega
      exact fun x o hx => hkeep x o (h.le i hi' x o hx) (fun e => by subst e; rw [(h.fp i hi').1] at hx; cases hx) (fun e => by rw [(h.fp i hi').2 x e] at hx; cases hx)
  · by_cases e : i = k
    · subst e; simp only [if_true]
      refine ⟨dn p (by rw [h.hd]; simp), fun r e => ?_⟩
      rcases hr r e with h1 | ⟨_, h1, h2⟩
      · exact dn r (h.own.known r h1)
      · rw [upd_ne _ _ h2, upd_ne _ _ h1]; rfl
    · simp only [if_neg e]
      have hi' : i < k := by omega
      refine ⟨(h.fp i hi').1, fun r e => ?_⟩
      rcases hr r e with h1 | ⟨h1, _, _⟩
      · exact (h.fp i hi').2 r h1
      · exact none_of_le (h.le i hi') h1
  · by_cases e : i = k
    · subst e
      simp only [if_true] at hx
      simp only [if_neg (Ne.symm hij)]
      refine none_of_le (h.le j (by omega)) ?_
      rcases dF x hx with rfl | rfl
      · exact hm
      · exact hb
    · simp only [if_neg e] at hx
      by_cases e2 : j = k
      · subst e2; simp only [if_true]; exact dn x (hkp i (by omega) x hx)
      · simp only [if_neg e2]; exact h.sep i j (by omega) (by omega) hij x hx
  · by_cases e : i = k
    · subst e
      simp only [if_true] at hx
      refine none_of_le h.old ?_
      rcases dF x hx with rfl | rfl
      · exact hm
      · exact hb
    · simp only [if_neg e] at hx; exact h.fr i (by omega) x hx
  · rcases hr r e with h1 | ⟨h1, _, _⟩
    · exact h.frr r h1
    · exact none_of_le h.old h1
theorem NX.done {H0 H : Hp} {p : Nat} {l : List Int} {v : Value} {rs : Option Nat} {bs : List Nat} {Fs : Nat → Hp} (h : NX H0 H p l l.length v rs bs Fs) (hl : 1 ≤ l.length) : ∃ F, SetX F p (newSt l) ∧ Le F H ∧ ∀ x, F x ≠ none → H0 x = none := by
  have hn : (newSt l).dv.length = l.length := by simp [newSt]
  obtain ⟨r, cap, rfl, rfl⟩ : ∃ r cap, v = .slice (some ⟨r, 0, none⟩) l.length cap ∧ rs = some r := by
    obtain ⟨_, ⟨_, h0, _⟩ | ⟨r', cc, c', g1, _, _, _, _, g3⟩⟩ := h.own
    · omega
    · exact ⟨r', cc, g1, g3⟩
  have hs : SX H p (newSt l) r cap bs Fs := by
    refine ⟨by rw [hn]; exact h.hd, by rw [hn]; exact h.len, by rw [hn]; exact h.own, ?_, by rw [hn]; exact h.le, ?_, by rw [hn]; exact h.sep⟩
    · rw [hn]
      intro i hi
      have e : (newSt l).dv.getD i default = newDv (l.getD i default) := by
        simp [newSt, List.getD_eq_getElem?_getD, List.getElem?_eq_getElem hi]
      rw [e]; exact h.dev i hi
    · rw [hn]; exact fun i hi => ⟨(h.fp i hi).1, (h.fp i hi).2 r rfl⟩
  obtain ⟨F, hF, hS, hd⟩ := hs.cut
  refine ⟨F, ⟨_, _, _, _, hS⟩, hF, fun x hx => ?_⟩
  rcases hd x hx with rfl | rfl | ⟨i, hi, hx⟩
  · exact h.frp
  · exact h.frr x rfl
  · rw [hn] at hi; exact h.fr i hi x hx

set_option maxRecDepth 100000 in
set_option maxHeartbeats 8000000 in
theorem new_ok (H : Hp) (a : Option Addr) (cap : Nat) (l : List Int) (hv : Holds H 1 (.slice a l.length cap) l.length (l.map (Value.int .i64))) (hl : l.length ≤ 1000) : CallH Try.prog 10 #[.slice a l.length cap] H (fun v H' => (goodN l = false ∧ v = .tuple #[.pointer none, errV (some 1)] ∧ H' = H) ∨ (goodN l = true ∧ Le H H' ∧ ∃ p, v = .tuple #[ptrV p, errV none] ∧ ∃ F, SetX F p (newSt l) ∧ Le F H' ∧ ∀ x, F x ≠ none → H x = none)) := by
  refine CallH_enter (l := [_]) (rl := [.tmp 2, .tmp 3]) (n := 46) Try.func10 rfl rfl rfl rfl rfl ?_
  simp only [envOf, Nat.reduceAdd]
  refine CW_seq (fun K1 hK1 => ?_)
  refine CW_region ?_
  refine OW_as rfl ?_
  refine OW_as rfl ?_
  refine OW_nil ?_
  try simp only [Ex.thnH, Ex.inBlockH, ↓reduceIte, Nat.reduceEqDiff]
  refine hK1 _ _ ?_; try clear hK1 K1
  refine CW_seq (fun K2 hK2 => ?_)
  refine CW_seq (fun K3 hK3 => ?_)
  refine CW_region ?_
  refine OW_mv rfl ?_
  refine OW_opS (fun K hK r => ?_)
  simp only [x_builtin, l_len, List.map_toArray, List.map_cons, List.map_nil, i_len_slice _ _ Try.underlying56, eX, ↓reduceIte, Nat.reduceEqDiff, Int.reduceToNat]
  refine hK _ _ ?_; clear hK K
  refine OW_opS (fun K hK r => ?_)
  simp (disch := (first | omega | decide)) only [x_bin, g_int, b_lss, dec_lt_t, dec_lt_f, dec_le_t, dec_le_f, dec_eq_t, dec_eq_f, Bool.not_true, Bool.not_false, eX, ↓reduceIte, Nat.reduceEqDiff, Int.reduceToNat]
  refine hK _ _ ?_; clear hK K
  refine OW_mv rfl ?_
  (first | refine OW_split (d := 10) rfl (fun g10 => ?_) (fun g10 => ?_) | skip)
  all_goals try (exfalso; exact cnA g10)
  all_goals (try simp only [decide_eq_true_eq, decide_eq_false_iff_not, Bool.not_eq_true, Bool.not_eq_false, Bool.and_eq_true, Bool.or_eq_true, Bool.or_eq_false_iff, Bool.not_eq_true, Bool.not_eq_eq_eq_not, Bool.not_true, Bool.not_false] at g10)
  all_goals
    try simp only [eX, ↓reduceIte, Nat.reduceEqDiff, Int.reduceToNat]
    first
    | refine OW_guardT rfl (lt_some (by decide)) rfl (fun K hK r => ?_)
      simp only [x_move, eX, ↓reduceIte, Nat.reduceEqDiff, Int.reduceToNat]
      refine hK _ _ ?_; clear hK K
    | refine OW_guardF rfl (lt_some (by decide)) rfl ?_
      simp only [eX, ↓reduceIte, Nat.reduceEqDiff, Int.reduceToNat]
    first
    | refine OW_guardT rfl (lt_some (by decide)) rfl (fun K hK r => ?_)
      simp only [x_builtin, l_len, List.map_toArray, List.map_cons, List.map_nil, i_len_slice _ _ Try.underlying56, eX, ↓reduceIte, Nat.reduceEqDiff, Int.reduceToNat]
      refine hK _ _ ?_; clear hK K
    | refine OW_guardF rfl (lt_some (by decide)) rfl ?_
      simp only [eX, ↓reduceIte, Nat.reduceEqDiff, Int.reduceToNat]
    first
    | refine OW_guardT rfl (lt_some (by decide)) rfl (fun K hK r => ?_)
      simp (disch := (first | omega | decide)) only [x_bin, g_int, b_gtr, dec_lt_t, dec_lt_f, dec_le_t, dec_le_f, dec_eq_t, dec_eq_f, Bool.not_true, Bool.not_false, eX, ↓reduceIte, Nat.reduceEqDiff, Int.reduceToNat]
      refine hK _ _ ?_; clear hK K
    | refine OW_guardF rfl (lt_some (by decide)) rfl ?_
      simp only [eX, ↓reduceIte, Nat.reduceEqDiff, Int.reduceToNat]
    refine OW_opS (fun K hK r => ?_)
    simp only [x_pick, l_asBool, HL.ite_bool, if_true, if_false, Bool.false_eq_true, eX, ↓reduceIte, Nat.reduceEqDiff, Int.reduceToNat]
    refine hK _ _ ?_; clear hK K
    refine OW_nil ?_
    try simp only [Ex.thnH, Ex.inBlockH, ↓reduceIte, Nat.reduceEqDiff]
    refine hK3 _ _ ?_; try clear hK3 K3
    refine CW_cond (fun r => rfl) (fun c14 => ?_) (fun c14 => ?_)
    · first
      | (exfalso; exact cnA c14; done)
      | skip
        (try simp only [decide_eq_true_eq, decide_eq_false_iff_not, Bool.not_eq_true, Bool.not_eq_false, Bool.and_eq_true, Bool.or_eq_true, Bool.or_eq_false_iff, Bool.not_eq_true, Bool.not_eq_eq_eq_not, Bool.not_true, Bool.not_false] at c14)
        have hbad : goodN l = false := by unfold goodN; simp; omega
        refine CW_seq (fun K4 hK4 => ?_)
        refine CW_region ?_
        refine OW_opS (fun K hK r => ?_)
        simp only [x_makeInterface, i_makeInterface, Try.underlying71, orF_some, eX, ↓reduceIte, Nat.reduceEqDiff, Int.reduceToNat]
        refine hK _ _ ?_; clear hK K
        refine OW_as rfl ?_
        refine OW_as rfl ?_
        refine OW_nil ?_
        try simp only [Ex.thnH, Ex.inBlockH, ↓reduceIte, Nat.reduceEqDiff]
        refine hK4 _ _ ?_; try clear hK4 K4
        refine CW_ret ?_
        try simp only [Ex.thnH, Ex.inBlockH, ↓reduceIte, Nat.reduceEqDiff]
        exact ⟨[_, _], ⟨rfl, rfl, trivial⟩, _, Le.refl _, .inl ⟨hbad, rfl, rfl⟩⟩
    · first
      | (exfalso; exact cnA c14; done)
      | skip
        (try simp only [decide_eq_true_eq, decide_eq_false_iff_not, Bool.not_eq_true, Bool.not_eq_false, Bool.and_eq_true, Bool.or_eq_true, Bool.or_eq_false_iff, Bool.not_eq_true, Bool.not_eq_eq_eq_not, Bool.not_true, Bool.not_false] at c14)
        have hlen : 1 ≤ l.length ∧ l.length ≤ 5 := by omega
        refine CW_skip ?_
        try simp only [Ex.thnH, Ex.inBlockH, ↓reduceIte, Nat.reduceEqDiff]
        refine hK2 _ _ ?_; try clear hK2 K2
        refine CW_seq (fun K5 hK5 => ?_)
        refine CW_region ?_
        refine OW_opS (fun K hK r => ?_)
        simp only [x_build, bp77, List.map_toArray, List.map_cons, List.map_nil, eX, ↓reduceIte, Nat.reduceEqDiff, Int.reduceToNat]
        simp only [fill_nil, orF_some, List.setIfInBounds_toArray, List.set_cons_zero, List.set_cons_succ]
        try simp only [eX, ↓reduceIte, Nat.reduceEqDiff, Int.reduceToNat]
        refine hK _ _ ?_; clear hK K
        refine OW_opS (fun K hK r => ?_)
        simp only [x_box, Value.cells, eX, ↓reduceIte, Nat.reduceEqDiff, Int.reduceToNat]
        intro b17 hb17
        have f17_H : H b17 = none := none_of_le lhA hb17
        try simp only [eX, ↓reduceIte, Nat.reduceEqDiff, Int.reduceToNat]
        refine hK _ _ ?_; clear hK K
        refine OW_as rfl ?_
        refine OW_nil ?_
        try simp only [Ex.thnH, Ex.inBlockH, ↓reduceIte, Nat.reduceEqDiff]
        refine hK5 _ _ ?_; try clear hK5 K5
        refine CW_seq (fun K6 hK6 => ?_)
        refine CW_seq (fun K7 hK7 => ?_)
        refine CW_region ?_
        refine OW_mv rfl ?_
        refine OW_opS (fun K hK r => ?_)
        simp only [x_builtin, l_len, List.map_toArray, List.map_cons, List.map_nil, i_len_slice _ _ Try.underlying56, eX, ↓reduceIte, Nat.reduceEqDiff, Int.reduceToNat]
        refine hK _ _ ?_; clear hK K
        refine OW_mv rfl ?_
        refine OW_nil ?_
        try simp only [Ex.thnH, Ex.inBlockH, ↓reduceIte, Nat.reduceEqDiff]
        refine hK7 _ _ ?_; try clear hK7 K7
        refine CW_block ?_
        refine CW_loop (fun m e H_ => ∃ (k : Nat) (v : Value) (rs : Option Nat) (bs : List Nat) (Fs : Nat → Hp), k ≤ l.length ∧ m = l.length - k ∧ (∀ j, j < k → okN (l.getD j default) = true) ∧ NX H H_ b17 l k v rs bs Fs ∧ Env.has [(4, .pointer (some ⟨b17, 0, none⟩)), (18, .slice a l.length cap), (19, .int .i64 l.length), (20, .int .i64 k)] e) (l.length) ?_ ?_
        · skip
          refine ⟨0, .slice none 0 0, none, [], fun _ => emptyHp, by omega, by omega, (fun j hj => absurd hj (by omega)), ⟨upd_same _ _ _, rfl, OwnS.nil _ _ _, (fun i hi => absurd hi (by omega)), (fun i hi => absurd hi (by omega)), (fun i hi => absurd hi (by omega)), (fun i j hi => absurd hi (by omega)), (fun i hi => absurd hi (by omega)), (fun r hr => by cases hr), hb17, le_upd _ _ _ hb17⟩, rfl, rfl, rfl, rfl, trivial⟩
        intro m_ e_ H_ hI_
        obtain ⟨k, v, rs, bs, Fs, hk, rfl, hoks, hN, he⟩ := hI_
        refine CW_env he.sub ?_; clear he e_
        have kp := hN.hd
        have hOld := hN.old
        obtain ⟨va, vc, rfl⟩ := hN.own.holds.form
        refine CW_seq (fun K8 hK8 => ?_)
        refine CW_region ?_
        refine OW_opS (fun K hK r => ?_)
        simp (disch := (first | omega | decide)) only [x_bin, g_int, b_lss, dec_lt_t, dec_lt_f, dec_le_t, dec_le_f, dec_eq_t, dec_eq_f, Bool.not_true, Bool.not_false, eX, ↓reduceIte, Nat.reduceEqDiff, Int.reduceToNat]
        refine hK _ _ ?_; clear hK K
        refine OW_nil ?_
        try simp only [Ex.thnH, Ex.inBlockH, ↓reduceIte, Nat.reduceEqDiff]
        refine hK8 _ _ ?_; try clear hK8 K8
        refine CW_seq (fun K9 hK9 => ?_)
        refine CW_cond (fun r => rfl) (fun c21 => ?_) (fun c21 => ?_)
        · first
          | (exfalso; exact cnA c21; done)
          | skip
            (try simp only [decide_eq_true_eq, decide_eq_false_iff_not, Bool.not_eq_true, Bool.not_eq_false, Bool.and_eq_true, Bool.or_eq_true, Bool.or_eq_false_iff, Bool.not_eq_true, Bool.not_eq_eq_eq_not, Bool.not_true, Bool.not_false] at c21)
            obtain ⟨bw, ow, cw, Tw, Fw, ew, hbw, hsw, atw⟩ := (hv.le hN.old).at (by omega)
            refine CW_skip ?_
            try simp only [Ex.thnH, Ex.inBlockH, ↓reduceIte, Nat.reduceEqDiff]
            refine hK9 _ _ ?_; try clear hK9 K9
            refine CW_seq (fun K10 hK10 => ?_)
            refine CW_block ?_
            refine CW_seq (fun K11 hK11 => ?_)
            refine CW_region ?_
            refine OW_opS (fun K hK r => ?_)
            simp only [x_indexAddr, eX, ↓reduceIte, Nat.reduceEqDiff, Int.reduceToNat]
            refine Lt_indexSof Try.underlying56 sz3 ew ixA ixA ?_
            try simp only [Int.toNat_natCast, Nat.mul_one]
            refine hK _ _ ?_; clear hK K
            refine OW_opS (fun K hK r => ?_)
            simp only [x_load, eX, ↓reduceIte, Nat.reduceEqDiff, Int.reduceToNat]
            refine Lt_loadAt1 Try.underlying3 rfl hbA (v := .int .i64 (l.getD k default)) (by first | exact ints_get atw rfl k (by omega) | (rw [Nat.mul_one]; exact ints_get atw rfl k (by omega))) ?_
            refine hK _ _ ?_; clear hK K
            refine OW_as rfl ?_
            refine OW_nil ?_
            try simp only [Ex.thnH, Ex.inBlockH, ↓reduceIte, Nat.reduceEqDiff]
            refine hK11 _ _ ?_; try clear hK11 K11
            refine CW_seq (fun K12 hK12 => ?_)
            refine CW_seq (fun K13 hK13 => ?_)
            refine CW_region ?_
            refine OW_mv rfl ?_
            refine OW_opS (fun K hK r => ?_)
            simp (disch := (first | omega | decide)) only [x_bin, g_int, b_lss, dec_lt_t, dec_lt_f, dec_le_t, dec_le_f, dec_eq_t, dec_eq_f, Bool.not_true, Bool.not_false, eX, ↓reduceIte, Nat.reduceEqDiff, Int.reduceToNat]
            refine hK _ _ ?_; clear hK K
            refine OW_mv rfl ?_
            (first | refine OW_split (d := 26) rfl (fun g26 => ?_) (fun g26 => ?_) | skip)
            all_goals try (exfalso; exact cnA g26)
            all_goals (try simp only [decide_eq_true_eq, decide_eq_false_iff_not, Bool.not_eq_true, Bool.not_eq_false, Bool.and_eq_true, Bool.or_eq_true, Bool.or_eq_false_iff, Bool.not_eq_true, Bool.not_eq_eq_eq_not, Bool.not_true, Bool.not_false] at g26)
            all_goals
              try simp only [eX, ↓reduceIte, Nat.reduceEqDiff, Int.reduceToNat]
              first
              | refine OW_guardT rfl (lt_some (by decide)) rfl (fun K hK r => ?_)
                simp only [x_move, eX, ↓reduceIte, Nat.reduceEqDiff, Int.reduceToNat]
                refine hK _ _ ?_; clear hK K
              | refine OW_guardF rfl (lt_some (by decide)) rfl ?_
                simp only [eX, ↓reduceIte, Nat.reduceEqDiff, Int.reduceToNat]
              first
              | refine OW_guardT rfl (lt_some (by decide)) rfl (fun K hK r => ?_)
                simp (disch := (first | omega | decide)) only [x_bin, g_int, b_gtr, dec_lt_t, dec_lt_f, dec_le_t, dec_le_f, dec_eq_t, dec_eq_f, Bool.not_true, Bool.not_false, eX, ↓reduceIte, Nat.reduceEqDiff, Int.reduceToNat]
                refine hK _ _ ?_; clear hK K
              | refine OW_guardF rfl (lt_some (by decide)) rfl ?_
                simp only [eX, ↓reduceIte, Nat.reduceEqDiff, Int.reduceToNat]
              refine OW_opS (fun K hK r => ?_)
              simp only [x_pick, l_asBool, HL.ite_bool, if_true, if_false, Bool.false_eq_true, eX, ↓reduceIte, Nat.reduceEqDiff, Int.reduceToNat]
              refine hK _ _ ?_; clear hK K
              refine OW_nil ?_
              try simp only [Ex.thnH, Ex.inBlockH, ↓reduceIte, Nat.reduceEqDiff]
              refine hK13 _ _ ?_; try clear hK13 K13
              refine CW_cond (fun r => rfl) (fun c29 => ?_) (fun c29 => ?_)
              · first
                | (exfalso; exact cnA c29; done)
                | skip
                  (try simp only [decide_eq_true_eq, decide_eq_false_iff_not, Bool.not_eq_true, Bool.not_eq_false, Bool.and_eq_true, Bool.or_eq_true, Bool.or_eq_false_iff, Bool.not_eq_true, Bool.not_eq_eq_eq_not, Bool.not_true, Bool.not_false] at c29)
                  have hbad : goodN l = false := good_bad (k := k) (by omega) (by unfold okN; rw [Bool.and_eq_false_iff]; simp only [decide_eq_false_iff_not]; omega)
                  refine CW_seq (fun K14 hK14 => ?_)
                  refine CW_region ?_
                  refine OW_opS (fun K hK r => ?_)
                  simp only [x_makeInterface, i_makeInterface, Try.underlying71, orF_some, eX, ↓reduceIte, Nat.reduceEqDiff, Int.reduceToNat]
                  refine hK _ _ ?_; clear hK K
                  refine OW_as rfl ?_
                  refine OW_as rfl ?_
                  refine OW_nil ?_
                  try simp only [Ex.thnH, Ex.inBlockH, ↓reduceIte, Nat.reduceEqDiff]
                  refine hK14 _ _ ?_; try clear hK14 K14
                  refine CW_ret ?_
                  try simp only [Ex.thnH, Ex.inBlockH, ↓reduceIte, Nat.reduceEqDiff]
                  exact ⟨[_, _], ⟨rfl, rfl, trivial⟩, H, hN.old, .inl ⟨hbad, rfl, rfl⟩⟩
              · first
                | (exfalso; exact cnA c29; done)
                | skip
                  (try simp only [decide_eq_true_eq, decide_eq_false_iff_not, Bool.not_eq_true, Bool.not_eq_false, Bool.and_eq_true, Bool.or_eq_true, Bool.or_eq_false_iff, Bool.not_eq_true, Bool.not_eq_eq_eq_not, Bool.not_true, Bool.not_false] at c29)
                  have hok : okN (l.getD k default) = true := by unfold okN; rw [Bool.and_eq_true]; simp only [decide_eq_true_eq]; omega
                  refine CW_skip ?_
                  try simp only [Ex.thnH, Ex.inBlockH, ↓reduceIte, Nat.reduceEqDiff]
                  refine hK12 _ _ ?_; try clear hK12 K12
                  refine CW_region ?_
                  refine OW_mv rfl ?_
                  refine OW_mv rfl ?_
                  refine OW_opS (fun K hK r => ?_)
                  rw [x_nilCheck _ _ rfl]
                  simp only [eX, ↓reduceIte, Nat.reduceEqDiff, Int.reduceToNat]
                  refine hK _ _ ?_; clear hK K
                  refine OW_opS (fun K hK r => ?_)
                  simp only [x_fieldAddr, fa77_1, add_mk, Nat.reduceAdd, Nat.zero_add, eX, ↓reduceIte, Nat.reduceEqDiff, Int.reduceToNat]
                  refine hK _ _ ?_; clear hK K
                  refine OW_opS (fun K hK r => ?_)
                  simp only [x_load, eX, ↓reduceIte, Nat.reduceEqDiff, Int.reduceToNat]
                  refine Lt_loadAt1 Try.underlying75 rfl hbA ldA ?_
                  try simp only [eX, ↓reduceIte, Nat.reduceEqDiff, Int.reduceToNat]
                  refine hK _ _ ?_; clear hK K
                  refine OW_mv rfl ?_
                  refine OW_opS (fun K hK r => ?_)
                  simp only [x_makeMap, Option.map_none, eX, ↓reduceIte, Nat.reduceEqDiff, Int.reduceToNat]
                  refine Lt_makeMap ?_
                  intro b37 hb37
                  try have n37_b17 : b17 ≠ b37 := ne_of_none hbA hb37
                  have f37_H : H b37 = none := none_of_le lhA hb37
                  try simp only [eX, ↓reduceIte, Nat.reduceEqDiff, Int.reduceToNat]
                  refine hK _ _ ?_; clear hK K
                  refine OW_opS (fun K hK r => ?_)
                  simp only [x_build, bp82, List.map_toArray, List.map_cons, List.map_nil, eX, ↓reduceIte, Nat.reduceEqDiff, Int.reduceToNat]
                  rw [fill_one rfl clA bdA]
                  rw [fill_one rfl clA bdA]
                  simp only [fill_nil, orF_some, List.setIfInBounds_toArray, List.set_cons_zero, List.set_cons_succ]
                  try simp only [eX, ↓reduceIte, Nat.reduceEqDiff, Int.reduceToNat]
                  refine hK _ _ ?_; clear hK K
                  refine OW_opS (fun K hK r => ?_)
                  simp only [x_box, Value.cells, eX, ↓reduceIte, Nat.reduceEqDiff, Int.reduceToNat]
                  intro b39 hb39
                  try have n39_b17 : b17 ≠ b39 := ne_of_none hbA hb39
                  try have n39_b37 : b37 ≠ b39 := ne_of_none hbA hb39
                  have f39_H : H b39 = none := none_of_le lhA hb39
                  try simp only [eX, ↓reduceIte, Nat.reduceEqDiff, Int.reduceToNat]
                  refine hK _ _ ?_; clear hK K
                  refine OW_opS (fun K hK r => ?_)
                  simp only [x_buildSlice, List.map_toArray, List.map_cons, List.map_nil, eX, ↓reduceIte, Nat.reduceEqDiff, Int.reduceToNat]
                  refine Lt_buildSlice (vs := [_]) Try.underlying75 sz78 zr78 rfl bsA (by first | decide | (simp; done)) ?_
                  simp only [List.flatMap_cons, List.flatMap_nil, Value.cells, List.append_nil, List.cons_append, List.nil_append, List.length_cons, List.length_nil, Nat.zero_add, Nat.reduceAdd]
                  intro b40 hb40
                  try have n40_b17 : b17 ≠ b40 := ne_of_none hbA hb40
                  try have n40_b37 : b37 ≠ b40 := ne_of_none hbA hb40
                  try have n40_b39 : b39 ≠ b40 := ne_of_none hbA hb40
                  have f40_H : H b40 = none := none_of_le lhA hb40
                  try simp only [eX, ↓reduceIte, Nat.reduceEqDiff, Int.reduceToNat]
                  refine hK _ _ ?_; clear hK K
                  refine OW_opS (fun K hK r => ?_)
                  simp only [x_builtin, l_append, List.map_toArray, List.map_cons, List.map_nil, eX, ↓reduceIte, Nat.reduceEqDiff, Int.reduceToNat]
                  have nmp : b37 ≠ b17 := Ne.symm (ne_of_none kp hb37)
                  have hrs17 := hN.ne
                  have hm_ : H_ b37 = none := hb37
                  have hb_39 : H_ b39 = none := none_of_le (le_upd _ _ _ hb37) hb39
                  have nm39 : b37 ≠ b39 := ne_of_none (upd_same _ _ _) hb39
                  have n1739 : b17 ≠ b39 := ne_of_none kp hb_39
                  have hb_40 : H_ b40 = none := none_of_le (Le.trans (le_upd _ _ _ hb37) (le_upd _ _ _ hb39)) hb40
                  have n1740 : b17 ≠ b40 := ne_of_none kp hb_40
                  have n3740 : b37 ≠ b40 := ne_of_none hbA hb40
                  have n3940 : b39 ≠ b40 := ne_of_none hbA hb40
                  refine Lt_append1 Try.underlying75 sz78 by78 (by decide) zr78 rfl _ (((hN.own.make hb37).make hb39).make hb40) (x := ptrV b39) hbA rfl (by omega) ?_
                  intro v41 H41 rs41 hg41 ho41 hr41
                  obtain ⟨wa41, wc41, rfl⟩ := ho41.holds.form
                  have kp41 := hg41.known b17 _ hbA hrs17
                  have km41 := hg41.known b37 (.map #[] 0) hbA (fun e => hN.own.known b37 e hb37)
                  have kb41 := hg41.known b39 (.cells #[.int .i64 (l.getD k default), .map (some b37), .slice none 0 0] 82) hbA (fun e => hN.own.known b39 e hb_39)
                  have hkp41 : ∀ x o, H_ x = some o → rs ≠ some x → H41 x = some o := fun x o hx hn => hg41.known x o (Le.trans (Le.trans (le_upd _ _ _ hb37) (le_upd _ _ _ hb39)) (le_upd _ _ _ hb40) x o hx) hn
                  have hr41' : ∀ r, rs41 = some r → rs = some r ∨ (H_ r = none ∧ r ≠ b37 ∧ r ≠ b39) := fun r e => (hr41 r e).imp id (fun hn => by
                    have h3 := upd_none hn
                    have h2 := upd_none h3
                    refine ⟨upd_none h2, fun e => ?_, fun e => ?_⟩
                    · subst e; rw [upd_same] at h2; cases h2
                    · subst e; rw [upd_same] at h3; cases h3)
                  refine hK _ _ ?_; clear hK K
                  refine OW_opS (fun K hK r => ?_)
                  rw [x_nilCheck _ _ rfl]
                  simp only [eX, ↓reduceIte, Nat.reduceEqDiff, Int.reduceToNat]
                  refine hK _ _ ?_; clear hK K
                  refine OW_opS (fun K hK r => ?_)
                  simp only [x_fieldAddr, fa77_1, add_mk, Nat.reduceAdd, Nat.zero_add, eX, ↓reduceIte, Nat.reduceEqDiff, Int.reduceToNat]
                  refine hK _ _ ?_; clear hK K
                  refine OW_op rfl (lt_none) (fun K hK r => ?_)
                  simp only [x_store, eX, ↓reduceIte, Nat.reduceEqDiff, Int.reduceToNat]
                  refine Lt_storeAt1 sz75 hbA bdA plA fzA ?_
                  try simp only [setL0, setL1, setL2, setL3, setL4, setL5, setL6, setL7, setL8, setL9]
                  try simp only [eX, ↓reduceIte, Nat.reduceEqDiff, Int.reduceToNat]
                  refine hK _ _ ?_; clear hK K
                  refine OW_nil ?_
                  try simp only [Ex.thnH, Ex.inBlockH, ↓reduceIte, Nat.reduceEqDiff]
                  refine hK10 _ _ ?_; try clear hK10 K10
                  refine CW_region ?_
                  refine OW_opS (fun K hK r => ?_)
                  simp (disch := (first | omega | decide)) only [x_bin, g_int, b_add, wrap_i64, wrap_u64, wrap_u32, wrap_u8, eX, ↓reduceIte, Nat.reduceEqDiff, Int.reduceToNat]
                  refine hK _ _ ?_; clear hK K
                  refine OW_mv rfl ?_
                  refine OW_nil ?_
                  try simp only [Ex.thnH, Ex.inBlockH, ↓reduceIte, Nat.reduceEqDiff]
                  refine ⟨l.length - (k + 1), by omega, k + 1, _, rs41, bs ++ [b39], _, by omega, rfl, (fun j hj => ?_), hN.next hm_ hb_39 nm39 (upd_same _ _ _) (ho41.upd (fun e => ?_)) ((upd_ne _ _ nmp).trans km41) ((upd_ne _ _ (Ne.symm n1739)).trans kb41) (fun x o hx hxp hxr => (upd_ne _ _ hxp).trans (hkp41 x o hx hxr)) hr41', rfl, rfl, rfl, rfl, trivial⟩
                  · by_cases e : j = k
                    · subst e; exact hok
                    · exact hoks j (by omega)
                  · rcases hr41' _ e with h1 | ⟨h1, _⟩
                    · exact hrs17 h1
                    · rw [kp] at h1; cases h1
        · first
          | (exfalso; exact cnA c21; done)
          | skip
            (try simp only [decide_eq_true_eq, decide_eq_false_iff_not, Bool.not_eq_true, Bool.not_eq_false, Bool.and_eq_true, Bool.or_eq_true, Bool.or_eq_false_iff, Bool.not_eq_true, Bool.not_eq_eq_eq_not, Bool.not_true, Bool.not_false] at c21)
            have hkn : k = l.length := by omega
            refine CW_exit ?_
            try simp only [Ex.thnH, Ex.inBlockH, ↓reduceIte, Nat.reduceEqDiff]
            refine hK6 _ _ ?_; try clear hK6 K6
            refine CW_seq (fun K15 hK15 => ?_)
            refine CW_region ?_
            refine OW_mv rfl ?_
            refine OW_as rfl ?_
            refine OW_as rfl ?_
            refine OW_nil ?_
            try simp only [Ex.thnH, Ex.inBlockH, ↓reduceIte, Nat.reduceEqDiff]
            refine hK15 _ _ ?_; try clear hK15 K15
            refine CW_ret ?_
            try simp only [Ex.thnH, Ex.inBlockH, ↓reduceIte, Nat.reduceEqDiff]
            subst hkn
            obtain ⟨F, hF1, hF2, hF3⟩ := hN.done hlen.1
            exact ⟨[_, _], ⟨rfl, rfl, trivial⟩, _, Le.refl _, .inr ⟨good_all hlen.1 hlen.2 hoks, hN.old, b17, rfl, F, hF1, hF2, hF3⟩⟩

end Go.Proofs.Ytkmjncmdhinlgaa.HL
end
section
namespace Go.Proofs.Ytkmjncmdhinlgaa.HL
open Go Go.Proofs
set_option linter.unusedSimpArgs false
set_option linter.unusedVariables false
attribute [local irreducible] Lt Lq CW OW TW CallH


def fullS (b : Int) : Sec := ⟨List.replicate 64 b, by simp⟩
def fillA (k : Nat) (b : Int) : Array Value := (List.replicate k (Value.int .u8 b) ++ List.replicate (64 - k) (Value.int .u8 0)).toArray
theorem fillA_size {k : Nat} (h : k ≤ 64) (b : Int) : (fillA k b).size = 64 := by simp [fillA]; omega
theorem fillA_all (b : Int) : fillA 64 b = (fullS b).c.toArray := by
  apply Array.ext'
  simp [fillA, fullS, Sec.c, u8s]
theorem fillA_set {k : Nat} (h : k < 64) (b : Int) : (fillA k b).setIfInBounds k (.int .u8 b) = fillA (k + 1) b := by
  apply Array.ext'
  apply List.ext_getElem?
  intro i
  simp only [fillA, Array.toList_setIfInBounds, List.getElem?_set, List.getElem?_append, List.getElem?_replicate, List.length_replicate, List.length_append, List.toList_toArray]
  by_cases h1 : k = i
  · subst h1; simp; omega
  · rw [if_neg h1]
    by_cases h2 : i < k
    · simp [h2, show i < k + 1 from by omega]
    · simp only [h2, if_false, show ¬ i < k + 1 from by omega]
      by_cases h3 : i < 64
      · rw [if_pos (by omega), if_pos (by omega)]
      · rw [if_neg (by omega), if_neg (by omega)]

set_option maxRecDepth 100000 in
set_option maxHeartbeats 1000000 in
theorem full_ok (H : Hp) (b : Int) : CallH Try.prog 12 #[.int .u8 b] H (fun v H' => v = (fullS b).v ∧ H' = H) := by
  refine CallH_enter (l := [_]) (rl := [.cell 2 38]) (n := 14) Try.func12 rfl rfl rfl rfl rfl ?_
  simp only [envOf, Nat.reduceAdd]
  refine CW_seq (fun K1 hK1 => ?_)
  refine CW_region ?_
  refine OW_opS (fun K hK r => ?_)
  simp only [x_alloc, zr38, orF_some, Value.cells, eX, ↓reduceIte, Nat.reduceEqDiff, Int.reduceToNat]
  intro b2 hb2
  have f2_H : H b2 = none := none_of_le lhA hb2
  try simp only [eX, ↓reduceIte, Nat.reduceEqDiff, Int.reduceToNat]
  refine hK _ _ ?_; clear hK K
  refine OW_nil ?_
  try simp only [Ex.thnH, Ex.inBlockH, ↓reduceIte, Nat.reduceEqDiff]
  refine hK1 _ _ ?_; try clear hK1 K1
  refine CW_seq (fun K2 hK2 => ?_)
  refine CW_region ?_
  refine OW_opS (fun K hK r => ?_)
  simp only [x_build, List.map_toArray, List.map_cons, List.map_nil, eX, ↓reduceIte, Nat.reduceEqDiff, Int.reduceToNat]
  rw [l_buildArr Try.underlying38 sz5 zr38]
  simp only [Value.cells]
  simp only [fill_nil, orF_some, List.setIfInBounds_toArray, List.set_cons_zero, List.set_cons_succ]
  try simp only [eX, ↓reduceIte, Nat.reduceEqDiff, Int.reduceToNat]
  refine hK _ _ ?_; clear hK K
  refine OW_opS (fun K hK r => ?_)
  simp only [x_alloc, zr38, orF_some, Value.cells, eX, ↓reduceIte, Nat.reduceEqDiff, Int.reduceToNat]
  intro b3 hb3
  try have n3_b2 : b2 ≠ b3 := ne_of_none hbA hb3
  have f3_H : H b3 = none := none_of_le lhA hb3
  try simp only [eX, ↓reduceIte, Nat.reduceEqDiff, Int.reduceToNat]
  refine hK _ _ ?_; clear hK K
  refine OW_op rfl (lt_none) (fun K hK r => ?_)
  simp only [x_store, eX, ↓reduceIte, Nat.reduceEqDiff, Int.reduceToNat]
  first | refine Lt_storeAll sz38 bdA hbA bdA plA (by decide) ?_ | refine Lt_storeAtA sz38 bdA hbA bdA plA (by decide) ?_
  try simp only [eX, ↓reduceIte, Nat.reduceEqDiff, Int.reduceToNat]
  refine hK _ _ ?_; clear hK K
  refine OW_nil ?_
  try simp only [Ex.thnH, Ex.inBlockH, ↓reduceIte, Nat.reduceEqDiff]
  refine hK2 _ _ ?_; try clear hK2 K2
  refine CW_seq (fun K3 hK3 => ?_)
  refine CW_seq (fun K4 hK4 => ?_)
  refine CW_region ?_
  refine OW_mv rfl ?_
  refine OW_nil ?_
  try simp only [Ex.thnH, Ex.inBlockH, ↓reduceIte, Nat.reduceEqDiff]
  refine hK4 _ _ ?_; try clear hK4 K4
  refine CW_block ?_
  refine CW_loop (fun m e H_ => ∃ k : Nat, k ≤ 64 ∧ m = 64 - k ∧ Env.has [(0, .int .u8 b), (2, .pointer (some ⟨b2, 0, none⟩)), (3, .pointer (some ⟨b3, 0, none⟩)), (6, .int .i64 k)] e ∧ H_ = (H.upd b2 (.cells (Array.replicate 64 (.int .u8 0)) 38)).upd b3 (.cells (fillA k b) 38)) (64) ?_ ?_
  · skip
    refine ⟨0, by omega, by omega, ⟨rfl, rfl, rfl, rfl, trivial⟩, rfl⟩
  intro m_ e_ H_ hI_
  obtain ⟨k, hk, rfl, he, rfl⟩ := hI_
  have hsz := fillA_size hk b
  refine CW_env he.sub ?_; clear he e_
  refine CW_seq (fun K5 hK5 => ?_)
  refine CW_region ?_
  refine OW_opS (fun K hK r => ?_)
  simp (disch := (first | omega | decide)) only [x_bin, g_int, b_lss, dec_lt_t, dec_lt_f, dec_le_t, dec_le_f, dec_eq_t, dec_eq_f, Bool.not_true, Bool.not_false, eX, ↓reduceIte, Nat.reduceEqDiff, Int.reduceToNat]
  refine hK _ _ ?_; clear hK K
  refine OW_nil ?_
  try simp only [Ex.thnH, Ex.inBlockH, ↓reduceIte, Nat.reduceEqDiff]
  refine hK5 _ _ ?_; try clear hK5 K5
  refine CW_seq (fun K6 hK6 => ?_)
  refine CW_cond (fun r => rfl) (fun c7 => ?_) (fun c7 => ?_)
  · first
    | (exfalso; exact cnA c7; done)
    | skip
      (try simp only [decide_eq_true_eq, decide_eq_false_iff_not, Bool.not_eq_true, Bool.not_eq_false, Bool.and_eq_true, Bool.or_eq_true, Bool.or_eq_false_iff, Bool.not_eq_true, Bool.not_eq_eq_eq_not, Bool.not_true, Bool.not_false] at c7)
      refine CW_skip ?_
      try simp only [Ex.thnH, Ex.inBlockH, ↓reduceIte, Nat.reduceEqDiff]
      refine hK6 _ _ ?_; try clear hK6 K6
      refine CW_seq (fun K7 hK7 => ?_)
      refine CW_block ?_
      refine CW_seq (fun K8 hK8 => ?_)
      refine CW_region ?_
      refine OW_mv rfl ?_
      refine OW_as rfl ?_
      refine OW_nil ?_
      try simp only [Ex.thnH, Ex.inBlockH, ↓reduceIte, Nat.reduceEqDiff]
      refine hK8 _ _ ?_; try clear hK8 K8
      refine CW_region ?_
      refine OW_mv rfl ?_
      refine OW_mv rfl ?_
      refine OW_opS (fun K hK r => ?_)
      simp only [x_indexAddr, eX, ↓reduceIte, Nat.reduceEqDiff, Int.reduceToNat]
      refine Lt_indexA Try.underlying38 sz5 ixA ixA ?_
      try simp only [add_mk, Nat.mul_one, Nat.zero_add, Int.reduceToNat]
      try simp only [eX, ↓reduceIte, Nat.reduceEqDiff, Int.reduceToNat]
      refine hK _ _ ?_; clear hK K
      refine OW_op rfl (lt_none) (fun K hK r => ?_)
      simp only [x_store, eX, ↓reduceIte, Nat.reduceEqDiff, Int.reduceToNat]
      refine Lt_storeAt1 sz5 hbA bdA plA fzA ?_
      try simp only [setL0, setL1, setL2, setL3, setL4, setL5, setL6, setL7, setL8, setL9]
      try simp only [eX, ↓reduceIte, Nat.reduceEqDiff, Int.reduceToNat]
      refine hK _ _ ?_; clear hK K
      refine OW_nil ?_
      try simp only [Ex.thnH, Ex.inBlockH, ↓reduceIte, Nat.reduceEqDiff]
      refine hK7 _ _ ?_; try clear hK7 K7
      refine CW_region ?_
      refine OW_opS (fun K hK r => ?_)
      simp (disch := (first | omega | decide)) only [x_bin, g_int, b_add, wrap_i64, wrap_u64, wrap_u32, wrap_u8, eX, ↓reduceIte, Nat.reduceEqDiff, Int.reduceToNat]
      refine hK _ _ ?_; clear hK K
      refine OW_mv rfl ?_
      refine OW_nil ?_
      try simp only [Ex.thnH, Ex.inBlockH, ↓reduceIte, Nat.reduceEqDiff]
      refine ⟨64 - (k + 1), by omega, k + 1, by omega, rfl, ⟨rfl, rfl, rfl, rfl, trivial⟩, ?_⟩
      simp only [Nat.zero_add, Nat.mul_one, Int.toNat_natCast, ← fillA_set (show k < 64 by omega) b]
  · first
    | (exfalso; exact cnA c7; done)
    | skip
      (try simp only [decide_eq_true_eq, decide_eq_false_iff_not, Bool.not_eq_true, Bool.not_eq_false, Bool.and_eq_true, Bool.or_eq_true, Bool.or_eq_false_iff, Bool.not_eq_true, Bool.not_eq_eq_eq_not, Bool.not_true, Bool.not_false] at c7)
      have hkn : k = 64 := by omega
      subst hkn
      refine CW_exit ?_
      try simp only [Ex.thnH, Ex.inBlockH, ↓reduceIte, Nat.reduceEqDiff]
      refine hK3 _ _ ?_; try clear hK3 K3
      refine CW_seq (fun K9 hK9 => ?_)
      refine CW_region ?_
      refine OW_opS (fun K hK r => ?_)
      simp only [x_load, eX, ↓reduceIte, Nat.reduceEqDiff, Int.reduceToNat]
      first | refine Lt_loadAll Try.underlying38 rfl sz38 hbA bdA ?_ | refine Lt_loadAtA Try.underlying38 rfl sz38 hbA bdA ?_
      try simp only [eX, ↓reduceIte, Nat.reduceEqDiff, Int.reduceToNat]
      refine hK _ _ ?_; clear hK K
      refine OW_op rfl (lt_none) (fun K hK r => ?_)
      simp only [x_store, eX, ↓reduceIte, Nat.reduceEqDiff, Int.reduceToNat]
      refine Lt_storeAll sz38 (by first | exact hsz | (exact fillA_size (by omega) b) | (simp [hsz]; done)) hbA (by first | (simp; done) | exact hsz) (by first | exact PlainL.ints _ _ | (rw [fillA_all]; exact PlainL.ints _ _)) (by decide) ?_
      rw [fillA_all]
      refine hK _ _ ?_; clear hK K
      refine OW_nil ?_
      try simp only [Ex.thnH, Ex.inBlockH, ↓reduceIte, Nat.reduceEqDiff]
      refine hK9 _ _ ?_; try clear hK9 K9
      refine CW_ret ?_
      try simp only [Ex.thnH, Ex.inBlockH, ↓reduceIte, Nat.reduceEqDiff]
      refine ⟨[_], ⟨⟨_, rfl, Lq_loadAll Try.underlying38 rfl sz38 hbA (by simp [Sec.h])⟩, trivial⟩, H, lhA, rfl, rfl⟩

end Go.Proofs.Ytkmjncmdhinlgaa.HL
end
section
namespace Go.Proofs.Ytkmjncmdhinlgaa.HL
open Go Go.Proofs
set_option linter.unusedSimpArgs false
set_option linter.unusedVariables false
attribute [local irreducible] Lt Lq CW OW TW CallH

set_option maxRecDepth 100000 in
set_option maxHeartbeats 1000000 in
theorem flush1_ok (H : Hp) (n : Int) : CallH Try.prog 34 #[.int .i64 n] H (fun v H' => v = .tuple #[.int .i64 0, .bool true] ∧ H' = H) := by
  refine CallH_enter (l := [_]) (rl := [.tmp 2, .tmp 3]) (n := 4) Try.func34 rfl rfl rfl rfl rfl ?_
  simp only [envOf, Nat.reduceAdd]
  refine CW_seq (fun K1 hK1 => ?_)
  refine CW_region ?_
  refine OW_as rfl ?_
  refine OW_as rfl ?_
  refine OW_nil ?_
  try simp only [Ex.thnH, Ex.inBlockH, ↓reduceIte, Nat.reduceEqDiff]
  refine hK1 _ _ ?_; try clear hK1 K1
  refine CW_seq (fun K2 hK2 => ?_)
  refine CW_region ?_
  refine OW_as rfl ?_
  refine OW_as rfl ?_
  refine OW_nil ?_
  try simp only [Ex.thnH, Ex.inBlockH, ↓reduceIte, Nat.reduceEqDiff]
  refine hK2 _ _ ?_; try clear hK2 K2
  refine CW_ret ?_
  try simp only [Ex.thnH, Ex.inBlockH, ↓reduceIte, Nat.reduceEqDiff]
  exact ⟨[_, _], ⟨rfl, rfl, trivial⟩, _, Le.refl _, rfl, rfl⟩

set_option maxRecDepth 100000 in
set_option maxHeartbeats 1000000 in
theorem flush_bad (H : Hp) (p : Nat) (s : St) (rd cap : Nat) (bs : List Nat) (Fs : Nat → Hp) (h : SX H p s rd cap bs Fs) (hl : s.dv.length ≤ 1000) (dev : Int) (hno : ¬ (0 ≤ dev ∧ dev < s.dv.length)) : CallH Try.prog 13 #[(.pointer (some ⟨p, 0, none⟩)), .int .i64 dev] H (fun v H' => v = errV (s.fl dev).2 ∧ SetX H' p (s.fl dev).1) := by
  refine CallH_enter (l := [_, _]) (rl := [.tmp 4]) (n := 27) Try.func13 rfl rfl rfl rfl rfl ?_
  simp only [envOf, Nat.reduceAdd]
  refine CW_seq (fun K1 hK1 => ?_)
  refine CW_region ?_
  refine OW_as rfl ?_
  refine OW_nil ?_
  try simp only [Ex.thnH, Ex.inBlockH, ↓reduceIte, Nat.reduceEqDiff]
  refine hK1 _ _ ?_; try clear hK1 K1
  refine CW_seq (fun K2 hK2 => ?_)
  refine CW_region ?_
  refine OW_mv rfl ?_
  refine OW_mv rfl ?_
  refine OW_opS (fun K hK r => ?_)
  simp only [x_callF _ bd30, List.map_toArray, List.map_cons, List.map_nil, eX, ↓reduceIte, Nat.reduceEqDiff, Int.reduceToNat]
  refine (device_ok _ p s rd cap bs Fs h dev hl).mono ?_
  rintro v H' ⟨rfl, rfl⟩
  rw [show devV s bs dev = .pointer none from if_neg hno]
  try simp only [eX, ↓reduceIte, Nat.reduceEqDiff, Int.reduceToNat]
  refine hK _ _ ?_; clear hK K
  refine OW_as rfl ?_
  refine OW_nil ?_
  try simp only [Ex.thnH, Ex.inBlockH, ↓reduceIte, Nat.reduceEqDiff]
  refine hK2 _ _ ?_; try clear hK2 K2
  refine CW_seq (fun K3 hK3 => ?_)
  refine CW_block ?_
  refine CW_seq (fun K4 hK4 => ?_)
  refine CW_region ?_
  refine OW_mv rfl ?_
  refine OW_opS (fun K hK r => ?_)
  simp only [x_bin, g_int, g_bool, g_string, g_pointer, g_slice, g_map, g_func, g_nilFunc, g_iface, g_nil_iface, g_nil_r, g_nil_l, eX, ↓reduceIte, Nat.reduceEqDiff, Int.reduceToNat]
  rw [e_eql _ _ _ _ (by simp)]
  rw [q_equal]
  first | rw [q_ptr_nil _ _ _ Try.underlying26] | rw [q_nil_ptr _ _ _ Try.underlying26]
  try simp only [eX, ↓reduceIte, Nat.reduceEqDiff, Int.reduceToNat]
  refine hK _ _ ?_; clear hK K
  refine OW_as rfl ?_
  refine OW_nil ?_
  try simp only [Ex.thnH, Ex.inBlockH, ↓reduceIte, Nat.reduceEqDiff]
  refine hK4 _ _ ?_; try clear hK4 K4
  refine CW_cond (fun r => rfl) (fun c10 => ?_) (fun c10 => ?_)
  · first
    | (exfalso; exact cnA c10; done)
    | skip
      (try simp only [decide_eq_true_eq, decide_eq_false_iff_not, Bool.not_eq_true, Bool.not_eq_false, Bool.and_eq_true, Bool.or_eq_true, Bool.or_eq_false_iff, Bool.not_eq_true, Bool.not_eq_eq_eq_not, Bool.not_true, Bool.not_false] at c10)
      refine CW_seq (fun K5 hK5 => ?_)
      refine CW_region ?_
      refine OW_opS (fun K hK r => ?_)
      simp only [x_makeInterface, i_makeInterface, Try.underlying71, orF_some, eX, ↓reduceIte, Nat.reduceEqDiff, Int.reduceToNat]
      refine hK _ _ ?_; clear hK K
      refine OW_as rfl ?_
      refine OW_nil ?_
      try simp only [Ex.thnH, Ex.inBlockH, ↓reduceIte, Nat.reduceEqDiff]
      refine hK5 _ _ ?_; try clear hK5 K5
      refine CW_ret ?_
      try simp only [Ex.thnH, Ex.inBlockH, ↓reduceIte, Nat.reduceEqDiff]
      skip
  · first
    | (exfalso; exact cnA c10; done)
    | skip
      (try simp only [decide_eq_true_eq, decide_eq_false_iff_not, Bool.not_eq_true, Bool.not_eq_false, Bool.and_eq_true, Bool.or_eq_true, Bool.or_eq_false_iff, Bool.not_eq_true, Bool.not_eq_eq_eq_not, Bool.not_true, Bool.not_false] at c10)
      refine CW_seq (fun K6 hK6 => ?_)
      refine CW_region ?_
      refine OW_mv rfl ?_
      refine OW_opS (fun K hK r => ?_)
      simp only [x_bin, g_int, g_bool, g_string, g_pointer, g_slice, g_map, g_func, g_nilFunc, g_iface, g_nil_iface, g_nil_r, g_nil_l, eX, ↓reduceIte, Nat.reduceEqDiff, Int.reduceToNat]
      rw [e_eql _ _ _ _ (by simp)]
      rw [q_equal]
      first | rw [q_ptr_nil _ _ _ Try.underlying78] | rw [q_nil_ptr _ _ _ Try.underlying78]
      try simp only [eX, ↓reduceIte, Nat.reduceEqDiff, Int.reduceToNat]
      refine hK _ _ ?_; clear hK K
      refine OW_as rfl ?_
      refine OW_nil ?_
      try simp only [Ex.thnH, Ex.inBlockH, ↓reduceIte, Nat.reduceEqDiff]
      refine hK6 _ _ ?_; try clear hK6 K6
      refine CW_cond (fun r => rfl) (fun c14 => ?_) (fun c14 => ?_)
      · first
        | (exfalso; exact cnA c14; done)
        | skip
          (try simp only [decide_eq_true_eq, decide_eq_false_iff_not, Bool.not_eq_true, Bool.not_eq_false, Bool.and_eq_true, Bool.or_eq_true, Bool.or_eq_false_iff, Bool.not_eq_true, Bool.not_eq_eq_eq_not, Bool.not_true, Bool.not_false] at c14)
          refine CW_seq (fun K7 hK7 => ?_)
          refine CW_region ?_
          refine OW_opS (fun K hK r => ?_)
          simp only [x_makeInterface, i_makeInterface, Try.underlying71, orF_some, eX, ↓reduceIte, Nat.reduceEqDiff, Int.reduceToNat]
          refine hK _ _ ?_; clear hK K
          refine OW_as rfl ?_
          refine OW_nil ?_
          try simp only [Ex.thnH, Ex.inBlockH, ↓reduceIte, Nat.reduceEqDiff]
          refine hK7 _ _ ?_; try clear hK7 K7
          refine CW_ret ?_
          try simp only [Ex.thnH, Ex.inBlockH, ↓reduceIte, Nat.reduceEqDiff]
          refine ⟨[_], ⟨rfl, trivial⟩, _, Le.refl _, ?_, ?_⟩
          · show _ = errV _
            unfold St.fl; rw [if_neg hno]; rfl
          · unfold St.fl; rw [if_neg hno]; exact ⟨rd, cap, bs, Fs, h⟩
      · first
        | (exfalso; exact cnA c14; done)
        | skip
          (try simp only [decide_eq_true_eq, decide_eq_false_iff_not, Bool.not_eq_true, Bool.not_eq_false, Bool.and_eq_true, Bool.or_eq_true, Bool.or_eq_false_iff, Bool.not_eq_true, Bool.not_eq_eq_eq_not, Bool.not_true, Bool.not_false] at c14)
          refine CW_skip ?_
          try simp only [Ex.thnH, Ex.inBlockH, ↓reduceIte, Nat.reduceEqDiff]
          refine hK3 _ _ ?_; try clear hK3 K3
          refine CW_seq (fun K8 hK8 => ?_)
          refine CW_seq (fun K9 hK9 => ?_)
          refine CW_region ?_
          refine OW_mv rfl ?_
          refine OW_opS (fun K hK r => ?_)
          rw [x_nilCheck _ _ rfl]
          simp only [eX, ↓reduceIte, Nat.reduceEqDiff, Int.reduceToNat]
          refine hK _ _ ?_; clear hK K
          refine OW_opS (fun K hK r => ?_)
          simp only [x_fieldAddr, fa77_0, add_mk, Nat.reduceAdd, Nat.zero_add, eX, ↓reduceIte, Nat.reduceEqDiff, Int.reduceToNat]
          refine hK _ _ ?_; clear hK K
          refine OW_opS (fun K hK r => ?_)
          simp only [x_callF _ bd32, List.map_toArray, List.map_cons, List.map_nil, eX, ↓reduceIte, Nat.reduceEqDiff, Int.reduceToNat]
          fail "left out: CALL (*sluiceway/dev.power).step slot 21"

set_option maxRecDepth 100000 in
set_option maxHeartbeats 1000000 in
theorem flush_in (H : Hp) (p : Nat) (s : St) (rd cap : Nat) (bs : List Nat) (Fs : Nat → Hp) (h : SX H p s rd cap bs Fs) (hl : s.dv.length ≤ 1000) (hw : ∀ i, (s.dv.getD i default).wait.length ≤ 1000000) (dev : Int) (hin : 0 ≤ dev ∧ dev < s.dv.length) : CallH Try.prog 13 #[(.pointer (some ⟨p, 0, none⟩)), .int .i64 dev] H (fun v H' => v = errV (s.fl dev).2 ∧ SetX H' p (s.fl dev).1) := by
  refine CallH_enter (l := [_, _]) (rl := [.tmp 4]) (n := 27) Try.func13 rfl rfl rfl rfl rfl ?_
  simp only [envOf, Nat.reduceAdd]
  have hk : dev.toNat < s.dv.length := by omega
  have hfp := h.fp dev.toNat hk
  refine CW_seq (fun K1 hK1 => ?_)
  refine CW_region ?_
  refine OW_as rfl ?_
  refine OW_nil ?_
  try simp only [Ex.thnH, Ex.inBlockH, ↓reduceIte, Nat.reduceEqDiff]
  refine hK1 _ _ ?_; try clear hK1 K1
  refine CW_seq (fun K2 hK2 => ?_)
  refine CW_region ?_
  refine OW_mv rfl ?_
  refine OW_mv rfl ?_
  refine OW_opS (fun K hK r => ?_)
  simp only [x_callF _ bd30, List.map_toArray, List.map_cons, List.map_nil, eX, ↓reduceIte, Nat.reduceEqDiff, Int.reduceToNat]
  refine (device_ok _ p s rd cap bs Fs h dev hl).mono ?_
  rintro v H' ⟨rfl, rfl⟩
  rw [show devV s bs dev = ptrV (bs.getD dev.toNat 0) from if_pos hin]
  simp only [ptrV]
  try simp only [eX, ↓reduceIte, Nat.reduceEqDiff, Int.reduceToNat]
  refine hK _ _ ?_; clear hK K
  refine OW_as rfl ?_
  refine OW_nil ?_
  try simp only [Ex.thnH, Ex.inBlockH, ↓reduceIte, Nat.reduceEqDiff]
  refine hK2 _ _ ?_; try clear hK2 K2
  refine CW_seq (fun K3 hK3 => ?_)
  refine CW_block ?_
  refine CW_seq (fun K4 hK4 => ?_)
  refine CW_region ?_
  refine OW_mv rfl ?_
  refine OW_opS (fun K hK r => ?_)
  simp only [x_bin, g_int, g_bool, g_string, g_pointer, g_slice, g_map, g_func, g_nilFunc, g_iface, g_nil_iface, g_nil_r, g_nil_l, eX, ↓reduceIte, Nat.reduceEqDiff, Int.reduceToNat]
  rw [e_eql _ _ _ _ (by simp)]
  rw [q_equal]
  first | rw [q_ptr_nil _ _ _ Try.underlying26] | rw [q_nil_ptr _ _ _ Try.underlying26]
  try simp only [eX, ↓reduceIte, Nat.reduceEqDiff, Int.reduceToNat]
  refine hK _ _ ?_; clear hK K
  refine OW_as rfl ?_
  refine OW_nil ?_
  try simp only [Ex.thnH, Ex.inBlockH, ↓reduceIte, Nat.reduceEqDiff]
  refine hK4 _ _ ?_; try clear hK4 K4
  refine CW_cond (fun r => rfl) (fun c10 => ?_) (fun c10 => ?_)
  · first
    | (exfalso; exact cnA c10; done)
    | skip
      (try simp only [decide_eq_true_eq, decide_eq_false_iff_not, Bool.not_eq_true, Bool.not_eq_false, Bool.and_eq_true, Bool.or_eq_true, Bool.or_eq_false_iff, Bool.not_eq_true, Bool.not_eq_eq_eq_not, Bool.not_true, Bool.not_false] at c10)
      refine CW_seq (fun K5 hK5 => ?_)
      refine CW_region ?_
      refine OW_opS (fun K hK r => ?_)
      simp only [x_makeInterface, i_makeInterface, Try.underlying71, orF_some, eX, ↓reduceIte, Nat.reduceEqDiff, Int.reduceToNat]
      refine hK _ _ ?_; clear hK K
      refine OW_as rfl ?_
      refine OW_nil ?_
      try simp only [Ex.thnH, Ex.inBlockH, ↓reduceIte, Nat.reduceEqDiff]
      refine hK5 _ _ ?_; try clear hK5 K5
      refine CW_ret ?_
      try simp only [Ex.thnH, Ex.inBlockH, ↓reduceIte, Nat.reduceEqDiff]
      skip
  · first
    | (exfalso; exact cnA c10; done)
    | skip
      (try simp only [decide_eq_true_eq, decide_eq_false_iff_not, Bool.not_eq_true, Bool.not_eq_false, Bool.and_eq_true, Bool.or_eq_true, Bool.or_eq_false_iff, Bool.not_eq_true, Bool.not_eq_eq_eq_not, Bool.not_true, Bool.not_false] at c10)
      refine CW_seq (fun K6 hK6 => ?_)
      refine CW_region ?_
      refine OW_mv rfl ?_
      refine OW_opS (fun K hK r => ?_)
      simp only [x_bin, g_int, g_bool, g_string, g_pointer, g_slice, g_map, g_func, g_nilFunc, g_iface, g_nil_iface, g_nil_r, g_nil_l, eX, ↓reduceIte, Nat.reduceEqDiff, Int.reduceToNat]
      rw [e_eql _ _ _ _ (by simp)]
      rw [q_equal]
      first | rw [q_ptr_nil _ _ _ Try.underlying78] | rw [q_nil_ptr _ _ _ Try.underlying78]
      try simp only [eX, ↓reduceIte, Nat.reduceEqDiff, Int.reduceToNat]
      refine hK _ _ ?_; clear hK K
      refine OW_as rfl ?_
      refine OW_nil ?_
      try simp only [Ex.thnH, Ex.inBlockH, ↓reduceIte, Nat.reduceEqDiff]
      refine hK6 _ _ ?_; try clear hK6 K6
      refine CW_cond (fun r => rfl) (fun c14 => ?_) (fun c14 => ?_)
      · first
        | (exfalso; exact cnA c14; done)
        | skip
          (try simp only [decide_eq_true_eq, decide_eq_false_iff_not, Bool.not_eq_true, Bool.not_eq_false, Bool.and_eq_true, Bool.or_eq_true, Bool.or_eq_false_iff, Bool.not_eq_true, Bool.not_eq_eq_eq_not, Bool.not_true, Bool.not_false] at c14)
          refine CW_seq (fun K7 hK7 => ?_)
          refine CW_region ?_
          refine OW_opS (fun K hK r => ?_)
          simp only [x_makeInterface, i_makeInterface, Try.underlying71, orF_some, eX, ↓reduceIte, Nat.reduceEqDiff, Int.reduceToNat]
          refine hK _ _ ?_; clear hK K
          refine OW_as rfl ?_
          refine OW_nil ?_
          try simp only [Ex.thnH, Ex.inBlockH, ↓reduceIte, Nat.reduceEqDiff]
          refine hK7 _ _ ?_; try clear hK7 K7
          refine CW_ret ?_
          try simp only [Ex.thnH, Ex.inBlockH, ↓reduceIte, Nat.reduceEqDiff]
          skip
      · first
        | (exfalso; exact cnA c14; done)
        | skip
          (try simp only [decide_eq_true_eq, decide_eq_false_iff_not, Bool.not_eq_true, Bool.not_eq_false, Bool.and_eq_true, Bool.or_eq_true, Bool.or_eq_false_iff, Bool.not_eq_true, Bool.not_eq_eq_eq_not, Bool.not_true, Bool.not_false] at c14)
          refine CW_skip ?_
          try simp only [Ex.thnH, Ex.inBlockH, ↓reduceIte, Nat.reduceEqDiff]
          refine hK3 _ _ ?_; try clear hK3 K3
          refine CW_seq (fun K8 hK8 => ?_)
          refine CW_seq (fun K9 hK9 => ?_)
          refine CW_region ?_
          refine OW_mv rfl ?_
          refine OW_opS (fun K hK r => ?_)
          rw [x_nilCheck _ _ rfl]
          simp only [eX, ↓reduceIte, Nat.reduceEqDiff, Int.reduceToNat]
          refine hK _ _ ?_; clear hK K
          refine OW_opS (fun K hK r => ?_)
          simp only [x_fieldAddr, fa77_0, add_mk, Nat.reduceAdd, Nat.zero_add, eX, ↓reduceIte, Nat.reduceEqDiff, Int.reduceToNat]
          refine hK _ _ ?_; clear hK K
          refine OW_opS (fun K hK r => ?_)
          simp only [x_callF _ bd32, List.map_toArray, List.map_cons, List.map_nil, eX, ↓reduceIte, Nat.reduceEqDiff, Int.reduceToNat]
          refine (step_ok _ p s _ h.hd).mono ?_
          rintro v H' ⟨rfl, rfl⟩
          try simp only [eX, ↓reduceIte, Nat.reduceEqDiff, Int.reduceToNat]
          refine hK _ _ ?_; clear hK K
          refine OW_as rfl ?_
          refine OW_nil ?_
          try simp only [Ex.thnH, Ex.inBlockH, ↓reduceIte, Nat.reduceEqDiff]
          refine hK9 _ _ ?_; try clear hK9 K9
          refine CW_seq (fun K10 hK10 => ?_)
          refine CW_region ?_
          refine OW_mv rfl ?_
          refine OW_opS (fun K hK r => ?_)
          simp only [x_bin, g_int, g_bool, g_string, g_pointer, g_slice, g_map, g_func, g_nilFunc, g_err, g_iface, g_nil_iface, g_nil_r, g_nil_l, eX, ↓reduceIte, Nat.reduceEqDiff, Int.reduceToNat]
          first | rw [b_err_neq _ _ Try.underlying28] | (rw [e_neq _ _ _ _ (by simp), q_equal]; first | rw [q_iface_nil _ _ _ Try.underlying28] | rw [q_nil_iface _ _ _ Try.underlying28] | rw [q_nil_nil _ _ _ Try.underlying28])
          try simp only [eX, ↓reduceIte, Nat.reduceEqDiff, Int.reduceToNat]
          refine hK _ _ ?_; clear hK K
          refine OW_nil ?_
          try simp only [Ex.thnH, Ex.inBlockH, ↓reduceIte, Nat.reduceEqDiff]
          refine hK10 _ _ ?_; try clear hK10 K10
          refine CW_cond (fun r => rfl) (fun c23 => ?_) (fun c23 => ?_)
          · first
            | (exfalso; exact cnA c23; done)
            | skip
              (try simp only [decide_eq_true_eq, decide_eq_false_iff_not, Bool.not_eq_true, Bool.not_eq_false, Bool.and_eq_true, Bool.or_eq_true, Bool.or_eq_false_iff, Bool.not_eq_true, Bool.not_eq_eq_eq_not, Bool.not_true, Bool.not_false] at c23)
              have hst : s.step.2 = false := by cases hc : s.step.2 with
                | false => rfl
                | true => rw [hc] at c23; simp at c23
              refine CW_seq (fun K11 hK11 => ?_)
              refine CW_region ?_
              refine OW_mv rfl ?_
              refine OW_as rfl ?_
              refine OW_nil ?_
              try simp only [Ex.thnH, Ex.inBlockH, ↓reduceIte, Nat.reduceEqDiff]
              refine hK11 _ _ ?_; try clear hK11 K11
              refine CW_ret ?_
              try simp only [Ex.thnH, Ex.inBlockH, ↓reduceIte, Nat.reduceEqDiff]
              have hfl : s.fl dev = (s.step.1, some 3) := by
                unfold St.fl; rw [if_pos hin]
                generalize hq : s.step = q at *
                obtain ⟨t, bb⟩ := q
                simp only at hst; subst hst; rfl
              refine ⟨[_], ⟨rfl, trivial⟩, _, Le.refl _, ?_, ?_⟩
              · rw [hfl, hst]; rfl
              · rw [hfl]; exact ⟨rd, cap, bs, Fs, h.head (step_dv s) (upd_same _ _ _) (fun z o hz hzp => (upd_ne _ _ hzp).trans hz)⟩
          · first
            | (exfalso; exact cnA c23; done)
            | skip
              (try simp only [decide_eq_true_eq, decide_eq_false_iff_not, Bool.not_eq_true, Bool.not_eq_false, Bool.and_eq_true, Bool.or_eq_true, Bool.or_eq_false_iff, Bool.not_eq_true, Bool.not_eq_eq_eq_not, Bool.not_true, Bool.not_false] at c23)
              have hst : s.step.2 = true := by cases hc : s.step.2 with
                | true => rfl
                | false => rw [hc] at c23; simp at c23
              refine CW_skip ?_
              try simp only [Ex.thnH, Ex.inBlockH, ↓reduceIte, Nat.reduceEqDiff]
              refine hK8 _ _ ?_; try clear hK8 K8
              refine CW_seq (fun K12 hK12 => ?_)
              refine CW_region ?_
              refine OW_mv rfl ?_
              refine OW_opS (fun K hK r => ?_)
              simp only [x_callF _ bd33, List.map_toArray, List.map_cons, List.map_nil, eX, ↓reduceIte, Nat.reduceEqDiff, Int.reduceToNat]
              refine (settle_ok _ _ _ (Fs dev.toNat) emptyHp (h.dev dev.toNat hk) (fun x o hx => (upd_ne _ _ (fun e => by subst e; rw [hfp.1] at hx; cases hx)).trans (h.le dev.toNat hk x o hx)) (le_empty _) (fun _ _ => rfl) (.func 34) #[] #[] (fun _ => some 0) (fun KK _ n hn => ValH_func bd34 (flush1_ok KK n)) (hw _)).mono ?_
              rintro v26 H26 ⟨F', hdF, hlF, hdom, hkp⟩
              try simp only [eX, ↓reduceIte, Nat.reduceEqDiff, Int.reduceToNat]
              refine hK _ _ ?_; clear hK K
              refine OW_nil ?_
              try simp only [Ex.thnH, Ex.inBlockH, ↓reduceIte, Nat.reduceEqDiff]
              refine hK12 _ _ ?_; try clear hK12 K12
              refine CW_seq (fun K13 hK13 => ?_)
              refine CW_region ?_
              refine OW_as rfl ?_
              refine OW_nil ?_
              try simp only [Ex.thnH, Ex.inBlockH, ↓reduceIte, Nat.reduceEqDiff]
              refine hK13 _ _ ?_; try clear hK13 K13
              refine CW_ret ?_
              try simp only [Ex.thnH, Ex.inBlockH, ↓reduceIte, Nat.reduceEqDiff]
              have hfl : s.fl dev = ({ s.step.1 with dv := s.dv.set dev.toNat ((s.dv.getD dev.toNat default).settle (fun _ => some 0)) }, none) := by
                unfold St.fl; rw [if_pos hin]
                have hdq := step_dv s
                generalize hq : s.step = q at *
                obtain ⟨t, bb⟩ := q
                simp only at hst hdq; subst hst; rw [← hdq]
              refine ⟨[_], ⟨rfl, trivial⟩, _, Le.refl _, ?_, ?_⟩
              · rw [hfl]; rfl
              · rw [hfl]
                exact h.put hk hdF rfl (hkp p _ (upd_same _ _ _) hfp.1) hlF (fun z o hz hn hzp => hkp z o ((upd_ne _ _ hzp).trans hz) hn) (fun z hz => .inl (hdom z hz))


theorem flush_ok (H : Hp) (p : Nat) (s : St) (rd cap : Nat) (bs : List Nat) (Fs : Nat → Hp) (h : SX H p s rd cap bs Fs) (hl : s.dv.length ≤ 1000) (hw : ∀ i, (s.dv.getD i default).wait.length ≤ 1000000) (dev : Int) : CallH Try.prog 13 #[(.pointer (some ⟨p, 0, none⟩)), .int .i64 dev] H (fun v H' => v = errV (s.fl dev).2 ∧ SetX H' p (s.fl dev).1) := by
  by_cases hin : 0 ≤ dev ∧ dev < s.dv.length
  · exact flush_in H p s rd cap bs Fs h hl hw dev hin
  · exact flush_bad H p s rd cap bs Fs h hl dev hin

end Go.Proofs.Ytkmjncmdhinlgaa.HL
end
section
namespace Go.Proofs.Ytkmjncmdhinlgaa.HL
open Go Go.Proofs
set_option linter.unusedSimpArgs false
set_option linter.unusedVariables false
attribute [local irreducible] Lt Lq CW OW TW CallH


/-- a set that stands in a heap, beside what else is known -/
structure Stn (H K F : Hp) (p : Nat) (s : St) : Prop where
  set : SetX F p s
  le : Le F K
  old : Le H K
  ap : ∀ b, H b ≠ none → F b = none
def Sm (n : Nat) (s : St) : Prop := s.dv.length ≤ 5 ∧ ∀ i, (s.dv.getD i default).wait.length ≤ n
theorem Sm.up {n m : Nat} {s : St} (h : Sm n s) (hm : n ≤ m) : Sm m s := ⟨h.1, fun i => Nat.le_trans (h.2 i) hm⟩
theorem getD_set {l : List Dv} {k : Nat} {d : Dv} (i : Nat) : (l.set k d).getD i default = if i = k ∧ k < l.length then d else l.getD i default := by
  simp only [List.getD_eq_getElem?_getD, List.getElem?_set]
  by_cases h : k = i
  · subst h
    by_cases h2 : k < l.length
    · simp [h2]
    · simp [h2, List.getElem?_eq_none (by omega : l.length ≤ k)]
  · rw [if_neg h, if_neg (by rintro ⟨rfl, _⟩; exact h rfl)]
theorem Sm.set {n : Nat} {s t : St} (h : Sm n s) {k : Nat} {d : Dv} (hd : d.wait.length ≤ n) (ht : t.dv = s.dv.set k d) : Sm n t := by
  refine ⟨by rw [ht, List.length_set]; exact h.1, fun i => ?_⟩
  rw [ht, getD_set]
  split
  · exact hd
  · exact h.2 i
theorem wr_cases (s : St) (dev i : Int) (x : Sec) : ((s.wr dev i x).1 = s ∧ (s.wr dev i x).2 = some 1 ∧ s.has dev i = false) ∨ ((s.wr dev i x).1 = s.step.1 ∧ (s.wr dev i x).2 = some 3 ∧ s.step.2 = false ∧ s.has dev i = true) ∨ ((s.wr dev i x).1 = { s.step.1 with dv := s.dv.set dev.toNat ((s.dv.getD dev.toNat default).put ⟨i, x⟩) } ∧ (s.wr dev i x).2 = none ∧ s.step.2 = true ∧ s.has dev i = true) := by
  unfold St.wr
  by_cases h : s.has dev i = true
  · rw [if_pos h]
    have hd := step_dv s
    generalize hq : s.step = q at *
    obtain ⟨t, b⟩ := q
    cases b with
    | true => exact .inr (.inr ⟨by simp only at hd; rw [← hd], rfl, rfl, h⟩)
    | false => exact .inr (.inl ⟨rfl, rfl, rfl, h⟩)
  · rw [if_neg h]; exact .inl ⟨rfl, rfl, by simpa using h⟩
theorem fl_cases (s : St) (dev : Int) : ((s.fl dev).1 = s ∧ (s.fl dev).2 = some 1 ∧ ¬ (0 ≤ dev ∧ dev < s.dv.length)) ∨ ((s.fl dev).1 = s.step.1 ∧ (s.fl dev).2 = some 3 ∧ s.step.2 = false ∧ (0 ≤ dev ∧ dev < s.dv.length)) ∨ ((s.fl dev).1 = { s.step.1 with dv := s.dv.set dev.toNat ((s.dv.getD dev.toNat default).settle (fun _ => some 0)) } ∧ (s.fl dev).2 = none ∧ s.step.2 = true ∧ (0 ≤ dev ∧ dev < s.dv.length)) := by
  unfold St.fl
  by_cases h : 0 ≤ dev ∧ dev < s.dv.length
  · rw [if_pos h]
    have hd := step_dv s
    generalize hq : s.step = q at *
    obtain ⟨t, b⟩ := q
    cases b with
    | true => exact .inr (.inr ⟨by simp only at hd; rw [← hd], rfl, rfl, h⟩)
    | false => exact .inr (.inl ⟨rfl, rfl, rfl, h⟩)
  · rw [if_neg h]; exact .inl ⟨rfl, rfl, h⟩
theorem Sm.of_dv {n : Nat} {s t : St} (h : Sm n s) (ht : t.dv = s.dv) : Sm n t := ⟨by rw [ht]; exact h.1, by rw [ht]; exact h.2⟩
theorem Sm.wr {n : Nat} {s : St} (h : Sm n s) (dev i : Int) (x : Sec) : Sm (n + 1) (s.wr dev i x).1 := by
  rcases wr_cases s dev i x with ⟨e, _⟩ | ⟨e, _⟩ | ⟨e, _⟩
  · rw [e]; exact h.up (by omega)
  · rw [e]; exact (h.of_dv (step_dv s)).up (by omega)
  · rw [e]; exact (h.up (show n ≤ n + 1 by omega)).set (by simp [Dv.put]; exact h.2 _) rfl
theorem Sm.fl {n : Nat} {s : St} (h : Sm n s) (dev : Int) : Sm n (s.fl dev).1 := by
  rcases fl_cases s dev with ⟨e, _⟩ | ⟨e, _⟩ | ⟨e, _⟩
  · rw [e]; exact h
  · rw [e]; exact h.of_dv (step_dv s)
  · rw [e]; exact h.set (by simp [Dv.settle]) rfl
theorem Sm.cr {n : Nat} {s : St} (h : Sm n s) (l : List Kp) : Sm n (s.cr l) := by
  refine ⟨by simp [St.cr]; exact h.1, fun i => ?_⟩
  simp only [St.cr, List.getD_eq_getElem?_getD, List.getElem?_mapIdx]
  cases s.dv[i]? with
  | none => simp [default]
  | some d => simp [Dv.settle]
theorem Sm.new {l : List Int} (h : l.length ≤ 5) : Sm 0 (newSt l) := by
  refine ⟨by simp [newSt]; exact h, fun i => ?_⟩
  simp only [newSt, List.getD_eq_getElem?_getD, List.getElem?_map]
  cases l[i]? with
  | none => simp [default]
  | some d => simp [newDv]
theorem Stn.use {H K F : Hp} {p : Nat} {s t : St} (hA : Stn H K F p s) {F' K' : Hp} (hX : SetX F' p t) (hl : Le F' K') (hf : ∀ b o, K b = some o → F b = none → K' b = some o ∧ F' b = none) : Stn H K' F' p t := by
  refine ⟨hX, hl, fun b o hb => (hf b o (hA.old b o hb) (hA.ap b (by rw [hb]; simp))).1, fun b hb => ?_⟩
  cases hc : H b with
  | none => exact absurd hc hb
  | some o => exact (hf b o (hA.old b o hc) (hA.ap b hb)).2
theorem Stn.put {H K F : Hp} {p : Nat} {s : St} (hA : Stn H K F p s) {b : Nat} (hb : F b = none) (o : Obj) : Stn (H.upd b o) (K.upd b o) F p s := by
  refine ⟨hA.set, le_upd_of hA.le hb, fun x u hx => ?_, fun x hx => ?_⟩
  · by_cases e : x = b
    · subst e; rw [upd_same] at hx ⊢; exact hx
    · rw [upd_ne _ _ e] at hx ⊢; exact hA.old x u hx
  · by_cases e : x = b
    · subst e; exact hb
    · rw [upd_ne _ _ e] at hx; exact hA.ap x hx
theorem Stn.fresh {H K F : Hp} {p : Nat} {s : St} (hA : Stn H K F p s) {b : Nat} (hb : K b = none) : F b = none := none_of_le hA.le hb
theorem Stn.less {H H' K F : Hp} {p : Nat} {s : St} (hA : Stn H K F p s) (hl : Le H' H) : Stn H' K F p s := ⟨hA.set, hA.le, Le.trans hl hA.old, fun b hb => hA.ap b (fun hn => hb (none_of_le hl hn))⟩
theorem Stn.more {H K F : Hp} {p : Nat} {s : St} (hA : Stn H K F p s) {K' : Hp} (hl : Le K K') : Stn H K' F p s := ⟨hA.set, Le.trans hA.le hl, Le.trans hA.old hl, hA.ap⟩
theorem writeL {H K F : Hp} {p : Nat} {s : St} (hA : Stn H K F p s) {n : Nat} (hs : Sm n s) (hn : n ≤ 1000000) (dev i : Int) (x : Sec) : CallH Try.prog 11 #[(.pointer (some ⟨p, 0, none⟩)), .int .i64 dev, .int .i64 i, x.v] K (fun v K' => v = errV (s.wr dev i x).2 ∧ ∃ F', Stn H K' F' p (s.wr dev i x).1) := by
  obtain ⟨r, cap, bs, Fs, h⟩ := hA.set
  refine (CallH.use (write_ok F p s r cap bs Fs h (Nat.le_trans hs.1 (by decide)) (fun i => Nat.le_trans (hs.2 i) hn) dev i x) hA.le).mono ?_
  rintro v K' ⟨F', ⟨rfl, hX⟩, hl, hf⟩
  exact ⟨rfl, F', hA.use hX hl hf⟩
theorem flushL {H K F : Hp} {p : Nat} {s : St} (hA : Stn H K F p s) {n : Nat} (hs : Sm n s) (hn : n ≤ 1000000) (dev : Int) : CallH Try.prog 13 #[(.pointer (some ⟨p, 0, none⟩)), .int .i64 dev] K (fun v K' => v = errV (s.fl dev).2 ∧ ∃ F', Stn H K' F' p (s.fl dev).1) := by
  obtain ⟨r, cap, bs, Fs, h⟩ := hA.set
  refine (CallH.use (flush_ok F p s r cap bs Fs h (Nat.le_trans hs.1 (by decide)) (fun i => Nat.le_trans (hs.2 i) hn) dev) hA.le).mono ?_
  rintro v K' ⟨F', ⟨rfl, hX⟩, hl, hf⟩
  exact ⟨rfl, F', hA.use hX hl hf⟩
theorem crashL {H K F : Hp} {p : Nat} {s : St} (hA : Stn H K F p s) {n : Nat} (hs : Sm n s) (hn : n ≤ 1000000) {G : Hp} (hG : Le G K) (hGF : ∀ x, G x ≠ none → F x = none) (hGH : ∀ x, G x ≠ none → H x = none) (a : Option Addr) (cap : Nat) (l : List Kp) (hv : Holds G 3 (.slice a l.length cap) l.length (kps l)) (hl : l.length ≤ 1000) : CallH Try.prog 14 #[(.pointer (some ⟨p, 0, none⟩)), .slice a l.length cap] K (fun _ K' => ∃ F', Stn H K' F' p (s.cr l)) := by
  obtain ⟨r, cap', bs, Fs, h⟩ := hA.set
  have hap : F.apart G := fun b hb => hGF b hb
  have hfg : ∀ x, F x ≠ none → G x = none := fun x hx => by
    cases hc : G x with
    | none => rfl
    | some o => exact absurd (hGF x (by rw [hc]; simp)) hx
  have hpF : F p ≠ none := by rw [h.hd]; simp
  refine (CallH.use (crash_ok (F.join G) p s r cap' bs Fs (h.mono (le_join F G)) (Nat.le_trans hs.1 (by decide)) (fun i => Nat.le_trans (hs.2 i) hn) G (le_join_r hap) (hfg p hpF) (fun i hi x hx => hfg x (fun hn => hx (none_of_le (h.le i hi) hn))) a cap l hv hl) (join_le hA.le hG)).mono ?_
  rintro v K' ⟨F', hX, hl', hf⟩
  have hf' : ∀ b o, H b = some o → K' b = some o ∧ F' b = none := fun b o hb => by
    refine hf b o (hA.old b o hb) ?_
    have h1 : F b = none := hA.ap b (by rw [hb]; simp)
    rw [join_r h1]
    cases hc : G b with
    | none => rfl
    | some u => have := hGH b (by rw [hc]; simp); rw [hb] at this; cases this
  refine ⟨F', hX, hl', fun b o hb => (hf' b o hb).1, fun b hb => ?_⟩
  cases hc : H b with
  | none => exact absurd hc hb
  | some o => exact (hf' b o hc).2
theorem readL {H K F : Hp} {p : Nat} {s : St} (hA : Stn H K F p s) {n : Nat} (hs : Sm n s) (hn : n ≤ 1000000) (dev i : Int) : CallH Try.prog 16 #[(.pointer (some ⟨p, 0, none⟩)), .int .i64 dev, .int .i64 i] K (fun v K' => v = .tuple #[(s.rd dev i).1.v, errV (s.rd dev i).2] ∧ K' = K) := by
  obtain ⟨r, cap, bs, Fs, h⟩ := hA.set
  exact read_ok K p s r cap bs Fs (h.mono hA.le) (Nat.le_trans hs.1 (by decide)) (fun i => Nat.le_trans (hs.2 i) hn) dev i
theorem sureL {H K F : Hp} {p : Nat} {s : St} (hA : Stn H K F p s) {n : Nat} (hs : Sm n s) (dev i : Int) : CallH Try.prog 17 #[(.pointer (some ⟨p, 0, none⟩)), .int .i64 dev, .int .i64 i] K (fun v K' => v = (s.su dev i).v ∧ K' = K) := by
  obtain ⟨r, cap, bs, Fs, h⟩ := hA.set
  exact sure_ok K p s r cap bs Fs (h.mono hA.le) (Nat.le_trans hs.1 (by decide)) dev i
theorem downL {H K F : Hp} {p : Nat} {s : St} (hA : Stn H K F p s) : CallH Try.prog 19 #[(.pointer (some ⟨p, 0, none⟩))] K (fun v K' => v = .bool s.gone ∧ K' = K) := by
  obtain ⟨r, cap, bs, Fs, h⟩ := hA.set
  exact down_ok K p s r cap bs Fs (h.mono hA.le)
theorem stepsL {H K F : Hp} {p : Nat} {s : St} (hA : Stn H K F p s) : CallH Try.prog 21 #[(.pointer (some ⟨p, 0, none⟩))] K (fun v K' => v = .int .i64 s.steps ∧ K' = K) := by
  obtain ⟨r, cap, bs, Fs, h⟩ := hA.set
  exact steps_ok K p s r cap bs Fs (h.mono hA.le)
theorem manyL {H K F : Hp} {p : Nat} {s : St} (hA : Stn H K F p s) : CallH Try.prog 24 #[(.pointer (some ⟨p, 0, none⟩))] K (fun v K' => v = .int .i64 s.dv.length ∧ K' = K) := by
  obtain ⟨r, cap, bs, Fs, h⟩ := hA.set
  exact many_ok K p s r cap bs Fs (h.mono hA.le)
def St.wa (s : St) (dev : Int) : Int := if 0 ≤ dev ∧ dev < s.dv.length then ((s.dv.getD dev.toNat default).wait.length : Int) else 0
def St.sz (s : St) (dev : Int) : Int := if 0 ≤ dev ∧ dev < s.dv.length then (s.dv.getD dev.toNat default).size else 0
theorem waitingL {H K F : Hp} {p : Nat} {s : St} (hA : Stn H K F p s) {n : Nat} (hs : Sm n s) (dev : Int) : CallH Try.prog 18 #[(.pointer (some ⟨p, 0, none⟩)), .int .i64 dev] K (fun v K' => v = .int .i64 (s.wa dev) ∧ K' = K) := by
  obtain ⟨r, cap, bs, Fs, h⟩ := hA.set
  unfold St.wa
  by_cases hin : 0 ≤ dev ∧ dev < s.dv.length
  · rw [if_pos hin]; exact waiting_in K p s r cap bs Fs (h.mono hA.le) (Nat.le_trans hs.1 (by decide)) dev hin
  · rw [if_neg hin]; exact waiting_out K p s r cap bs Fs (h.mono hA.le) (Nat.le_trans hs.1 (by decide)) dev hin
theorem newL (H : Hp) (a : Option Addr) (cap : Nat) (l : List Int) (hv : Holds H 1 (.slice a l.length cap) l.length (l.map (Value.int .i64))) (hg : goodN l = true) (hl : l.length ≤ 1000) : CallH Try.prog 10 #[.slice a l.length cap] H (fun v H' => ∃ p F, v = .tuple #[ptrV p, errV none] ∧ Stn H H' F p (newSt l)) := by
  refine (new_ok H a cap l hv hl).mono ?_
  rintro v H' (⟨h1, _, _⟩ | ⟨_, hle, p, rfl, F, hX, hF, hd⟩)
  · rw [hg] at h1; cases h1
  · refine ⟨p, F, rfl, hX, hF, hle, fun b hb => ?_⟩
    cases hc : F b with
    | none => rfl
    | some o => exact absurd (hd b (by rw [hc]; simp)) hb

end Go.Proofs.Ytkmjncmdhinlgaa.HL
end
section
namespace Go.Proofs.Ytkmjncmdhinlgaa.HL
open Go Go.Proofs
set_option linter.unusedSimpArgs false
set_option linter.unusedVariables false
attribute [local irreducible] Lt Lq CW OW TW CallH


def al0 : St := newSt [4, 2]
def al1 : St := (al0.wr 0 0 (fullS 1)).1
def al2 : St := (al1.fl 0).1
def al3 : St := (al2.wr 0 0 (fullS 2)).1
def al4 : St := al3.cr [⟨0, 0, 3⟩]
def alX : Sec := (al4.rd 0 0).1
theorem al0_s : Sm 0 al0 := Sm.new (by decide)
theorem al1_s : Sm 1 al1 := al0_s.wr 0 0 _
theorem al2_s : Sm 1 al2 := al1_s.fl 0
theorem al3_s : Sm 2 al3 := al2_s.wr 0 0 _
theorem al4_s : Sm 2 al4 := al3_s.cr _
theorem alX_0 : (alX.c.toArray)[0]? = some (.int .u8 2) := by kernel_rfl
theorem alX_2 : (alX.c.toArray)[2]? = some (.int .u8 2) := by kernel_rfl
theorem alX_3 : (alX.c.toArray)[3]? = some (.int .u8 1) := by kernel_rfl
theorem alX_63 : (alX.c.toArray)[63]? = some (.int .u8 1) := by kernel_rfl
theorem al_e1 : (al0.wr 0 0 (fullS 1)).2 = none := by kernel_rfl
theorem al_e2 : (al1.fl 0).2 = none := by kernel_rfl
theorem al_e3 : (al2.wr 0 0 (fullS 2)).2 = none := by kernel_rfl
theorem al_w : al3.wa 0 = 1 := by kernel_rfl
theorem al_e4 : (al4.rd 0 0).2 = none := by kernel_rfl
theorem al_st : al4.steps = 3 := by kernel_rfl
theorem al_n : al4.dv.length = 2 := by kernel_rfl
theorem G1_ne {b x : Nat} {o : Obj} (h : (emptyHp.upd b o) x ≠ none) : x = b := by
  by_cases e : x = b
  · exact e
  · rw [upd_ne _ _ e] at h; exact absurd rfl h
theorem kp1 {b : Nat} {k : Kp} : Holds (emptyHp.upd b (.cells #[.int .i64 k.dev, .int .i64 k.n, .int .i64 k.tear] 68)) 3 (.slice (some ⟨b, 0, none⟩) 1 1) 1 (kps [k]) :=
  ⟨rfl, .inr ⟨b, 0, 1, _, _, _, rfl, upd_same _ _ _, by simp, by simp⟩⟩

set_option maxRecDepth 100000 in
set_option maxHeartbeats 4000000 in
theorem alive_ok (H : Hp) : CallH Try.prog 8 #[] H (fun v H' => v = .bool true ∧ H' = H) := by
  refine CallH_enter (l := []) (rl := [.tmp 0]) (n := 76) Try.func8 rfl rfl rfl rfl rfl ?_
  simp only [envOf, Nat.reduceAdd]
  refine CW_seq (fun K1 hK1 => ?_)
  refine CW_region ?_
  refine OW_as rfl ?_
  refine OW_nil ?_
  try simp only [Ex.thnH, Ex.inBlockH, ↓reduceIte, Nat.reduceEqDiff]
  refine hK1 _ _ ?_; try clear hK1 K1
  refine CW_seq (fun K2 hK2 => ?_)
  refine CW_region ?_
  refine OW_opS (fun K hK r => ?_)
  simp only [x_buildSlice, List.map_toArray, List.map_cons, List.map_nil, eX, ↓reduceIte, Nat.reduceEqDiff, Int.reduceToNat]
  refine Lt_buildSlice (vs := [_, _]) Try.underlying56 sz3 zr3 rfl bsA (by first | decide | (simp; done)) ?_
  simp only [List.flatMap_cons, List.flatMap_nil, Value.cells, List.append_nil, List.cons_append, List.nil_append, List.length_cons, List.length_nil, Nat.zero_add, Nat.reduceAdd]
  intro b5 hb5
  have f5_H : H b5 = none := none_of_le lhA hb5
  try simp only [eX, ↓reduceIte, Nat.reduceEqDiff, Int.reduceToNat]
  refine hK _ _ ?_; clear hK K
  refine OW_opS (fun K hK r => ?_)
  simp only [x_callF _ bd10, List.map_toArray, List.map_cons, List.map_nil, eX, ↓reduceIte, Nat.reduceEqDiff, Int.reduceToNat]
  refine (newL _ _ _ [4, 2] ⟨rfl, .inr ⟨b5, 0, 2, _, _, _, rfl, hbA, by simp, by simp⟩⟩ rfl (by decide)).mono ?_
  rintro v6 H6 ⟨p, F6, rfl, hA6'⟩
  have hA6 : Stn H H6 F6 p al0 := hA6'.less lhA
  have hO6 := hA6.old
  clear hA6'
  try simp only [eX, ↓reduceIte, Nat.reduceEqDiff, Int.reduceToNat]
  refine hK _ _ ?_; clear hK K
  refine OW_mv rfl ?_
  refine OW_opS (fun K hK r => ?_)
  simp only [x_extract, i_extract, List.getElem?_toArray, List.getElem?_cons_zero, List.getElem?_cons_succ, orF_some, eX, ↓reduceIte, Nat.reduceEqDiff, Int.reduceToNat]
  refine hK _ _ ?_; clear hK K
  refine OW_opS (fun K hK r => ?_)
  simp only [x_extract, i_extract, List.getElem?_toArray, List.getElem?_cons_zero, List.getElem?_cons_succ, orF_some, eX, ↓reduceIte, Nat.reduceEqDiff, Int.reduceToNat]
  refine hK _ _ ?_; clear hK K
  refine OW_as rfl ?_
  refine OW_as rfl ?_
  refine OW_nil ?_
  try simp only [Ex.thnH, Ex.inBlockH, ↓reduceIte, Nat.reduceEqDiff]
  refine hK2 _ _ ?_; try clear hK2 K2
  refine CW_seq (fun K3 hK3 => ?_)
  refine CW_seq (fun K4 hK4 => ?_)
  refine CW_region ?_
  refine OW_mv rfl ?_
  refine OW_opS (fun K hK r => ?_)
  simp only [x_bin, g_int, g_bool, g_string, g_pointer, g_slice, g_map, g_func, g_nilFunc, g_err, g_iface, g_nil_iface, g_nil_r, g_nil_l, eX, ↓reduceIte, Nat.reduceEqDiff, Int.reduceToNat]
  first | rw [b_err_neq _ _ Try.underlying28] | (rw [e_neq _ _ _ _ (by simp), q_equal]; first | rw [q_iface_nil _ _ _ Try.underlying28] | rw [q_nil_iface _ _ _ Try.underlying28] | rw [q_nil_nil _ _ _ Try.underlying28])
  try simp only [eX, ↓reduceIte, Nat.reduceEqDiff, Int.reduceToNat]
  refine hK _ _ ?_; clear hK K
  refine OW_mv rfl ?_
  (first | refine OW_split (d := 11) rfl (fun g11 => ?_) (fun g11 => ?_) | skip)
  all_goals try (exfalso; exact cnA g11)
  all_goals (try simp only [decide_eq_true_eq, decide_eq_false_iff_not, Bool.not_eq_true, Bool.not_eq_false, Bool.and_eq_true, Bool.or_eq_true, Bool.or_eq_false_iff, Bool.not_eq_true, Bool.not_eq_eq_eq_not, Bool.not_true, Bool.not_false] at g11)
  all_goals
    try simp only [eX, ↓reduceIte, Nat.reduceEqDiff, Int.reduceToNat]
    first
    | refine OW_guardT rfl (lt_some (by decide)) rfl (fun K hK r => ?_)
      simp only [x_move, eX, ↓reduceIte, Nat.reduceEqDiff, Int.reduceToNat]
      refine hK _ _ ?_; clear hK K
    | refine OW_guardF rfl (lt_some (by decide)) rfl ?_
      simp only [eX, ↓reduceIte, Nat.reduceEqDiff, Int.reduceToNat]
    first
    | refine OW_guardT rfl (lt_some (by decide)) rfl (fun K hK r => ?_)
      simp only [x_bin, g_int, g_bool, g_string, g_pointer, g_slice, g_map, g_func, g_nilFunc, g_iface, g_nil_iface, g_nil_r, g_nil_l, eX, ↓reduceIte, Nat.reduceEqDiff, Int.reduceToNat]
      rw [e_eql _ _ _ _ (by simp)]
      rw [q_equal]
      first | rw [q_ptr_nil _ _ _ Try.underlying26] | rw [q_nil_ptr _ _ _ Try.underlying26]
      try simp only [eX, ↓reduceIte, Nat.reduceEqDiff, Int.reduceToNat]
      refine hK _ _ ?_; clear hK K
    | refine OW_guardF rfl (lt_some (by decide)) rfl ?_
      simp only [eX, ↓reduceIte, Nat.reduceEqDiff, Int.reduceToNat]
    refine OW_opS (fun K hK r => ?_)
    simp only [x_pick, l_asBool, HL.ite_bool, if_true, if_false, Bool.false_eq_true, eX, ↓reduceIte, Nat.reduceEqDiff, Int.reduceToNat]
    refine hK _ _ ?_; clear hK K
    refine OW_nil ?_
    try simp only [Ex.thnH, Ex.inBlockH, ↓reduceIte, Nat.reduceEqDiff]
    refine hK4 _ _ ?_; try clear hK4 K4
    refine CW_cond (fun r => rfl) (fun c14 => ?_) (fun c14 => ?_)
    · first
      | (exfalso; exact cnA c14; done)
      | skip
        (try simp only [decide_eq_true_eq, decide_eq_false_iff_not, Bool.not_eq_true, Bool.not_eq_false, Bool.and_eq_true, Bool.or_eq_true, Bool.or_eq_false_iff, Bool.not_eq_true, Bool.not_eq_eq_eq_not, Bool.not_true, Bool.not_false] at c14)
        refine CW_seq (fun K5 hK5 => ?_)
        refine CW_region ?_
        refine OW_as rfl ?_
        refine OW_nil ?_
        try simp only [Ex.thnH, Ex.inBlockH, ↓reduceIte, Nat.reduceEqDiff]
        refine hK5 _ _ ?_; try clear hK5 K5
        refine CW_ret ?_
        try simp only [Ex.thnH, Ex.inBlockH, ↓reduceIte, Nat.reduceEqDiff]
        skip
    · first
      | (exfalso; exact cnA c14; done)
      | skip
        (try simp only [decide_eq_true_eq, decide_eq_false_iff_not, Bool.not_eq_true, Bool.not_eq_false, Bool.and_eq_true, Bool.or_eq_true, Bool.or_eq_false_iff, Bool.not_eq_true, Bool.not_eq_eq_eq_not, Bool.not_true, Bool.not_false] at c14)
        refine CW_skip ?_
        try simp only [Ex.thnH, Ex.inBlockH, ↓reduceIte, Nat.reduceEqDiff]
        refine hK3 _ _ ?_; try clear hK3 K3
        refine CW_seq (fun K6 hK6 => ?_)
        refine CW_seq (fun K7 hK7 => ?_)
        refine CW_region ?_
        refine OW_mv rfl ?_
        refine OW_opS (fun K hK r => ?_)
        simp only [x_callF _ bd12, List.map_toArray, List.map_cons, List.map_nil, eX, ↓reduceIte, Nat.reduceEqDiff, Int.reduceToNat]
        refine (full_ok _ 1).mono ?_
        rintro v H' ⟨rfl, rfl⟩
        try simp only [eX, ↓reduceIte, Nat.reduceEqDiff, Int.reduceToNat]
        refine hK _ _ ?_; clear hK K
        refine OW_opS (fun K hK r => ?_)
        simp only [x_callF _ bd11, List.map_toArray, List.map_cons, List.map_nil, eX, ↓reduceIte, Nat.reduceEqDiff, Int.reduceToNat]
        refine (writeL hA6 al0_s (by decide) 0 0 (fullS 1)).mono ?_
        rintro v17 H17 ⟨rfl, F17, hA17⟩
        have hO17 := hA17.old
        rw [al_e1]
        change Stn H H17 F17 p al1 at hA17
        try simp only [eX, ↓reduceIte, Nat.reduceEqDiff, Int.reduceToNat]
        refine hK _ _ ?_; clear hK K
        refine OW_opS (fun K hK r => ?_)
        simp only [x_bin, g_int, g_bool, g_string, g_pointer, g_slice, g_map, g_func, g_nilFunc, g_err, g_iface, g_nil_iface, g_nil_r, g_nil_l, eX, ↓reduceIte, Nat.reduceEqDiff, Int.reduceToNat]
        first | rw [b_err_neq _ _ Try.underlying28] | (rw [e_neq _ _ _ _ (by simp), q_equal]; first | rw [q_iface_nil _ _ _ Try.underlying28] | rw [q_nil_iface _ _ _ Try.underlying28] | rw [q_nil_nil _ _ _ Try.underlying28])
        try simp only [eX, ↓reduceIte, Nat.reduceEqDiff, Int.reduceToNat]
        refine hK _ _ ?_; clear hK K
        refine OW_mv rfl ?_
        (first | refine OW_split (d := 19) rfl (fun g19 => ?_) (fun g19 => ?_) | skip)
        all_goals try (exfalso; exact cnA g19)
        all_goals (try simp only [decide_eq_true_eq, decide_eq_false_iff_not, Bool.not_eq_true, Bool.not_eq_false, Bool.and_eq_true, Bool.or_eq_true, Bool.or_eq_false_iff, Bool.not_eq_true, Bool.not_eq_eq_eq_not, Bool.not_true, Bool.not_false] at g19)
        all_goals
          try simp only [eX, ↓reduceIte, Nat.reduceEqDiff, Int.reduceToNat]
          first
          | refine OW_guardT rfl (lt_some (by decide)) rfl (fun K hK r => ?_)
            simp only [x_move, eX, ↓reduceIte, Nat.reduceEqDiff, Int.reduceToNat]
            refine hK _ _ ?_; clear hK K
          | refine OW_guardF rfl (lt_some (by decide)) rfl ?_
            simp only [eX, ↓reduceIte, Nat.reduceEqDiff, Int.reduceToNat]
          first
          | refine OW_guardT rfl (lt_some (by decide)) rfl (fun K hK r => ?_)
            simp only [x_callF _ bd13, List.map_toArray, List.map_cons, List.map_nil, eX, ↓reduceIte, Nat.reduceEqDiff, Int.reduceToNat]
            refine (flushL hA17 al1_s (by decide) 0).mono ?_
            rintro v21 H21 ⟨rfl, F21, hA21⟩
            have hO21 := hA21.old
            rw [al_e2]
            change Stn H H21 F21 p al2 at hA21
            try simp only [eX, ↓reduceIte, Nat.reduceEqDiff, Int.reduceToNat]
            refine hK _ _ ?_; clear hK K
          | refine OW_guardF rfl (lt_some (by decide)) rfl ?_
            simp only [eX, ↓reduceIte, Nat.reduceEqDiff, Int.reduceToNat]
          first
          | refine OW_guardT rfl (lt_some (by decide)) rfl (fun K hK r => ?_)
            simp only [x_bin, g_int, g_bool, g_string, g_pointer, g_slice, g_map, g_func, g_nilFunc, g_err, g_iface, g_nil_iface, g_nil_r, g_nil_l, eX, ↓reduceIte, Nat.reduceEqDiff, Int.reduceToNat]
            first | rw [b_err_neq _ _ Try.underlying28] | (rw [e_neq _ _ _ _ (by simp), q_equal]; first | rw [q_iface_nil _ _ _ Try.underlying28] | rw [q_nil_iface _ _ _ Try.underlying28] | rw [q_nil_nil _ _ _ Try.underlying28])
            try simp only [eX, ↓reduceIte, Nat.reduceEqDiff, Int.reduceToNat]
            refine hK _ _ ?_; clear hK K
          | refine OW_guardF rfl (lt_some (by decide)) rfl ?_
            simp only [eX, ↓reduceIte, Nat.reduceEqDiff, Int.reduceToNat]
          refine OW_opS (fun K hK r => ?_)
          simp only [x_pick, l_asBool, HL.ite_bool, if_true, if_false, Bool.false_eq_true, eX, ↓reduceIte, Nat.reduceEqDiff, Int.reduceToNat]
          refine hK _ _ ?_; clear hK K
          refine OW_mv rfl ?_
          (first | refine OW_split (d := 24) rfl (fun g24 => ?_) (fun g24 => ?_) | skip)
          all_goals try (exfalso; exact cnA g24)
          all_goals (try simp only [decide_eq_true_eq, decide_eq_false_iff_not, Bool.not_eq_true, Bool.not_eq_false, Bool.and_eq_true, Bool.or_eq_true, Bool.or_eq_false_iff, Bool.not_eq_true, Bool.not_eq_eq_eq_not, Bool.not_true, Bool.not_false] at g24)
          all_goals
            try simp only [eX, ↓reduceIte, Nat.reduceEqDiff, Int.reduceToNat]
            first
            | refine OW_guardT rfl (lt_some (by decide)) rfl (fun K hK r => ?_)
              simp only [x_move, eX, ↓reduceIte, Nat.reduceEqDiff, Int.reduceToNat]
              refine hK _ _ ?_; clear hK K
            | refine OW_guardF rfl (lt_some (by decide)) rfl ?_
              simp only [eX, ↓reduceIte, Nat.reduceEqDiff, Int.reduceToNat]
            first
            | refine OW_guardT rfl (lt_some (by decide)) rfl (fun K hK r => ?_)
              simp only [x_callF _ bd12, List.map_toArray, List.map_cons, List.map_nil, eX, ↓reduceIte, Nat.reduceEqDiff, Int.reduceToNat]
              refine (full_ok _ 2).mono ?_
              rintro v H' ⟨rfl, rfl⟩
              try simp only [eX, ↓reduceIte, Nat.reduceEqDiff, Int.reduceToNat]
              refine hK _ _ ?_; clear hK K
            | refine OW_guardF rfl (lt_some (by decide)) rfl ?_
              simp only [eX, ↓reduceIte, Nat.reduceEqDiff, Int.reduceToNat]
            first
            | refine OW_guardT rfl (lt_some (by decide)) rfl (fun K hK r => ?_)
              simp only [x_callF _ bd11, List.map_toArray, List.map_cons, List.map_nil, eX, ↓reduceIte, Nat.reduceEqDiff, Int.reduceToNat]
              refine (writeL hA21 al2_s (by decide) 0 0 (fullS 2)).mono ?_
              rintro v27 H27 ⟨rfl, F27, hA27⟩
              have hO27 := hA27.old
              rw [al_e3]
              change Stn H H27 F27 p al3 at hA27
              try simp only [eX, ↓reduceIte, Nat.reduceEqDiff, Int.reduceToNat]
              refine hK _ _ ?_; clear hK K
            | refine OW_guardF rfl (lt_some (by decide)) rfl ?_
              simp only [eX, ↓reduceIte, Nat.reduceEqDiff, Int.reduceToNat]
            first
            | refine OW_guardT rfl (lt_some (by decide)) rfl (fun K hK r => ?_)
              simp only [x_bin, g_int, g_bool, g_string, g_pointer, g_slice, g_map, g_func, g_nilFunc, g_err, g_iface, g_nil_iface, g_nil_r, g_nil_l, eX, ↓reduceIte, Nat.reduceEqDiff, Int.reduceToNat]
              first | rw [b_err_neq _ _ Try.underlying28] | (rw [e_neq _ _ _ _ (by simp), q_equal]; first | rw [q_iface_nil _ _ _ Try.underlying28] | rw [q_nil_iface _ _ _ Try.underlying28] | rw [q_nil_nil _ _ _ Try.underlying28])
              try simp only [eX, ↓reduceIte, Nat.reduceEqDiff, Int.reduceToNat]
              refine hK _ _ ?_; clear hK K
            | refine OW_guardF rfl (lt_some (by decide)) rfl ?_
              simp only [eX, ↓reduceIte, Nat.reduceEqDiff, Int.reduceToNat]
            refine OW_opS (fun K hK r => ?_)
            simp only [x_pick, l_asBool, HL.ite_bool, if_true, if_false, Bool.false_eq_true, eX, ↓reduceIte, Nat.reduceEqDiff, Int.reduceToNat]
            refine hK _ _ ?_; clear hK K
            refine OW_mv rfl ?_
            (first | refine OW_split (d := 30) rfl (fun g30 => ?_) (fun g30 => ?_) | skip)
            all_goals try (exfalso; exact cnA g30)
            all_goals (try simp only [decide_eq_true_eq, decide_eq_false_iff_not, Bool.not_eq_true, Bool.not_eq_false, Bool.and_eq_true, Bool.or_eq_true, Bool.or_eq_false_iff, Bool.not_eq_true, Bool.not_eq_eq_eq_not, Bool.not_true, Bool.not_false] at g30)
            all_goals
              try simp only [eX, ↓reduceIte, Nat.reduceEqDiff, Int.reduceToNat]
              first
              | refine OW_guardT rfl (lt_some (by decide)) rfl (fun K hK r => ?_)
                simp only [x_move, eX, ↓reduceIte, Nat.reduceEqDiff, Int.reduceToNat]
                refine hK _ _ ?_; clear hK K
              | refine OW_guardF rfl (lt_some (by decide)) rfl ?_
                simp only [eX, ↓reduceIte, Nat.reduceEqDiff, Int.reduceToNat]
              first
              | refine OW_guardT rfl (lt_some (by decide)) rfl (fun K hK r => ?_)
                simp only [x_callF _ bd18, List.map_toArray, List.map_cons, List.map_nil, eX, ↓reduceIte, Nat.reduceEqDiff, Int.reduceToNat]
                refine (waitingL hA27 al3_s 0).mono ?_
                rintro v H' ⟨rfl, rfl⟩
                rw [al_w]
                try simp only [eX, ↓reduceIte, Nat.reduceEqDiff, Int.reduceToNat]
                refine hK _ _ ?_; clear hK K
              | refine OW_guardF rfl (lt_some (by decide)) rfl ?_
                simp only [eX, ↓reduceIte, Nat.reduceEqDiff, Int.reduceToNat]
              first
              | refine OW_guardT rfl (lt_some (by decide)) rfl (fun K hK r => ?_)
                simp (disch := (first | omega | decide)) only [x_bin, g_int, b_neq, dec_lt_t, dec_lt_f, dec_le_t, dec_le_f, dec_eq_t, dec_eq_f, Bool.not_true, Bool.not_false, eX, ↓reduceIte, Nat.reduceEqDiff, Int.reduceToNat]
                refine hK _ _ ?_; clear hK K
              | refine OW_guardF rfl (lt_some (by decide)) rfl ?_
                simp only [eX, ↓reduceIte, Nat.reduceEqDiff, Int.reduceToNat]
              refine OW_opS (fun K hK r => ?_)
              simp only [x_pick, l_asBool, HL.ite_bool, if_true, if_false, Bool.false_eq_true, eX, ↓reduceIte, Nat.reduceEqDiff, Int.reduceToNat]
              refine hK _ _ ?_; clear hK K
              refine OW_nil ?_
              try simp only [Ex.thnH, Ex.inBlockH, ↓reduceIte, Nat.reduceEqDiff]
              refine hK7 _ _ ?_; try clear hK7 K7
              refine CW_cond (fun r => rfl) (fun c34 => ?_) (fun c34 => ?_)
              · first
                | (exfalso; exact cnA c34; done)
                | skip
                  (try simp only [decide_eq_true_eq, decide_eq_false_iff_not, Bool.not_eq_true, Bool.not_eq_false, Bool.and_eq_true, Bool.or_eq_true, Bool.or_eq_false_iff, Bool.not_eq_true, Bool.not_eq_eq_eq_not, Bool.not_true, Bool.not_false] at c34)
                  refine CW_seq (fun K8 hK8 => ?_)
                  refine CW_region ?_
                  refine OW_as rfl ?_
                  refine OW_nil ?_
                  try simp only [Ex.thnH, Ex.inBlockH, ↓reduceIte, Nat.reduceEqDiff]
                  refine hK8 _ _ ?_; try clear hK8 K8
                  refine CW_ret ?_
                  try simp only [Ex.thnH, Ex.inBlockH, ↓reduceIte, Nat.reduceEqDiff]
                  skip
              · first
                | (exfalso; exact cnA c34; done)
                | skip
                  (try simp only [decide_eq_true_eq, decide_eq_false_iff_not, Bool.not_eq_true, Bool.not_eq_false, Bool.and_eq_true, Bool.or_eq_true, Bool.or_eq_false_iff, Bool.not_eq_true, Bool.not_eq_eq_eq_not, Bool.not_true, Bool.not_false] at c34)
                  refine CW_skip ?_
                  try simp only [Ex.thnH, Ex.inBlockH, ↓reduceIte, Nat.reduceEqDiff]
                  refine hK6 _ _ ?_; try clear hK6 K6
                  refine CW_seq (fun K9 hK9 => ?_)
                  refine CW_region ?_
                  refine OW_mv rfl ?_
                  refine OW_opS (fun K hK r => ?_)
                  simp only [x_build, bp68, List.map_toArray, List.map_cons, List.map_nil, eX, ↓reduceIte, Nat.reduceEqDiff, Int.reduceToNat]
                  rw [fill_one rfl clA bdA]
                  rw [fill_one rfl clA bdA]
                  rw [fill_one rfl clA bdA]
                  simp only [fill_nil, orF_some, List.setIfInBounds_toArray, List.set_cons_zero, List.set_cons_succ]
                  try simp only [eX, ↓reduceIte, Nat.reduceEqDiff, Int.reduceToNat]
                  refine hK _ _ ?_; clear hK K
                  refine OW_opS (fun K hK r => ?_)
                  simp only [x_buildSlice, List.map_toArray, List.map_cons, List.map_nil, eX, ↓reduceIte, Nat.reduceEqDiff, Int.reduceToNat]
                  refine Lt_buildSlice (vs := [_]) Try.underlying44 sz68 zr68 rfl bsA (by first | decide | (simp; done)) ?_
                  simp only [List.flatMap_cons, List.flatMap_nil, Value.cells, List.append_nil, List.cons_append, List.nil_append, List.length_cons, List.length_nil, Nat.zero_add, Nat.reduceAdd]
                  intro b37 hb37
                  try have n37_b5 : b5 ≠ b37 := ne_of_none hbA hb37
                  have f37_H : H b37 = none := none_of_le lhA hb37
                  try simp only [eX, ↓reduceIte, Nat.reduceEqDiff, Int.reduceToNat]
                  refine hK _ _ ?_; clear hK K
                  refine OW_opS (fun K hK r => ?_)
                  simp only [x_callF _ bd14, List.map_toArray, List.map_cons, List.map_nil, eX, ↓reduceIte, Nat.reduceEqDiff, Int.reduceToNat]
                  refine (crashL (hA27.more (le_upd _ _ _ hb37)) al3_s (by decide) (G := emptyHp.upd b37 (.cells #[.int .i64 0, .int .i64 0, .int .i64 3] 68)) (le_put (le_empty _) (upd_same _ _ _)) (fun x hx => by rw [G1_ne hx]; exact hA27.fresh hb37) (fun x hx => by rw [G1_ne hx]; exact none_of_le hO27 hb37) _ _ [⟨0, 0, 3⟩] kp1 (by decide)).mono ?_
                  rintro v38 H38 ⟨F38, hA38⟩
                  have hO38 := hA38.old
                  change Stn H H38 F38 p al4 at hA38
                  try simp only [eX, ↓reduceIte, Nat.reduceEqDiff, Int.reduceToNat]
                  refine hK _ _ ?_; clear hK K
                  refine OW_nil ?_
                  try simp only [Ex.thnH, Ex.inBlockH, ↓reduceIte, Nat.reduceEqDiff]
                  refine hK9 _ _ ?_; try clear hK9 K9
                  refine CW_seq (fun K10 hK10 => ?_)
                  refine CW_region ?_
                  refine OW_mv rfl ?_
                  refine OW_opS (fun K hK r => ?_)
                  simp only [x_callF _ bd16, List.map_toArray, List.map_cons, List.map_nil, eX, ↓reduceIte, Nat.reduceEqDiff, Int.reduceToNat]
                  refine (readL hA38 al4_s (by decide) 0 0).mono ?_
                  rintro v H' ⟨rfl, rfl⟩
                  rw [al_e4, show (al4.rd 0 0).1 = alX from rfl]
                  try simp only [eX, ↓reduceIte, Nat.reduceEqDiff, Int.reduceToNat]
                  refine hK _ _ ?_; clear hK K
                  refine OW_mv rfl ?_
                  refine OW_opS (fun K hK r => ?_)
                  simp only [x_extract, i_extract, List.getElem?_toArray, List.getElem?_cons_zero, List.getElem?_cons_succ, orF_some, eX, ↓reduceIte, Nat.reduceEqDiff, Int.reduceToNat]
                  refine hK _ _ ?_; clear hK K
                  refine OW_opS (fun K hK r => ?_)
                  simp only [x_extract, i_extract, List.getElem?_toArray, List.getElem?_cons_zero, List.getElem?_cons_succ, orF_some, eX, ↓reduceIte, Nat.reduceEqDiff, Int.reduceToNat]
                  refine hK _ _ ?_; clear hK K
                  refine OW_opS (fun K hK r => ?_)
                  simp only [x_alloc, zr38, orF_some, Value.cells, eX, ↓reduceIte, Nat.reduceEqDiff, Int.reduceToNat]
                  intro b3 hb3
                  try have n3_b5 : b5 ≠ b3 := ne_of_none hbA hb3
                  try have n3_b37 : b37 ≠ b3 := ne_of_none hbA hb3
                  have f3_H : H b3 = none := none_of_le lhA hb3
                  try simp only [eX, ↓reduceIte, Nat.reduceEqDiff, Int.reduceToNat]
                  refine hK _ _ ?_; clear hK K
                  refine OW_op rfl (lt_none) (fun K hK r => ?_)
                  simp only [x_store, eX, ↓reduceIte, Nat.reduceEqDiff, Int.reduceToNat]
                  refine Lt_storeAll sz38 (by simp [Sec.h]) hbA (by simp [Sec.h]) (PlainL.ints _ _) (by decide) ?_
                  refine hK _ _ ?_; clear hK K
                  refine OW_as rfl ?_
                  refine OW_nil ?_
                  try simp only [Ex.thnH, Ex.inBlockH, ↓reduceIte, Nat.reduceEqDiff]
                  refine hK10 _ _ ?_; try clear hK10 K10
                  refine CW_seq (fun K11 hK11 => ?_)
                  refine CW_region ?_
                  refine OW_mv rfl ?_
                  refine OW_opS (fun K hK r => ?_)
                  simp only [x_bin, g_int, g_bool, g_string, g_pointer, g_slice, g_map, g_func, g_nilFunc, g_err, g_iface, g_nil_iface, g_nil_r, g_nil_l, eX, ↓reduceIte, Nat.reduceEqDiff, Int.reduceToNat]
                  first | rw [b_err_eql _ _ Try.underlying28] | (rw [e_eql _ _ _ _ (by simp), q_equal]; first | rw [q_iface_nil _ _ _ Try.underlying28] | rw [q_nil_iface _ _ _ Try.underlying28] | rw [q_nil_nil _ _ _ Try.underlying28])
                  try simp only [eX, ↓reduceIte, Nat.reduceEqDiff, Int.reduceToNat]
                  refine hK _ _ ?_; clear hK K
                  refine OW_mv rfl ?_
                  (first | refine OW_split (d := 46) rfl (fun g46 => ?_) (fun g46 => ?_) | skip)
                  all_goals try (exfalso; exact cnA g46)
                  all_goals (try simp only [decide_eq_true_eq, decide_eq_false_iff_not, Bool.not_eq_true, Bool.not_eq_false, Bool.and_eq_true, Bool.or_eq_true, Bool.or_eq_false_iff, Bool.not_eq_true, Bool.not_eq_eq_eq_not, Bool.not_true, Bool.not_false] at g46)
                  all_goals
                    try simp only [eX, ↓reduceIte, Nat.reduceEqDiff, Int.reduceToNat]
                    first
                    | refine OW_guardT rfl (lt_some (by decide)) rfl (fun K hK r => ?_)
                      simp only [x_indexAddr, eX, ↓reduceIte, Nat.reduceEqDiff, Int.reduceToNat]
                      refine Lt_indexA Try.underlying38 sz5 ixA ixA ?_
                      try simp only [add_mk, Nat.mul_one, Nat.zero_add, Int.reduceToNat]
                      try simp only [eX, ↓reduceIte, Nat.reduceEqDiff, Int.reduceToNat]
                      refine hK _ _ ?_; clear hK K
                    | refine OW_guardF rfl (lt_some (by decide)) rfl ?_
                      simp only [eX, ↓reduceIte, Nat.reduceEqDiff, Int.reduceToNat]
                    first
                    | refine OW_guardT rfl (lt_some (by decide)) rfl (fun K hK r => ?_)
                      simp only [x_load, eX, ↓reduceIte, Nat.reduceEqDiff, Int.reduceToNat]
                      refine Lt_loadAt1 Try.underlying5 rfl hbA alX_0 ?_
                      refine hK _ _ ?_; clear hK K
                    | refine OW_guardF rfl (lt_some (by decide)) rfl ?_
                      simp only [eX, ↓reduceIte, Nat.reduceEqDiff, Int.reduceToNat]
                    first
                    | refine OW_guardT rfl (lt_some (by decide)) rfl (fun K hK r => ?_)
                      simp (disch := (first | omega | decide)) only [x_bin, g_int, b_eql, dec_lt_t, dec_lt_f, dec_le_t, dec_le_f, dec_eq_t, dec_eq_f, Bool.not_true, Bool.not_false, eX, ↓reduceIte, Nat.reduceEqDiff, Int.reduceToNat]
                      refine hK _ _ ?_; clear hK K
                    | refine OW_guardF rfl (lt_some (by decide)) rfl ?_
                      simp only [eX, ↓reduceIte, Nat.reduceEqDiff, Int.reduceToNat]
                    refine OW_opS (fun K hK r => ?_)
                    simp only [x_pick, l_asBool, HL.ite_bool, if_true, if_false, Bool.false_eq_true, eX, ↓reduceIte, Nat.reduceEqDiff, Int.reduceToNat]
                    refine hK _ _ ?_; clear hK K
                    refine OW_mv rfl ?_
                    (first | refine OW_split (d := 51) rfl (fun g51 => ?_) (fun g51 => ?_) | skip)
                    all_goals try (exfalso; exact cnA g51)
                    all_goals (try simp only [decide_eq_true_eq, decide_eq_false_iff_not, Bool.not_eq_true, Bool.not_eq_false, Bool.and_eq_true, Bool.or_eq_true, Bool.or_eq_false_iff, Bool.not_eq_true, Bool.not_eq_eq_eq_not, Bool.not_true, Bool.not_false] at g51)
                    all_goals
                      try simp only [eX, ↓reduceIte, Nat.reduceEqDiff, Int.reduceToNat]
                      first
                      | refine OW_guardT rfl (lt_some (by decide)) rfl (fun K hK r => ?_)
                        simp only [x_indexAddr, eX, ↓reduceIte, Nat.reduceEqDiff, Int.reduceToNat]
                        refine Lt_indexA Try.underlying38 sz5 ixA ixA ?_
                        try simp only [add_mk, Nat.mul_one, Nat.zero_add, Int.reduceToNat]
                        try simp only [eX, ↓reduceIte, Nat.reduceEqDiff, Int.reduceToNat]
                        refine hK _ _ ?_; clear hK K
                      | refine OW_guardF rfl (lt_some (by decide)) rfl ?_
                        simp only [eX, ↓reduceIte, Nat.reduceEqDiff, Int.reduceToNat]
                      first
                      | refine OW_guardT rfl (lt_some (by decide)) rfl (fun K hK r => ?_)
                        simp only [x_load, eX, ↓reduceIte, Nat.reduceEqDiff, Int.reduceToNat]
                        refine Lt_loadAt1 Try.underlying5 rfl hbA alX_2 ?_
                        refine hK _ _ ?_; clear hK K
                      | refine OW_guardF rfl (lt_some (by decide)) rfl ?_
                        simp only [eX, ↓reduceIte, Nat.reduceEqDiff, Int.reduceToNat]
                      first
                      | refine OW_guardT rfl (lt_some (by decide)) rfl (fun K hK r => ?_)
                        simp (disch := (first | omega | decide)) only [x_bin, g_int, b_eql, dec_lt_t, dec_lt_f, dec_le_t, dec_le_f, dec_eq_t, dec_eq_f, Bool.not_true, Bool.not_false, eX, ↓reduceIte, Nat.reduceEqDiff, Int.reduceToNat]
                        refine hK _ _ ?_; clear hK K
                      | refine OW_guardF rfl (lt_some (by decide)) rfl ?_
                        simp only [eX, ↓reduceIte, Nat.reduceEqDiff, Int.reduceToNat]
                      refine OW_opS (fun K hK r => ?_)
                      simp only [x_pick, l_asBool, HL.ite_bool, if_true, if_false, Bool.false_eq_true, eX, ↓reduceIte, Nat.reduceEqDiff, Int.reduceToNat]
                      refine hK _ _ ?_; clear hK K
                      refine OW_mv rfl ?_
                      (first | refine OW_split (d := 56) rfl (fun g56 => ?_) (fun g56 => ?_) | skip)
                      all_goals try (exfalso; exact cnA g56)
                      all_goals (try simp only [decide_eq_true_eq, decide_eq_false_iff_not, Bool.not_eq_true, Bool.not_eq_false, Bool.and_eq_true, Bool.or_eq_true, Bool.or_eq_false_iff, Bool.not_eq_true, Bool.not_eq_eq_eq_not, Bool.not_true, Bool.not_false] at g56)
                      all_goals
                        try simp only [eX, ↓reduceIte, Nat.reduceEqDiff, Int.reduceToNat]
                        first
                        | refine OW_guardT rfl (lt_some (by decide)) rfl (fun K hK r => ?_)
                          simp only [x_indexAddr, eX, ↓reduceIte, Nat.reduceEqDiff, Int.reduceToNat]
                          refine Lt_indexA Try.underlying38 sz5 ixA ixA ?_
                          try simp only [add_mk, Nat.mul_one, Nat.zero_add, Int.reduceToNat]
                          try simp only [eX, ↓reduceIte, Nat.reduceEqDiff, Int.reduceToNat]
                          refine hK _ _ ?_; clear hK K
                        | refine OW_guardF rfl (lt_some (by decide)) rfl ?_
                          simp only [eX, ↓reduceIte, Nat.reduceEqDiff, Int.reduceToNat]
                        first
                        | refine OW_guardT rfl (lt_some (by decide)) rfl (fun K hK r => ?_)
                          simp only [x_load, eX, ↓reduceIte, Nat.reduceEqDiff, Int.reduceToNat]
                          refine Lt_loadAt1 Try.underlying5 rfl hbA alX_3 ?_
                          refine hK _ _ ?_; clear hK K
                        | refine OW_guardF rfl (lt_some (by decide)) rfl ?_
                          simp only [eX, ↓reduceIte, Nat.reduceEqDiff, Int.reduceToNat]
                        first
                        | refine OW_guardT rfl (lt_some (by decide)) rfl (fun K hK r => ?_)
                          simp (disch := (first | omega | decide)) only [x_bin, g_int, b_eql, dec_lt_t, dec_lt_f, dec_le_t, dec_le_f, dec_eq_t, dec_eq_f, Bool.not_true, Bool.not_false, eX, ↓reduceIte, Nat.reduceEqDiff, Int.reduceToNat]
                          refine hK _ _ ?_; clear hK K
                        | refine OW_guardF rfl (lt_some (by decide)) rfl ?_
                          simp only [eX, ↓reduceIte, Nat.reduceEqDiff, Int.reduceToNat]
                        refine OW_opS (fun K hK r => ?_)
                        simp only [x_pick, l_asBool, HL.ite_bool, if_true, if_false, Bool.false_eq_true, eX, ↓reduceIte, Nat.reduceEqDiff, Int.reduceToNat]
                        refine hK _ _ ?_; clear hK K
                        refine OW_mv rfl ?_
                        (first | refine OW_split (d := 61) rfl (fun g61 => ?_) (fun g61 => ?_) | skip)
                        all_goals try (exfalso; exact cnA g61)
                        all_goals (try simp only [decide_eq_true_eq, decide_eq_false_iff_not, Bool.not_eq_true, Bool.not_eq_false, Bool.and_eq_true, Bool.or_eq_true, Bool.or_eq_false_iff, Bool.not_eq_true, Bool.not_eq_eq_eq_not, Bool.not_true, Bool.not_false] at g61)
                        all_goals
                          try simp only [eX, ↓reduceIte, Nat.reduceEqDiff, Int.reduceToNat]
                          first
                          | refine OW_guardT rfl (lt_some (by decide)) rfl (fun K hK r => ?_)
                            simp only [x_indexAddr, eX, ↓reduceIte, Nat.reduceEqDiff, Int.reduceToNat]
                            refine Lt_indexA Try.underlying38 sz5 ixA ixA ?_
                            try simp only [add_mk, Nat.mul_one, Nat.zero_add, Int.reduceToNat]
                            try simp only [eX, ↓reduceIte, Nat.reduceEqDiff, Int.reduceToNat]
                            refine hK _ _ ?_; clear hK K
                          | refine OW_guardF rfl (lt_some (by decide)) rfl ?_
                            simp only [eX, ↓reduceIte, Nat.reduceEqDiff, Int.reduceToNat]
                          first
                          | refine OW_guardT rfl (lt_some (by decide)) rfl (fun K hK r => ?_)
                            simp only [x_load, eX, ↓reduceIte, Nat.reduceEqDiff, Int.reduceToNat]
                            refine Lt_loadAt1 Try.underlying5 rfl hbA alX_63 ?_
                            refine hK _ _ ?_; clear hK K
                          | refine OW_guardF rfl (lt_some (by decide)) rfl ?_
                            simp only [eX, ↓reduceIte, Nat.reduceEqDiff, Int.reduceToNat]
                          first
                          | refine OW_guardT rfl (lt_some (by decide)) rfl (fun K hK r => ?_)
                            simp (disch := (first | omega | decide)) only [x_bin, g_int, b_eql, dec_lt_t, dec_lt_f, dec_le_t, dec_le_f, dec_eq_t, dec_eq_f, Bool.not_true, Bool.not_false, eX, ↓reduceIte, Nat.reduceEqDiff, Int.reduceToNat]
                            refine hK _ _ ?_; clear hK K
                          | refine OW_guardF rfl (lt_some (by decide)) rfl ?_
                            simp only [eX, ↓reduceIte, Nat.reduceEqDiff, Int.reduceToNat]
                          refine OW_opS (fun K hK r => ?_)
                          simp only [x_pick, l_asBool, HL.ite_bool, if_true, if_false, Bool.false_eq_true, eX, ↓reduceIte, Nat.reduceEqDiff, Int.reduceToNat]
                          refine hK _ _ ?_; clear hK K
                          refine OW_mv rfl ?_
                          (first | refine OW_split (d := 66) rfl (fun g66 => ?_) (fun g66 => ?_) | skip)
                          all_goals try (exfalso; exact cnA g66)
                          all_goals (try simp only [decide_eq_true_eq, decide_eq_false_iff_not, Bool.not_eq_true, Bool.not_eq_false, Bool.and_eq_true, Bool.or_eq_true, Bool.or_eq_false_iff, Bool.not_eq_true, Bool.not_eq_eq_eq_not, Bool.not_true, Bool.not_false] at g66)
                          all_goals
                            try simp only [eX, ↓reduceIte, Nat.reduceEqDiff, Int.reduceToNat]
                            first
                            | refine OW_guardT rfl (lt_some (by decide)) rfl (fun K hK r => ?_)
                              simp only [x_move, eX, ↓reduceIte, Nat.reduceEqDiff, Int.reduceToNat]
                              refine hK _ _ ?_; clear hK K
                            | refine OW_guardF rfl (lt_some (by decide)) rfl ?_
                              simp only [eX, ↓reduceIte, Nat.reduceEqDiff, Int.reduceToNat]
                            first
                            | refine OW_guardT rfl (lt_some (by decide)) rfl (fun K hK r => ?_)
                              simp only [x_callF _ bd21, List.map_toArray, List.map_cons, List.map_nil, eX, ↓reduceIte, Nat.reduceEqDiff, Int.reduceToNat]
                              refine (stepsL (hA38.more lhA)).mono ?_
                              rintro v H' ⟨rfl, rfl⟩
                              rw [al_st]
                              try simp only [eX, ↓reduceIte, Nat.reduceEqDiff, Int.reduceToNat]
                              refine hK _ _ ?_; clear hK K
                            | refine OW_guardF rfl (lt_some (by decide)) rfl ?_
                              simp only [eX, ↓reduceIte, Nat.reduceEqDiff, Int.reduceToNat]
                            first
                            | refine OW_guardT rfl (lt_some (by decide)) rfl (fun K hK r => ?_)
                              simp (disch := (first | omega | decide)) only [x_bin, g_int, b_eql, dec_lt_t, dec_lt_f, dec_le_t, dec_le_f, dec_eq_t, dec_eq_f, Bool.not_true, Bool.not_false, eX, ↓reduceIte, Nat.reduceEqDiff, Int.reduceToNat]
                              refine hK _ _ ?_; clear hK K
                            | refine OW_guardF rfl (lt_some (by decide)) rfl ?_
                              simp only [eX, ↓reduceIte, Nat.reduceEqDiff, Int.reduceToNat]
                            refine OW_opS (fun K hK r => ?_)
                            simp only [x_pick, l_asBool, HL.ite_bool, if_true, if_false, Bool.false_eq_true, eX, ↓reduceIte, Nat.reduceEqDiff, Int.reduceToNat]
                            refine hK _ _ ?_; clear hK K
                            refine OW_mv rfl ?_
                            (first | refine OW_split (d := 71) rfl (fun g71 => ?_) (fun g71 => ?_) | skip)
                            all_goals try (exfalso; exact cnA g71)
                            all_goals (try simp only [decide_eq_true_eq, decide_eq_false_iff_not, Bool.not_eq_true, Bool.not_eq_false, Bool.and_eq_true, Bool.or_eq_true, Bool.or_eq_false_iff, Bool.not_eq_true, Bool.not_eq_eq_eq_not, Bool.not_true, Bool.not_false] at g71)
                            all_goals
                              try simp only [eX, ↓reduceIte, Nat.reduceEqDiff, Int.reduceToNat]
                              first
                              | refine OW_guardT rfl (lt_some (by decide)) rfl (fun K hK r => ?_)
                                simp only [x_move, eX, ↓reduceIte, Nat.reduceEqDiff, Int.reduceToNat]
                                refine hK _ _ ?_; clear hK K
                              | refine OW_guardF rfl (lt_some (by decide)) rfl ?_
                                simp only [eX, ↓reduceIte, Nat.reduceEqDiff, Int.reduceToNat]
                              first
                              | refine OW_guardT rfl (lt_some (by decide)) rfl (fun K hK r => ?_)
                                simp only [x_callF _ bd24, List.map_toArray, List.map_cons, List.map_nil, eX, ↓reduceIte, Nat.reduceEqDiff, Int.reduceToNat]
                                refine (manyL (hA38.more lhA)).mono ?_
                                rintro v H' ⟨rfl, rfl⟩
                                rw [al_n]
                                try simp only [eX, ↓reduceIte, Nat.reduceEqDiff, Int.reduceToNat]
                                refine hK _ _ ?_; clear hK K
                              | refine OW_guardF rfl (lt_some (by decide)) rfl ?_
                                simp only [eX, ↓reduceIte, Nat.reduceEqDiff, Int.reduceToNat]
                              first
                              | refine OW_guardT rfl (lt_some (by decide)) rfl (fun K hK r => ?_)
                                simp (disch := (first | omega | decide)) only [x_bin, g_int, b_eql, dec_lt_t, dec_lt_f, dec_le_t, dec_le_f, dec_eq_t, dec_eq_f, Bool.not_true, Bool.not_false, eX, ↓reduceIte, Nat.reduceEqDiff, Int.reduceToNat]
                                refine hK _ _ ?_; clear hK K
                              | refine OW_guardF rfl (lt_some (by decide)) rfl ?_
                                simp only [eX, ↓reduceIte, Nat.reduceEqDiff, Int.reduceToNat]
                              refine OW_opS (fun K hK r => ?_)
                              simp only [x_pick, l_asBool, HL.ite_bool, if_true, if_false, Bool.false_eq_true, eX, ↓reduceIte, Nat.reduceEqDiff, Int.reduceToNat]
                              refine hK _ _ ?_; clear hK K
                              refine OW_as rfl ?_
                              refine OW_nil ?_
                              try simp only [Ex.thnH, Ex.inBlockH, ↓reduceIte, Nat.reduceEqDiff]
                              refine hK11 _ _ ?_; try clear hK11 K11
                              refine CW_ret ?_
                              try simp only [Ex.thnH, Ex.inBlockH, ↓reduceIte, Nat.reduceEqDiff]
                              exact ⟨[_], ⟨rfl, trivial⟩, H, lhA, rfl, rfl⟩

end Go.Proofs.Ytkmjncmdhinlgaa.HL
end
section
namespace Go.Proofs.Ytkmjncmdhinlgaa.HL
open Go Go.Proofs
set_option linter.unusedSimpArgs false
set_option linter.unusedVariables false
attribute [local irreducible] Lt Lq CW OW TW CallH


/-- an act -/
structure Op1 where
  kind : Int
  dev : Int
  n : Int
  b : Int
  ka : Option Addr
  kc : Nat
  keep : List Kp
deriving Inhabited
abbrev Op1.c (o : Op1) : List Value := [.int .i64 o.kind, .int .i64 o.dev, .int .i64 o.n, .int .u8 o.b, .slice o.ka o.keep.length o.kc]
theorem Op1.len (o : Op1) : o.c.length = 5 := rfl
theorem Op1.plain (o : Op1) : PlainL o.c := PlainL.cons (plain_int _ _) (PlainL.cons (plain_int _ _) (PlainL.cons (plain_int _ _) (PlainL.cons (plain_int _ _) (PlainL.cons (plain_slice _ _ _) PlainL.nil))))
abbrev ops (l : List Op1) : List Value := l.flatMap Op1.c
structure Op1.ok (H : Hp) (o : Op1) : Prop where
  hk : Holds H 3 (.slice o.ka o.keep.length o.kc) o.keep.length (kps o.keep)
  d0 : -9223372036854775808 ≤ o.dev
  d1 : o.dev ≤ 9223372036854775807
  n0 : -9223372036854775808 ≤ o.n
  n1 : o.n ≤ 9223372036854775807
  b0 : 0 ≤ o.b
  b1 : o.b ≤ 255
def shortB (l : List Op1) : Prop := l.length ≤ 81 ∧ ∀ j, j < l.length → (l.getD j default).keep.length ≤ 60

set_option maxRecDepth 100000 in
set_option maxHeartbeats 1000000 in
theorem long_ok (H : Hp) (a : Option Addr) (cap : Nat) (l : List Op1) (hv : Holds H 5 (.slice a l.length cap) l.length (ops l)) : CallH Try.prog 9 #[.slice a l.length cap] H (fun v H' => ∃ t, v = .bool t ∧ (t = false → shortB l) ∧ H' = H) := by
  refine CallH_enter (l := [_]) (rl := [.tmp 2]) (n := 21) Try.func9 rfl rfl rfl rfl rfl ?_
  simp only [envOf, Nat.reduceAdd]
  refine CW_seq (fun K1 hK1 => ?_)
  refine CW_region ?_
  refine OW_as rfl ?_
  refine OW_nil ?_
  try simp only [Ex.thnH, Ex.inBlockH, ↓reduceIte, Nat.reduceEqDiff]
  refine hK1 _ _ ?_; try clear hK1 K1
  refine CW_seq (fun K2 hK2 => ?_)
  refine CW_seq (fun K3 hK3 => ?_)
  refine CW_region ?_
  refine OW_mv rfl ?_
  refine OW_opS (fun K hK r => ?_)
  simp only [x_builtin, l_len, List.map_toArray, List.map_cons, List.map_nil, i_len_slice _ _ Try.underlying22, eX, ↓reduceIte, Nat.reduceEqDiff, Int.reduceToNat]
  refine hK _ _ ?_; clear hK K
  refine OW_mv rfl ?_
  refine OW_nil ?_
  try simp only [Ex.thnH, Ex.inBlockH, ↓reduceIte, Nat.reduceEqDiff]
  refine hK3 _ _ ?_; try clear hK3 K3
  refine CW_block ?_
  refine CW_loop (fun m e H_ => ∃ k : Nat, k ≤ l.length ∧ k ≤ 81 ∧ m = 81 - k ∧ (∀ j, j < k → (l.getD j default).keep.length ≤ 60) ∧ Le H H_ ∧ Env.has [(5, .slice a l.length cap), (6, .int .i64 l.length), (7, .int .i64 k)] e) (81) ?_ ?_
  · skip
    exact ⟨0, by omega, by omega, by omega, (fun j hj => absurd hj (by omega)), Le.refl _, rfl, rfl, rfl, trivial⟩
  intro m_ e_ H_ hI_
  obtain ⟨k, hk, hk81, rfl, hno, hlH, he⟩ := hI_
  refine CW_env he.sub ?_; clear he e_
  refine CW_seq (fun K4 hK4 => ?_)
  refine CW_region ?_
  refine OW_opS (fun K hK r => ?_)
  simp (disch := (first | omega | decide)) only [x_bin, g_int, b_lss, dec_lt_t, dec_lt_f, dec_le_t, dec_le_f, dec_eq_t, dec_eq_f, Bool.not_true, Bool.not_false, eX, ↓reduceIte, Nat.reduceEqDiff, Int.reduceToNat]
  refine hK _ _ ?_; clear hK K
  refine OW_nil ?_
  try simp only [Ex.thnH, Ex.inBlockH, ↓reduceIte, Nat.reduceEqDiff]
  refine hK4 _ _ ?_; try clear hK4 K4
  refine CW_seq (fun K5 hK5 => ?_)
  refine CW_cond (fun r => rfl) (fun c8 => ?_) (fun c8 => ?_)
  · first
    | (exfalso; exact cnA c8; done)
    | skip
      (try simp only [decide_eq_true_eq, decide_eq_false_iff_not, Bool.not_eq_true, Bool.not_eq_false, Bool.and_eq_true, Bool.or_eq_true, Bool.or_eq_false_iff, Bool.not_eq_true, Bool.not_eq_eq_eq_not, Bool.not_true, Bool.not_false] at c8)
      obtain ⟨bw, ow, cw, Tw, Fw, ew, hbw, hsw, atw⟩ := (hv.le hlH).at (by omega)
      refine CW_skip ?_
      try simp only [Ex.thnH, Ex.inBlockH, ↓reduceIte, Nat.reduceEqDiff]
      refine hK5 _ _ ?_; try clear hK5 K5
      refine CW_seq (fun K6 hK6 => ?_)
      refine CW_block ?_
      refine CW_seq (fun K7 hK7 => ?_)
      refine CW_region ?_
      refine OW_mv rfl ?_
      refine OW_opS (fun K hK r => ?_)
      simp only [x_indexAddr, eX, ↓reduceIte, Nat.reduceEqDiff, Int.reduceToNat]
      refine Lt_indexSof Try.underlying22 sz35 ew ixA ixA ?_
      try simp only [Int.toNat_natCast]
      refine hK _ _ ?_; clear hK K
      refine OW_opS (fun K hK r => ?_)
      simp only [x_load, eX, ↓reduceIte, Nat.reduceEqDiff, Int.reduceToNat]
      refine Lt_loadAtA Try.underlying35 rfl sz35 hbw (by omega) ?_
      rw [ext_at Op1.len atw rfl k (by omega) hsw]
      refine hK _ _ ?_; clear hK K
      refine OW_opS (fun K hK r => ?_)
      simp only [x_alloc, zr35, orF_some, Value.cells, eX, ↓reduceIte, Nat.reduceEqDiff, Int.reduceToNat]
      intro b4 hb4
      have f4_H : H b4 = none := none_of_le lhA hb4
      try simp only [eX, ↓reduceIte, Nat.reduceEqDiff, Int.reduceToNat]
      refine hK _ _ ?_; clear hK K
      refine OW_as rfl ?_
      refine OW_op rfl (lt_none) (fun K hK r => ?_)
      simp only [x_store, eX, ↓reduceIte, Nat.reduceEqDiff, Int.reduceToNat]
      refine Lt_storeAll sz35 (by simp) hbA (by simp) (Op1.plain _) (by decide) ?_
      refine hK _ _ ?_; clear hK K
      refine OW_nil ?_
      try simp only [Ex.thnH, Ex.inBlockH, ↓reduceIte, Nat.reduceEqDiff]
      refine hK7 _ _ ?_; try clear hK7 K7
      refine CW_seq (fun K8 hK8 => ?_)
      refine CW_region ?_
      refine OW_mv rfl ?_
      refine OW_opS (fun K hK r => ?_)
      simp (disch := (first | omega | decide)) only [x_bin, g_int, b_gtr, dec_lt_t, dec_lt_f, dec_le_t, dec_le_f, dec_eq_t, dec_eq_f, Bool.not_true, Bool.not_false, eX, ↓reduceIte, Nat.reduceEqDiff, Int.reduceToNat]
      refine hK _ _ ?_; clear hK K
      refine OW_mv rfl ?_
      (first | refine OW_split (d := 14) rfl (fun g14 => ?_) (fun g14 => ?_) | skip)
      all_goals try (exfalso; exact cnA g14)
      all_goals (try simp only [decide_eq_true_eq, decide_eq_false_iff_not, Bool.not_eq_true, Bool.not_eq_false, Bool.and_eq_true, Bool.or_eq_true, Bool.or_eq_false_iff, Bool.not_eq_true, Bool.not_eq_eq_eq_not, Bool.not_true, Bool.not_false] at g14)
      all_goals
        try simp only [eX, ↓reduceIte, Nat.reduceEqDiff, Int.reduceToNat]
        first
        | refine OW_guardT rfl (lt_some (by decide)) rfl (fun K hK r => ?_)
          simp only [x_fieldAddr, fa35_4, add_mk, Nat.reduceAdd, Nat.zero_add, eX, ↓reduceIte, Nat.reduceEqDiff, Int.reduceToNat]
          refine hK _ _ ?_; clear hK K
        | refine OW_guardF rfl (lt_some (by decide)) rfl ?_
          simp only [eX, ↓reduceIte, Nat.reduceEqDiff, Int.reduceToNat]
        first
        | refine OW_guardT rfl (lt_some (by decide)) rfl (fun K hK r => ?_)
          simp only [x_load, eX, ↓reduceIte, Nat.reduceEqDiff, Int.reduceToNat]
          refine Lt_loadAt1 Try.underlying23 rfl hbA ldA ?_
          try simp only [eX, ↓reduceIte, Nat.reduceEqDiff, Int.reduceToNat]
          refine hK _ _ ?_; clear hK K
        | refine OW_guardF rfl (lt_some (by decide)) rfl ?_
          simp only [eX, ↓reduceIte, Nat.reduceEqDiff, Int.reduceToNat]
        first
        | refine OW_guardT rfl (lt_some (by decide)) rfl (fun K hK r => ?_)
          simp only [x_builtin, l_len, List.map_toArray, List.map_cons, List.map_nil, i_len_slice _ _ Try.underlying23, eX, ↓reduceIte, Nat.reduceEqDiff, Int.reduceToNat]
          refine hK _ _ ?_; clear hK K
        | refine OW_guardF rfl (lt_some (by decide)) rfl ?_
          simp only [eX, ↓reduceIte, Nat.reduceEqDiff, Int.reduceToNat]
        first
        | refine OW_guardT rfl (lt_some (by decide)) rfl (fun K hK r => ?_)
          simp (disch := (first | omega | decide)) only [x_bin, g_int, b_gtr, dec_lt_t, dec_lt_f, dec_le_t, dec_le_f, dec_eq_t, dec_eq_f, Bool.not_true, Bool.not_false, eX, ↓reduceIte, Nat.reduceEqDiff, Int.reduceToNat]
          refine hK _ _ ?_; clear hK K
        | refine OW_guardF rfl (lt_some (by decide)) rfl ?_
          simp only [eX, ↓reduceIte, Nat.reduceEqDiff, Int.reduceToNat]
        refine OW_opS (fun K hK r => ?_)
        simp only [x_pick, l_asBool, HL.ite_bool, if_true, if_false, Bool.false_eq_true, eX, ↓reduceIte, Nat.reduceEqDiff, Int.reduceToNat]
        refine hK _ _ ?_; clear hK K
        refine OW_nil ?_
        try simp only [Ex.thnH, Ex.inBlockH, ↓reduceIte, Nat.reduceEqDiff]
        refine hK8 _ _ ?_; try clear hK8 K8
        refine CW_cond (fun r => rfl) (fun c19 => ?_) (fun c19 => ?_)
        · first
          | (exfalso; exact cnA c19; done)
          | skip
            (try simp only [decide_eq_true_eq, decide_eq_false_iff_not, Bool.not_eq_true, Bool.not_eq_false, Bool.and_eq_true, Bool.or_eq_true, Bool.or_eq_false_iff, Bool.not_eq_true, Bool.not_eq_eq_eq_not, Bool.not_true, Bool.not_false] at c19)
            refine CW_seq (fun K9 hK9 => ?_)
            refine CW_region ?_
            refine OW_as rfl ?_
            refine OW_nil ?_
            try simp only [Ex.thnH, Ex.inBlockH, ↓reduceIte, Nat.reduceEqDiff]
            refine hK9 _ _ ?_; try clear hK9 K9
            refine CW_ret ?_
            try simp only [Ex.thnH, Ex.inBlockH, ↓reduceIte, Nat.reduceEqDiff]
            exact ⟨[_], ⟨rfl, trivial⟩, H, lhA, true, rfl, (fun h => by cases h), rfl⟩
        · first
          | (exfalso; exact cnA c19; done)
          | skip
            (try simp only [decide_eq_true_eq, decide_eq_false_iff_not, Bool.not_eq_true, Bool.not_eq_false, Bool.and_eq_true, Bool.or_eq_true, Bool.or_eq_false_iff, Bool.not_eq_true, Bool.not_eq_eq_eq_not, Bool.not_true, Bool.not_false] at c19)
            refine CW_skip ?_
            try simp only [Ex.thnH, Ex.inBlockH, ↓reduceIte, Nat.reduceEqDiff]
            refine hK6 _ _ ?_; try clear hK6 K6
            refine CW_region ?_
            refine OW_opS (fun K hK r => ?_)
            simp (disch := (first | omega | decide)) only [x_bin, g_int, b_add, wrap_i64, wrap_u64, wrap_u32, wrap_u8, eX, ↓reduceIte, Nat.reduceEqDiff, Int.reduceToNat]
            refine hK _ _ ?_; clear hK K
            refine OW_mv rfl ?_
            refine OW_nil ?_
            try simp only [Ex.thnH, Ex.inBlockH, ↓reduceIte, Nat.reduceEqDiff]
            refine ⟨81 - (k + 1), by omega, k + 1, by omega, by omega, rfl, (fun j hj => ?_), lhA, rfl, rfl, rfl, trivial⟩
            by_cases e : j = k
            · subst e; omega
            · exact hno j (by omega)
  · first
    | (exfalso; exact cnA c8; done)
    | skip
      (try simp only [decide_eq_true_eq, decide_eq_false_iff_not, Bool.not_eq_true, Bool.not_eq_false, Bool.and_eq_true, Bool.or_eq_true, Bool.or_eq_false_iff, Bool.not_eq_true, Bool.not_eq_eq_eq_not, Bool.not_true, Bool.not_false] at c8)
      have hkn : k = l.length := by omega
      refine CW_exit ?_
      try simp only [Ex.thnH, Ex.inBlockH, ↓reduceIte, Nat.reduceEqDiff]
      refine hK2 _ _ ?_; try clear hK2 K2
      refine CW_seq (fun K10 hK10 => ?_)
      refine CW_region ?_
      refine OW_as rfl ?_
      refine OW_nil ?_
      try simp only [Ex.thnH, Ex.inBlockH, ↓reduceIte, Nat.reduceEqDiff]
      refine hK10 _ _ ?_; try clear hK10 K10
      refine CW_ret ?_
      try simp only [Ex.thnH, Ex.inBlockH, ↓reduceIte, Nat.reduceEqDiff]
      subst hkn
      exact ⟨[_], ⟨rfl, trivial⟩, H, lhA, false, rfl, (fun _ => ⟨hk81, hno⟩), rfl⟩

end Go.Proofs.Ytkmjncmdhinlgaa.HL
end
section
namespace Go.Proofs.Ytkmjncmdhinlgaa.HL
open Go Go.Proofs
set_option linter.unusedSimpArgs false
set_option linter.unusedVariables false
attribute [local irreducible] Lt Lq CW OW TW CallH


/-- a device by the document -/
structure RDv where
  sec : List Sec
  wait : List Wt
deriving Inhabited
structure RSt where
  dv : List RDv
  steps : Int
  left : Int
  armed : Bool
  gone : Bool
/-- where a device lies -/
structure RDX where
  sa : Option Addr
  sc : Nat
  wa : Option Addr
  wc : Nat
  d : RDv
deriving Inhabited
abbrev secs (l : List Sec) : List Value := l.flatMap Sec.c
abbrev RDX.c (x : RDX) : List Value := [.slice x.sa x.d.sec.length x.sc, .slice x.wa x.d.wait.length x.wc]
theorem RDX.len (x : RDX) : x.c.length = 2 := rfl
structure RDX.ok (H : Hp) (x : RDX) : Prop where
  s : Holds H 64 (.slice x.sa x.d.sec.length x.sc) x.d.sec.length (secs x.d.sec)
  w : Holds H 65 (.slice x.wa x.d.wait.length x.wc) x.d.wait.length (wts x.d.wait)
theorem RDX.ok.le {H K : Hp} {x : RDX} (h : x.ok H) (k : Le H K) : x.ok K := ⟨h.s.le k, h.w.le k⟩
/-- the devices of a set by the document -/
structure RX (H : Hp) (a : Option Addr) (cap : Nat) (X : List RDX) : Prop where
  h : Holds H 2 (.slice a X.length cap) X.length (X.flatMap RDX.c)
  ok : ∀ x ∈ X, x.ok H
theorem RX.le {H K : Hp} {a : Option Addr} {cap : Nat} {X : List RDX} (h : RX H a cap X) (k : Le H K) : RX K a cap X := ⟨h.h.le k, fun x hx => (h.ok x hx).le k⟩
abbrev rdv (X : List RDX) : List RDv := X.map RDX.d
abbrev RSt.c (m : RSt) (dvv : Value) : List Value := [dvv, .int .i64 m.steps, .int .i64 m.left, .bool m.armed, .bool m.gone]
abbrev RSt.v (m : RSt) (dvv : Value) : Value := .agg (m.c dvv).toArray
def RSt.has (m : RSt) (dev i : Int) : Bool := decide (0 ≤ dev ∧ dev < m.dv.length) && decide (0 ≤ i ∧ i < (m.dv.getD dev.toNat default).sec.length)
def RSt.step (m : RSt) : RSt × Bool :=
  if m.gone = true then (m, false) else if m.armed = true ∧ m.left = 0 then ({ m with gone := true }, false) else ({ m with left := if m.armed = true then IntKind.i64.wrap (m.left - 1) else m.left, steps := IntKind.i64.wrap (m.steps + 1) }, true)
theorem RSt.step_dv (m : RSt) : m.step.1.dv = m.dv := by unfold RSt.step; split; rfl; split <;> rfl
def RSt.put (m : RSt) (dev i : Int) (x : Sec) : RSt × Int :=
  if m.has dev i = true then (match m.step with | (t, true) => ({ t with dv := t.dv.set dev.toNat ⟨(t.dv.getD dev.toNat default).sec, (t.dv.getD dev.toNat default).wait ++ [⟨i, x⟩]⟩ }, 0) | (t, false) => (t, 3)) else (m, 1)
def doneL (l : List Sec) (w : List Wt) : List Sec := w.foldl (fun l w => l.set w.at_.toNat w.x) l
def RSt.fl (m : RSt) (dev : Int) : RSt × Int :=
  if 0 ≤ dev ∧ dev < m.dv.length then (match m.step with | (t, true) => ({ t with dv := t.dv.set dev.toNat ⟨doneL (t.dv.getD dev.toNat default).sec (t.dv.getD dev.toNat default).wait, []⟩ }, 0) | (t, false) => (t, 3)) else (m, 1)
def RSt.rd (m : RSt) (dev i : Int) : Sec × Int :=
  if m.gone = true then (Sec.zero, 3) else if m.has dev i = true then ((lastW (m.dv.getD dev.toNat default).wait i).getD ((m.dv.getD dev.toNat default).sec.getD i.toNat default), 0) else (Sec.zero, 1)

end Go.Proofs.Ytkmjncmdhinlgaa.HL
end
section
namespace Go.Proofs.Ytkmjncmdhinlgaa.HL
open Go Go.Proofs
set_option linter.unusedSimpArgs false
set_option linter.unusedVariables false
attribute [local irreducible] Lt Lq CW OW TW CallH


theorem flat_set {α : Type} {f : α → List Value} {wd : Nat} (hw : ∀ a, (f a).length = wd) : ∀ (X : List α) (i : Nat) (y : α), i < X.length → (X.set i y).flatMap f = (X.flatMap f).take (i * wd) ++ f y ++ (X.flatMap f).drop (i * wd + wd)
  | [], i, y, h => absurd h (by simp)
  | x :: r, 0, y, _ => by
    simp only [List.set_cons_zero, List.flatMap_cons, Nat.zero_mul, List.take_zero, List.nil_append, Nat.zero_add]
    rw [List.drop_append_of_le_length (by rw [hw]; exact Nat.le_refl _), List.drop_eq_nil_of_le (by rw [hw]; exact Nat.le_refl _), List.nil_append]
  | x :: r, i + 1, y, h => by
    simp only [List.set_cons_succ, List.flatMap_cons]
    rw [flat_set hw r i y (by simpa using h)]
    have e : (i + 1) * wd = wd + i * wd := by rw [Nat.succ_mul]; omega
    have e1 : ((i + 1) * wd) - (f x).length = i * wd := by rw [hw, e]; omega
    have e2 : ((i + 1) * wd + wd) - (f x).length = i * wd + wd := by rw [hw, e]; omega
    have t1 : List.take ((i + 1) * wd) (f x) = f x := List.take_of_length_le (by rw [hw, e]; omega)
    have t2 : List.drop ((i + 1) * wd + wd) (f x) = [] := List.drop_eq_nil_of_le (by rw [hw, e]; omega)
    rw [List.take_append, List.drop_append, e1, e2, t1, t2]
    simp
/-- a row is stored into one's own slice -/
theorem OwnS.row {α : Type} {f : α → List Value} {wd : Nat} (hw : ∀ a, (f a).length = wd) {H : Hp} {E : TypeId} {r n cap : Nat} {X : List α} {c : Array Value} (h : OwnS H E wd (.slice (some ⟨r, 0, none⟩) n cap) n (X.flatMap f) (some r)) (hc : H r = some (.cells c E)) (hn : n = X.length) {i : Nat} (hi : i < n) (y : α) : OwnS (H.upd r (.cells (putCells c (i * wd) (f y)) E)) E wd (.slice (some ⟨r, 0, none⟩) n cap) n ((X.set i y).flatMap f) (some r) := by
  obtain ⟨h1, ⟨h2, _, _⟩ | ⟨r', cap', c', h3, h4, h5, h6, h7, h8⟩⟩ := h
  · cases h2
  · cases h3
    rw [hc] at h4; cases h4
    have m1 := Nat.mul_le_mul_right wd (show i + 1 ≤ n by omega)
    have m2 := Nat.mul_le_mul_right wd h5
    rw [Nat.succ_mul] at m1
    have hsz : i * wd + (f y).length ≤ c.size := by rw [hw, h6]; omega
    have hpl := putCells_toList (f y) c (i * wd) hsz
    refine ⟨by rw [flat_size hw, List.length_set, hn], .inr ⟨r, cap, _, rfl, upd_same _ _ _, h5, ?_, ?_, rfl⟩⟩
    · have hl : (putCells c (i * wd) (f y)).toList.length = c.toList.length := by
        rw [hpl]; simp only [List.length_append, List.length_take, List.length_drop, Array.length_toList]; omega
      rw [Array.length_toList, Array.length_toList] at hl
      rw [hl, h6]
    · rw [flat_set hw X i y (by omega), ← h7]
      simp only [Array.toList_extract, List.extract_eq_take_drop, List.drop_zero, Nat.sub_zero, hpl]
      apply List.ext_getElem?
      intro j
      have hfl := hw y
      simp only [List.getElem?_take, List.getElem?_append, List.getElem?_drop, List.length_take, List.length_append, Array.length_toList]
      have q1 : min (i * wd) c.size = i * wd := by omega
      have q2 : min (i * wd) (min (n * wd) c.size) = i * wd := by omega
      rw [q1, q2, hfl]
      by_cases a1 : j < i * wd
      · have a2 : j < i * wd + wd := by omega
        have a3 : j < n * wd := by omega
        simp [a1, a2, a3]
      · by_cases a2 : j < i * wd + wd
        · have a3 : j < n * wd := by omega
          simp [a1, a2, a3]
        · have e3 : i * wd + wd + (j - (i * wd + wd)) = j := by omega
          simp only [a1, a2, if_false, e3]

end Go.Proofs.Ytkmjncmdhinlgaa.HL
end
section
namespace Go.Proofs.Ytkmjncmdhinlgaa.HL
open Go Go.Proofs
set_option linter.unusedSimpArgs false
set_option linter.unusedVariables false
attribute [local irreducible] Lt Lq CW OW TW CallH


theorem rput_cases (m : RSt) (dev i : Int) (x : Sec) : (m.has dev i = false ∧ m.put dev i x = (m, 1)) ∨ (m.has dev i = true ∧ m.step.2 = false ∧ m.put dev i x = (m.step.1, 3)) ∨ (m.has dev i = true ∧ m.step.2 = true ∧ m.put dev i x = ({ m.step.1 with dv := m.dv.set dev.toNat ⟨(m.dv.getD dev.toNat default).sec, (m.dv.getD dev.toNat default).wait ++ [⟨i, x⟩]⟩ }, 0)) := by
  unfold RSt.put
  by_cases h : m.has dev i = true
  · rw [if_pos h]
    have hd := m.step_dv
    generalize hq : m.step = q at *
    obtain ⟨t, b⟩ := q
    cases b with
    | true => exact .inr (.inr ⟨h, rfl, by simp only at hd; rw [← hd]⟩)
    | false => exact .inr (.inl ⟨h, rfl, rfl⟩)
  · rw [if_neg h]; exact .inl ⟨by simpa using h, rfl⟩

end Go.Proofs.Ytkmjncmdhinlgaa.HL
end
section
namespace Go.Proofs.Ytkmjncmdhinlgaa.HL
open Go Go.Proofs
set_option linter.unusedSimpArgs false
set_option linter.unusedVariables false
attribute [local irreducible] Lt Lq CW OW TW CallH


theorem doneL_len (W : List Wt) : ∀ (L : List Sec), (doneL L W).length = L.length := by
  induction W with
  | nil => intro L; rfl
  | cons w r ih => intro L; show (doneL (L.set _ _) r).length = _; rw [ih]; simp
theorem doneL_next (L : List Sec) (W : List Wt) (k : Nat) (hk : k < W.length) : doneL L (W.take (k + 1)) = (doneL L (W.take k)).set (W.getD k default).at_.toNat (W.getD k default).x := by
  unfold doneL
  rw [List.take_add_one, List.getElem?_eq_getElem hk, List.foldl_append]
  simp [List.getD_eq_getElem?_getD, List.getElem?_eq_getElem hk]
end Go.Proofs.Ytkmjncmdhinlgaa.HL
end
section
namespace Go.Proofs.Ytkmjncmdhinlgaa.HL
open Go Go.Proofs
set_option linter.unusedSimpArgs false
set_option linter.unusedVariables false
attribute [local irreducible] Lt Lq CW OW TW CallH


theorem rfl_cases (m : RSt) (dev : Int) : (¬ (0 ≤ dev ∧ dev < m.dv.length) ∧ m.fl dev = (m, 1)) ∨ ((0 ≤ dev ∧ dev < m.dv.length) ∧ m.step.2 = false ∧ m.fl dev = (m.step.1, 3)) ∨ ((0 ≤ dev ∧ dev < m.dv.length) ∧ m.step.2 = true ∧ m.fl dev = ({ m.step.1 with dv := m.dv.set dev.toNat ⟨doneL (m.dv.getD dev.toNat default).sec (m.dv.getD dev.toNat default).wait, []⟩ }, 0)) := by
  unfold RSt.fl
  by_cases h : 0 ≤ dev ∧ dev < m.dv.length
  · rw [if_pos h]
    have hd := m.step_dv
    generalize hq : m.step = q at *
    obtain ⟨t, b⟩ := q
    cases b with
    | true => exact .inr (.inr ⟨h, rfl, by simp only at hd; rw [← hd]⟩)
    | false => exact .inr (.inl ⟨h, rfl, rfl⟩)
  · rw [if_neg h]; exact .inl ⟨h, rfl⟩
structure RG (n : Nat) (d : RDv) : Prop where
  lo : 0 < d.sec.length
  hi : d.sec.length ≤ 5000
  w : d.wait.length ≤ n
  at_ : ∀ k, k < d.wait.length → 0 ≤ (d.wait.getD k default).at_ ∧ (d.wait.getD k default).at_ < d.sec.length

end Go.Proofs.Ytkmjncmdhinlgaa.HL
end
section
namespace Go.Proofs.Ytkmjncmdhinlgaa.HL
open Go Go.Proofs
set_option linter.unusedSimpArgs false
set_option linter.unusedVariables false
attribute [local irreducible] Lt Lq CW OW TW CallH

end Go.Proofs.Ytkmjncmdhinlgaa.HL
end
section
namespace Go.Proofs.Ytkmjncmdhinlgaa.HL
open Go Go.Proofs
set_option linter.unusedSimpArgs false
set_option linter.unusedVariables false
attribute [local irreducible] Lt Lq CW OW TW CallH


def newR (n : Int) : RDv := ⟨List.replicate n.toNat Sec.zero, []⟩
def newRs (l : List Int) : RSt := ⟨l.map newR, 0, 0, false, false⟩
/-- so many devices of a new set, by the document -/
structure NR (H0 H : Hp) (l : List Int) (k : Nat) (v : Value) (rs : Option Nat) (X : List RDX) (G : Hp) : Prop where
  len : X.length = k
  own : OwnS H 98 2 v k (X.flatMap RDX.c) rs
  ok : ∀ x ∈ X, x.ok G
  le : Le G H
  fr : ∀ b, G b ≠ none → H0 b = none
  frr : ∀ r, rs = some r → H0 r = none ∧ G r = none
  old : Le H0 H
  dv : rdv X = (l.take k).map newR
end Go.Proofs.Ytkmjncmdhinlgaa.HL
end
section
namespace Go.Proofs.Ytkmjncmdhinlgaa.HL
open Go Go.Proofs
set_option linter.unusedSimpArgs false
set_option linter.unusedVariables false
attribute [local irreducible] Lt Lq CW OW TW CallH


theorem NR.next {H0 H HF : Hp} {l : List Int} {k : Nat} {v : Value} {rs : Option Nat} {X : List RDX} {G : Hp} (h : NR H0 H l k v rs X G) (hk : k < l.length) {b : Nat} (hb : H b = none) {v' : Value} {rs' : Option Nat}
    (hown : OwnS HF 98 2 v' (k + 1) (X.flatMap RDX.c ++ [.slice (some ⟨b, 0, none⟩) (l.getD k default).toNat (l.getD k default).toNat, .slice none 0 0]) rs') (hfb : HF b = some (.cells (secs (List.replicate (l.getD k default).toNat Sec.zero)).toArray 38))
    (hkeep : ∀ x o, H x = some o → (G x ≠ none ∨ H0 x ≠ none) → HF x = some o) (hr : ∀ r, rs' = some r → rs = some r ∨ (H r = none ∧ r ≠ b)) :
    NR H0 HF l (k + 1) v' rs' (X ++ [⟨some ⟨b, 0, none⟩, (l.getD k default).toNat, none, 0, newR (l.getD k default)⟩]) (G.upd b (.cells (secs (List.replicate (l.getD k default).toNat Sec.zero)).toArray 38)) := by
  have hGb : G b = none := none_of_le h.le hb
  refine ⟨by simp [h.len], ?_, fun x hx => ?_, ?_, fun x hx => ?_, fun r e => ?_, fun x o hx => hkeep x o (h.old x o hx) (.inr (by rw [hx]; simp)), ?_⟩
  · rw [List.flatMap_append]
    simpa [RDX.c, newR] using hown
  · rcases List.mem_append.1 hx with h1 | h1
    · exact (h.ok x h1).le (le_upd _ _ _ hGb)
    · simp at h1
      subst h1
      refine ⟨?_, ⟨rfl, .inl ⟨none, 0, rfl, rfl⟩⟩⟩
      have e : (newR (l.getD k default)).sec.length = (l.getD k default).toNat := by simp [newR]
      refine ⟨by rw [flat_size Sec.len], .inr ⟨b, 0, _, _, _, _, rfl, upd_same _ _ _, ?_, ?_⟩⟩
      · simp only [List.size_toArray, flat_size Sec.len]
        simp [newR]
      · rw [Array.toList_extract, List.extract_eq_take_drop]
        refine List.take_of_length_le ?_
        simp only [List.drop_zero, List.toList_toArray, flat_size Sec.len]
        simp [newR]
  · exact le_put (fun x o hx => hkeep x o (h.le x o hx) (.inl (by rw [hx]; simp))) hfb
  · by_cases e : x = b
    · subst e; exact none_of_le h.old hb
    · rw [upd_ne _ _ e] at hx; exact h.fr x hx
  · rcases hr r e with h1 | ⟨h1, h2⟩
    · refine ⟨(h.frr r h1).1, (upd_ne _ _ (fun e2 => ?_)).trans (h.frr r h1).2⟩
      subst e2; exact h.own.known r h1 hb
    · exact ⟨none_of_le h.old h1, (upd_ne _ _ h2).trans (none_of_le h.le h1)⟩
  · rw [List.take_add_one, List.getElem?_eq_getElem hk, List.map_append, ← h.dv]
    simp [rdv, List.getD_eq_getElem?_getD, List.getElem?_eq_getElem hk]

end Go.Proofs.Ytkmjncmdhinlgaa.HL
end
section
namespace Go.Proofs.Ytkmjncmdhinlgaa.HL
open Go Go.Proofs
set_option linter.unusedSimpArgs false
set_option linter.unusedVariables false
attribute [local irreducible] Lt Lq CW OW TW CallH

end Go.Proofs.Ytkmjncmdhinlgaa.HL
end
section
namespace Go.Proofs.Ytkmjncmdhinlgaa.HL
open Go Go.Proofs
set_option linter.unusedSimpArgs false
set_option linter.unusedVariables false
attribute [local irreducible] Lt Lq CW OW TW CallH


theorem Kp.plain (k : Kp) : PlainL k.c := PlainL.cons (plain_int _ _) (PlainL.cons (plain_int _ _) (PlainL.cons (plain_int _ _) PlainL.nil))
theorem take_next {l : List Kp} {k : Nat} (hk : k < l.length) : kps (l.take (k + 1)) = kps (l.take k) ++ (l.getD k default).c := by
  rw [List.take_add_one, List.getElem?_eq_getElem hk, List.getD_eq_getElem?_getD, List.getElem?_eq_getElem hk]
  simp only [kps, List.flatMap_append, Option.toList_some, List.flatMap_cons, List.flatMap_nil, List.append_nil, Option.getD_some]

set_option maxRecDepth 100000 in
set_option maxHeartbeats 4000000 in
theorem keeps_ok (H : Hp) (a : Option Addr) (cap : Nat) (l : List Kp) (hv : Holds H 3 (.slice a l.length cap) l.length (kps l)) (hl : l.length ≤ 1000) : CallH Try.prog 15 #[.slice a l.length cap] H (fun v H' => Le H H' ∧ ∃ rs, OwnS H' 68 3 v l.length (kps l) rs ∧ ∀ r, rs = some r → H r = none) := by
  refine CallH_enter (l := [_]) (rl := [.tmp 2]) (n := 19) Try.func15 rfl rfl rfl rfl rfl ?_
  simp only [envOf, Nat.reduceAdd]
  refine CW_seq (fun K1 hK1 => ?_)
  refine CW_region ?_
  refine OW_as rfl ?_
  refine OW_nil ?_
  try simp only [Ex.thnH, Ex.inBlockH, ↓reduceIte, Nat.reduceEqDiff]
  refine hK1 _ _ ?_; try clear hK1 K1
  refine CW_seq (fun K2 hK2 => ?_)
  refine CW_region ?_
  refine OW_opS (fun K hK r => ?_)
  simp only [x_buildSlice, List.map_toArray, List.map_cons, List.map_nil, eX, ↓reduceIte, Nat.reduceEqDiff, Int.reduceToNat]
  refine Lt_buildSlice (vs := []) Try.underlying44 sz68 zr68 rfl bsA (by first | decide | (simp; done)) ?_
  simp only [List.flatMap_cons, List.flatMap_nil, Value.cells, List.append_nil, List.cons_append, List.nil_append, List.length_cons, List.length_nil, Nat.zero_add, Nat.reduceAdd]
  intro b6 hb6
  have f6_H : H b6 = none := none_of_le lhA hb6
  try simp only [eX, ↓reduceIte, Nat.reduceEqDiff, Int.reduceToNat]
  refine hK _ _ ?_; clear hK K
  refine OW_as rfl ?_
  refine OW_nil ?_
  try simp only [Ex.thnH, Ex.inBlockH, ↓reduceIte, Nat.reduceEqDiff]
  refine hK2 _ _ ?_; try clear hK2 K2
  refine CW_seq (fun K3 hK3 => ?_)
  refine CW_seq (fun K4 hK4 => ?_)
  refine CW_region ?_
  refine OW_mv rfl ?_
  refine OW_opS (fun K hK r => ?_)
  simp only [x_builtin, l_len, List.map_toArray, List.map_cons, List.map_nil, i_len_slice _ _ Try.underlying23, eX, ↓reduceIte, Nat.reduceEqDiff, Int.reduceToNat]
  refine hK _ _ ?_; clear hK K
  refine OW_mv rfl ?_
  refine OW_nil ?_
  try simp only [Ex.thnH, Ex.inBlockH, ↓reduceIte, Nat.reduceEqDiff]
  refine hK4 _ _ ?_; try clear hK4 K4
  refine CW_block ?_
  refine CW_loop (fun m e H_ => ∃ (k : Nat) (v : Value) (rs : Option Nat), k ≤ l.length ∧ m = l.length - k ∧ Le H H_ ∧ OwnS H_ 68 3 v k (kps (l.take k)) rs ∧ (∀ r, rs = some r → H r = none) ∧ Env.has [(3, v), (7, .slice a l.length cap), (8, .int .i64 l.length), (9, .int .i64 k)] e) (l.length) ?_ ?_
  · skip
    exact ⟨0, _, some b6, by omega, by omega, lhA, ⟨by simp, .inr ⟨b6, 0, #[], rfl, upd_same _ _ _, Nat.le_refl _, by simp, by simp, rfl⟩⟩, (fun r hr => by cases hr; exact f6_H), rfl, rfl, rfl, rfl, trivial⟩
  intro m_ e_ H_ hI_
  obtain ⟨k, v, rs, hk, rfl, hlH, hO, hrs, he⟩ := hI_
  refine CW_env he.sub ?_; clear he e_
  obtain ⟨va, vc, rfl⟩ := hO.holds.form
  refine CW_seq (fun K5 hK5 => ?_)
  refine CW_region ?_
  refine OW_opS (fun K hK r => ?_)
  simp (disch := (first | omega | decide)) only [x_bin, g_int, b_lss, dec_lt_t, dec_lt_f, dec_le_t, dec_le_f, dec_eq_t, dec_eq_f, Bool.not_true, Bool.not_false, eX, ↓reduceIte, Nat.reduceEqDiff, Int.reduceToNat]
  refine hK _ _ ?_; clear hK K
  refine OW_nil ?_
  try simp only [Ex.thnH, Ex.inBlockH, ↓reduceIte, Nat.reduceEqDiff]
  refine hK5 _ _ ?_; try clear hK5 K5
  refine CW_seq (fun K6 hK6 => ?_)
  refine CW_cond (fun r => rfl) (fun c10 => ?_) (fun c10 => ?_)
  · first
    | (exfalso; exact cnA c10; done)
    | skip
      (try simp only [decide_eq_true_eq, decide_eq_false_iff_not, Bool.not_eq_true, Bool.not_eq_false, Bool.and_eq_true, Bool.or_eq_true, Bool.or_eq_false_iff, Bool.not_eq_true, Bool.not_eq_eq_eq_not, Bool.not_true, Bool.not_false] at c10)
      obtain ⟨bw, ow, cw, Tw, Fw, ew, hbw, hsw, atw⟩ := hv.at (by omega)
      have mm := Nat.mul_le_mul_right 3 (show k + 1 ≤ l.length by omega)
      refine CW_skip ?_
      try simp only [Ex.thnH, Ex.inBlockH, ↓reduceIte, Nat.reduceEqDiff]
      refine hK6 _ _ ?_; try clear hK6 K6
      refine CW_seq (fun K7 hK7 => ?_)
      refine CW_block ?_
      refine CW_seq (fun K8 hK8 => ?_)
      refine CW_region ?_
      refine OW_opS (fun K hK r => ?_)
      simp only [x_indexAddr, eX, ↓reduceIte, Nat.reduceEqDiff, Int.reduceToNat]
      refine Lt_indexSof Try.underlying23 sz42 ew ixA ixA ?_
      try simp only [Int.toNat_natCast]
      refine hK _ _ ?_; clear hK K
      refine OW_opS (fun K hK r => ?_)
      simp only [x_load, eX, ↓reduceIte, Nat.reduceEqDiff, Int.reduceToNat]
      refine Lt_loadAtA Try.underlying42 rfl sz42 (hlH _ _ hbw) (by omega) ?_
      rw [ext_at Kp.len atw rfl k (by omega) hsw]
      refine hK _ _ ?_; clear hK K
      refine OW_opS (fun K hK r => ?_)
      simp only [x_alloc, zr42, orF_some, Value.cells, eX, ↓reduceIte, Nat.reduceEqDiff, Int.reduceToNat]
      intro b5 hb5
      try have n5_b6 : b6 ≠ b5 := ne_of_none hbA hb5
      have f5_H : H b5 = none := none_of_le lhA hb5
      try simp only [eX, ↓reduceIte, Nat.reduceEqDiff, Int.reduceToNat]
      refine hK _ _ ?_; clear hK K
      refine OW_op rfl (lt_none) (fun K hK r => ?_)
      simp only [x_store, eX, ↓reduceIte, Nat.reduceEqDiff, Int.reduceToNat]
      first | refine Lt_storeAll sz42 bdA hbA bdA plA (by decide) ?_ | refine Lt_storeAtA sz42 bdA hbA bdA plA (by decide) ?_
      try simp only [eX, ↓reduceIte, Nat.reduceEqDiff, Int.reduceToNat]
      refine hK _ _ ?_; clear hK K
      refine OW_nil ?_
      try simp only [Ex.thnH, Ex.inBlockH, ↓reduceIte, Nat.reduceEqDiff]
      refine hK8 _ _ ?_; try clear hK8 K8
      refine CW_region ?_
      refine OW_mv rfl ?_
      refine OW_opS (fun K hK r => ?_)
      simp only [x_load, eX, ↓reduceIte, Nat.reduceEqDiff, Int.reduceToNat]
      first | refine Lt_loadAll Try.underlying42 rfl sz42 hbA bdA ?_ | refine Lt_loadAtA Try.underlying42 rfl sz42 hbA bdA ?_
      try simp only [List.extract_toArray, List.extract_eq_take_drop, Nat.zero_add, Nat.reduceAdd, Nat.reduceSub, Nat.sub_zero, List.drop_succ_cons, List.drop_zero, List.take_succ_cons, List.take_zero, List.take_nil, List.drop_nil]
      try simp only [eX, ↓reduceIte, Nat.reduceEqDiff, Int.reduceToNat]
      refine hK _ _ ?_; clear hK K
      refine OW_opS (fun K hK r => ?_)
      simp only [x_buildSlice, List.map_toArray, List.map_cons, List.map_nil, eX, ↓reduceIte, Nat.reduceEqDiff, Int.reduceToNat]
      refine Lt_buildSlice (vs := [_]) Try.underlying44 sz68 zr68 rfl bsA (by first | decide | (simp; done)) ?_
      simp only [List.flatMap_cons, List.flatMap_nil, Value.cells, List.append_nil, List.cons_append, List.nil_append, List.length_cons, List.length_nil, Nat.zero_add, Nat.reduceAdd]
      intro b15 hb15
      try have n15_b6 : b6 ≠ b15 := ne_of_none hbA hb15
      try have n15_b5 : b5 ≠ b15 := ne_of_none hbA hb15
      have f15_H : H b15 = none := none_of_le lhA hb15
      try simp only [eX, ↓reduceIte, Nat.reduceEqDiff, Int.reduceToNat]
      refine hK _ _ ?_; clear hK K
      refine OW_opS (fun K hK r => ?_)
      simp only [x_builtin, l_append, List.map_toArray, List.map_cons, List.map_nil, eX, ↓reduceIte, Nat.reduceEqDiff, Int.reduceToNat]
      have h5 : H_ b5 = none := hb5
      have n515 : b5 ≠ b15 := ne_of_none hbA hb15
      have h15 : H_ b15 = none := none_of_le (le_upd _ _ _ h5) hb15
      refine Lt_append Try.underlying44 Try.underlying44 (by simp) sz68 by68 (by decide) zr68 rfl _ (n := k) (m := 1) (ds := (l.getD k default).c) ((hO.make h5).make hb15) (fun Kx => len_slice _ _ _ Kx) (fun Kx => first_slice (w := 3) (n := 1) (cs := (l.getD k default).c) ⟨rfl, .inr ⟨b15, 0, 1, _, _, _, rfl, hbA, by simp, by simp⟩⟩ Kx) rfl (Kp.plain _) (by omega) ?_
      intro v16 H16 rs16 hg16 ho16 hr16
      obtain ⟨wa16, wc16, rfl⟩ := ho16.holds.form
      rw [← take_next (by omega)] at ho16
      have l16 : Le H H16 := fun z o hz => hg16.known z o ((upd_ne _ _ (ne_of_none (hlH _ _ hz) h15)).trans ((upd_ne _ _ (ne_of_none (hlH _ _ hz) h5)).trans (hlH _ _ hz))) (fun e => by rw [hrs z e] at hz; cases hz)
      have hrs16 : ∀ r, rs16 = some r → H r = none := fun r e => (hr16 r e).elim (hrs r) (fun hn => none_of_le hlH (upd_none (upd_none hn)))
      refine hK _ _ ?_; clear hK K
      refine OW_as rfl ?_
      refine OW_nil ?_
      try simp only [Ex.thnH, Ex.inBlockH, ↓reduceIte, Nat.reduceEqDiff]
      refine hK7 _ _ ?_; try clear hK7 K7
      refine CW_region ?_
      refine OW_opS (fun K hK r => ?_)
      simp (disch := (first | omega | decide)) only [x_bin, g_int, b_add, wrap_i64, wrap_u64, wrap_u32, wrap_u8, eX, ↓reduceIte, Nat.reduceEqDiff, Int.reduceToNat]
      refine hK _ _ ?_; clear hK K
      refine OW_mv rfl ?_
      refine OW_nil ?_
      try simp only [Ex.thnH, Ex.inBlockH, ↓reduceIte, Nat.reduceEqDiff]
      exact ⟨l.length - (k + 1), by omega, k + 1, _, rs16, by omega, rfl, l16, ho16, hrs16, rfl, rfl, rfl, rfl, trivial⟩
  · first
    | (exfalso; exact cnA c10; done)
    | skip
      (try simp only [decide_eq_true_eq, decide_eq_false_iff_not, Bool.not_eq_true, Bool.not_eq_false, Bool.and_eq_true, Bool.or_eq_true, Bool.or_eq_false_iff, Bool.not_eq_true, Bool.not_eq_eq_eq_not, Bool.not_true, Bool.not_false] at c10)
      have hkn : k = l.length := by omega
      refine CW_exit ?_
      try simp only [Ex.thnH, Ex.inBlockH, ↓reduceIte, Nat.reduceEqDiff]
      refine hK3 _ _ ?_; try clear hK3 K3
      refine CW_seq (fun K9 hK9 => ?_)
      refine CW_region ?_
      refine OW_mv rfl ?_
      refine OW_as rfl ?_
      refine OW_nil ?_
      try simp only [Ex.thnH, Ex.inBlockH, ↓reduceIte, Nat.reduceEqDiff]
      refine hK9 _ _ ?_; try clear hK9 K9
      refine CW_ret ?_
      try simp only [Ex.thnH, Ex.inBlockH, ↓reduceIte, Nat.reduceEqDiff]
      subst hkn
      rw [List.take_of_length_le (Nat.le_refl _)] at hO
      exact ⟨[_], ⟨rfl, trivial⟩, _, Le.refl _, hlH, rs, hO, hrs⟩

end Go.Proofs.Ytkmjncmdhinlgaa.HL
end
section
namespace Go.Proofs.Ytkmjncmdhinlgaa.HL
open Go Go.Proofs
set_option linter.unusedSimpArgs false
set_option linter.unusedVariables false
attribute [local irreducible] Lt Lq CW OW TW CallH


/-- so many bytes of one sector, the rest of another -/
def mixS (x old : Sec) (b : Nat) : Sec := ⟨x.b.take b ++ old.b.drop b, by have := x.h; have := old.h; simp; omega⟩
def crW (kept : Nat → Option Int) (ws : List Wt) (sec : List Sec) : Nat → List Sec
  | 0 => sec
  | n + 1 => match kept n with
    | none => crW kept ws sec n
    | some t => (crW kept ws sec n).set (ws.getD n default).at_.toNat (torn (ws.getD n default).x ((crW kept ws sec n).getD (ws.getD n default).at_.toNat default) t)
theorem crW_len (kept : Nat → Option Int) (ws : List Wt) (sec : List Sec) : ∀ n, (crW kept ws sec n).length = sec.length
  | 0 => rfl
  | n + 1 => by
    unfold crW
    split
    · exact crW_len kept ws sec n
    · rw [List.length_set]; exact crW_len kept ws sec n
def RDv.settle (d : RDv) (kept : Nat → Option Int) : RDv := ⟨crW kept d.wait d.sec d.wait.length, []⟩
def RSt.cr (m : RSt) (l : List Kp) : RSt := ⟨m.dv.mapIdx (fun i d => d.settle (fun n => keepOf l i n)), m.steps, m.left, false, false⟩

end Go.Proofs.Ytkmjncmdhinlgaa.HL
end
section
namespace Go.Proofs.Ytkmjncmdhinlgaa.HL
open Go Go.Proofs
set_option linter.unusedSimpArgs false
set_option linter.unusedVariables false
attribute [local irreducible] Lt Lq CW OW TW CallH


/-- a device and the document's -/
structure RlD (s : Dv) (m : RDv) : Prop where
  sz : s.size = m.sec.length
  su : ∀ i, s.sure i = if 0 ≤ i ∧ i < m.sec.length then m.sec.getD i.toNat default else Sec.zero
  wa : s.wait = m.wait
  at_ : ∀ k, k < m.wait.length → 0 ≤ (m.wait.getD k default).at_ ∧ (m.wait.getD k default).at_ < m.sec.length
/-- a set and the document's -/
structure Rl (s : St) (m : RSt) : Prop where
  st : s.steps = m.steps
  go : s.gone = m.gone
  ar : s.armed = m.armed
  le : m.armed = true → s.left = m.left ∧ 0 ≤ m.left
  len : s.dv.length = m.dv.length
  dv : ∀ i, i < m.dv.length → RlD (s.dv.getD i default) (m.dv.getD i default)
theorem Rl.step {s : St} {m : RSt} (h : Rl s m) (hl : m.armed = true → m.left ≤ 9223372036854775807) : s.step.2 = m.step.2 ∧ Rl s.step.1 m.step.1 := by
  have hs := step_dv s
  have hm := m.step_dv
  unfold St.step RSt.step at *
  by_cases hg : m.gone = true
  · rw [if_pos (.inl (by rw [h.go]; exact hg)), if_pos hg]
    exact ⟨rfl, ⟨h.st, by rw [hg], h.ar, h.le, h.len, h.dv⟩⟩
  · by_cases ha : m.armed = true ∧ m.left = 0
    · have h1 := h.le ha.1
      rw [if_pos (.inr ⟨by rw [h.ar]; exact ha.1, by omega⟩), if_neg hg, if_pos ha]
      exact ⟨rfl, ⟨h.st, rfl, h.ar, h.le, h.len, h.dv⟩⟩
    · have hn : ¬ (s.gone = true ∨ (s.armed = true ∧ s.left ≤ 0)) := by
        rintro (h1 | ⟨h1, h2⟩)
        · rw [h.go] at h1; exact hg h1
        · rw [h.ar] at h1
          have h3 := h.le h1
          exact ha ⟨h1, by omega⟩
      rw [if_neg hn, if_neg hg, if_neg ha]
      refine ⟨rfl, ⟨by show IntKind.i64.wrap _ = IntKind.i64.wrap _; rw [h.st], h.go, h.ar, fun h1 => ?_, h.len, h.dv⟩⟩
      have h3 := h.le h1
      have h4 := hl h1
      have h5 : m.left ≠ 0 := fun e => ha ⟨h1, e⟩
      show IntKind.i64.wrap (s.left - 1) = (if m.armed = true then IntKind.i64.wrap (m.left - 1) else m.left) ∧ 0 ≤ (if m.armed = true then IntKind.i64.wrap (m.left - 1) else m.left)
      rw [if_pos h1, h3.1, wrap_i64 _ (by omega) (by omega)]
      exact ⟨rfl, by omega⟩
theorem Rl.has {s : St} {m : RSt} (h : Rl s m) (dev i : Int) : s.has dev i = m.has dev i := by
  unfold St.has RSt.has
  rw [h.len]
  by_cases hd : 0 ≤ dev ∧ dev < m.dv.length
  · rw [(h.dv dev.toNat (by omega)).sz]
  · rw [decide_eq_false hd, Bool.false_and, Bool.false_and]

end Go.Proofs.Ytkmjncmdhinlgaa.HL
end
section
namespace Go.Proofs.Ytkmjncmdhinlgaa.HL
open Go Go.Proofs
set_option linter.unusedSimpArgs false
set_option linter.unusedVariables false
attribute [local irreducible] Lt Lq CW OW TW CallH


theorem getD_set' {α : Type} [Inhabited α] {l : List α} {k : Nat} {d : α} (i : Nat) : (l.set k d).getD i default = if i = k ∧ k < l.length then d else l.getD i default := by
  simp only [List.getD_eq_getElem?_getD, List.getElem?_set]
  by_cases h : k = i
  · subst h
    by_cases h2 : k < l.length
    · simp [h2]
    · simp [h2, List.getElem?_eq_none (by omega : l.length ≤ k)]
  · rw [if_neg h, if_neg (by rintro ⟨rfl, _⟩; exact h rfl)]
theorem Rl.set {s t : St} {m q : RSt} (h : Rl s m) {k : Nat} {d : Dv} {e : RDv} (hd : RlD d e) (ht : t.dv = s.dv.set k d) (hq : q.dv = m.dv.set k e) (h1 : t.steps = q.steps) (h2 : t.gone = q.gone) (h3 : t.armed = q.armed) (h4 : q.armed = true → t.left = q.left ∧ 0 ≤ q.left) : Rl t q := by
  refine ⟨h1, h2, h3, h4, by rw [ht, hq, List.length_set, List.length_set]; exact h.len, fun i hi => ?_⟩
  rw [hq, List.length_set] at hi
  rw [ht, hq, getD_set', getD_set', h.len]
  by_cases e : i = k
  · rw [if_pos ⟨e, by omega⟩, if_pos ⟨e, by omega⟩]; exact hd
  · rw [if_neg (fun x => e x.1), if_neg (fun x => e x.1)]; exact h.dv i hi
theorem RlD.put {s : Dv} {m : RDv} (h : RlD s m) {i : Int} (x : Sec) (hi : 0 ≤ i ∧ i < m.sec.length) : RlD (s.put ⟨i, x⟩) ⟨m.sec, m.wait ++ [⟨i, x⟩]⟩ := by
  refine ⟨h.sz, h.su, by show s.wait ++ _ = _; rw [h.wa], fun k hk => ?_⟩
  simp only [List.length_append, List.length_cons, List.length_nil] at hk
  by_cases e : k < m.wait.length
  · have : (m.wait ++ [(⟨i, x⟩ : Wt)]).getD k default = m.wait.getD k default := by
      simp [List.getD_eq_getElem?_getD, List.getElem?_append_left e]
    rw [this]; exact h.at_ k e
  · have e2 : k = m.wait.length := by omega
    have : (m.wait ++ [(⟨i, x⟩ : Wt)]).getD k default = ⟨i, x⟩ := by
      subst e2; simp [List.getD_eq_getElem?_getD]
    rw [this]; exact hi
theorem Rl.put {s : St} {m : RSt} (h : Rl s m) (hl : m.armed = true → m.left ≤ 9223372036854775807) (dev i : Int) (x : Sec) : Rl (s.wr dev i x).1 (m.put dev i x).1 ∧ (m.put dev i x).2 = (s.wr dev i x).2.getD 0 := by
  obtain ⟨e2, hr⟩ := h.step hl
  have hh := h.has dev i
  rcases wr_cases s dev i x with ⟨a1, a2, a3⟩ | ⟨a1, a2, a3, a4⟩ | ⟨a1, a2, a3, a4⟩
  · rcases rput_cases m dev i x with ⟨_, b⟩ | ⟨b1, _⟩ | ⟨b1, _⟩
    · rw [a1, a2, b]; exact ⟨h, rfl⟩
    · rw [← hh, a3] at b1; cases b1
    · rw [← hh, a3] at b1; cases b1
  · rcases rput_cases m dev i x with ⟨b1, _⟩ | ⟨_, _, b⟩ | ⟨_, b1, _⟩
    · rw [← hh, a4] at b1; cases b1
    · rw [a1, a2, b]; exact ⟨hr, rfl⟩
    · rw [← e2, a3] at b1; cases b1
  · rcases rput_cases m dev i x with ⟨b1, _⟩ | ⟨_, b1, _⟩ | ⟨b0, _, b⟩
    · rw [← hh, a4] at b1; cases b1
    · rw [← e2, a3] at b1; cases b1
    · rw [a1, a2, b]
      unfold RSt.has at b0
      rw [Bool.and_eq_true, decide_eq_true_eq, decide_eq_true_eq] at b0
      refine ⟨h.set ((h.dv dev.toNat (by omega)).put x b0.2) rfl rfl hr.st hr.go hr.ar hr.le, rfl⟩

end Go.Proofs.Ytkmjncmdhinlgaa.HL
end
section
namespace Go.Proofs.Ytkmjncmdhinlgaa.HL
open Go Go.Proofs
set_option linter.unusedSimpArgs false
set_option linter.unusedVariables false
attribute [local irreducible] Lt Lq CW OW TW CallH


theorem RlD.stN {s : Dv} {m : RDv} (h : RlD s m) (kept : Nat → Option Int) : ∀ n, n ≤ m.wait.length → ∀ i, stN kept m.wait s.sure n i = if 0 ≤ i ∧ i < m.sec.length then (crW kept m.wait m.sec n).getD i.toNat default else Sec.zero
  | 0, _, i => h.su i
  | n + 1, hn, i => by
    have ih := RlD.stN h kept n (by omega)
    have ha := h.at_ n (by omega)
    cases hk : kept n with
    | none => simp only [Go.Proofs.Ytkmjncmdhinlgaa.HL.stN, crW, hk]; exact ih i
    | some t =>
      simp only [Go.Proofs.Ytkmjncmdhinlgaa.HL.stN, crW, hk]
      have hold : Go.Proofs.Ytkmjncmdhinlgaa.HL.stN kept m.wait s.sure n (m.wait.getD n default).at_ = (crW kept m.wait m.sec n).getD (m.wait.getD n default).at_.toNat default := by rw [ih, if_pos ha]
      rw [hold]
      by_cases e : i = (m.wait.getD n default).at_
      · rw [if_pos e, e, if_pos ha, getD_set', if_pos ⟨rfl, by rw [crW_len]; omega⟩]
      · rw [if_neg e, ih i]
        by_cases hr : 0 ≤ i ∧ i < m.sec.length
        · rw [if_pos hr, if_pos hr, getD_set', if_neg (fun hc => e (by omega))]
        · rw [if_neg hr, if_neg hr]
theorem RlD.settle {s : Dv} {m : RDv} (h : RlD s m) (kept : Nat → Option Int) : RlD (s.settle kept) (m.settle kept) := by
  refine ⟨by show s.size = (crW _ _ _ _).length; rw [crW_len]; exact h.sz, fun i => ?_, rfl, fun k hk => by simp [RDv.settle] at hk⟩
  show Go.Proofs.Ytkmjncmdhinlgaa.HL.stN kept s.wait s.sure s.wait.length i = _
  rw [h.wa, h.stN kept _ (Nat.le_refl _)]
  simp only [RDv.settle, crW_len]
theorem crW_done (ws : List Wt) (sec : List Sec) : ∀ n, n ≤ ws.length → crW (fun _ => some 0) ws sec n = doneL sec (ws.take n)
  | 0, _ => rfl
  | n + 1, hn => by
    rw [doneL_next sec ws n (by omega), ← crW_done ws sec n (by omega)]
    simp only [crW]
    rw [torn_not _ _ _ (by omega)]
theorem RlD.flush {s : Dv} {m : RDv} (h : RlD s m) : RlD (s.settle (fun _ => some 0)) ⟨doneL m.sec m.wait, []⟩ := by
  have := h.settle (fun _ => some 0)
  unfold RDv.settle at this
  rwa [crW_done _ _ _ (Nat.le_refl _), List.take_of_length_le (Nat.le_refl _)] at this

end Go.Proofs.Ytkmjncmdhinlgaa.HL
end
section
namespace Go.Proofs.Ytkmjncmdhinlgaa.HL
open Go Go.Proofs
set_option linter.unusedSimpArgs false
set_option linter.unusedVariables false
attribute [local irreducible] Lt Lq CW OW TW CallH


theorem Rl.flush {s : St} {m : RSt} (h : Rl s m) (hl : m.armed = true → m.left ≤ 9223372036854775807) (dev : Int) : Rl (s.fl dev).1 (m.fl dev).1 ∧ (m.fl dev).2 = (s.fl dev).2.getD 0 := by
  obtain ⟨e2, hr⟩ := h.step hl
  have hlen := h.len
  rcases fl_cases s dev with ⟨a1, a2, a3⟩ | ⟨a1, a2, a3, a4⟩ | ⟨a1, a2, a3, a4⟩
  · rcases rfl_cases m dev with ⟨_, b⟩ | ⟨b1, _⟩ | ⟨b1, _⟩
    · rw [a1, a2, b]; exact ⟨h, rfl⟩
    · exact absurd b1 (by rw [← hlen]; exact a3)
    · exact absurd b1 (by rw [← hlen]; exact a3)
  · rcases rfl_cases m dev with ⟨b1, _⟩ | ⟨_, _, b⟩ | ⟨_, b1, _⟩
    · exact absurd a4 (by rw [hlen]; exact b1)
    · rw [a1, a2, b]; exact ⟨hr, rfl⟩
    · rw [← e2, a3] at b1; cases b1
  · rcases rfl_cases m dev with ⟨b1, _⟩ | ⟨_, b1, _⟩ | ⟨b0, _, b⟩
    · exact absurd a4 (by rw [hlen]; exact b1)
    · rw [← e2, a3] at b1; cases b1
    · rw [a1, a2, b]
      exact ⟨h.set ((h.dv dev.toNat (by omega)).flush) rfl rfl hr.st hr.go hr.ar hr.le, rfl⟩
theorem Rl.crash {s : St} {m : RSt} (h : Rl s m) (l : List Kp) : Rl (s.cr l) (m.cr l) := by
  refine ⟨h.st, rfl, rfl, fun h1 => (by cases h1), by simp [St.cr, RSt.cr, h.len], fun i hi => ?_⟩
  have hi' : i < m.dv.length := by simpa [RSt.cr] using hi
  have hs : i < s.dv.length := by rw [h.len]; exact hi'
  have hd := h.dv i hi'
  have e1 : (s.cr l).dv.getD i default = (s.dv.getD i default).settle (fun n => keepOf l i n) := by
    simp [St.cr, List.getD_eq_getElem?_getD, List.getElem?_mapIdx, List.getElem?_eq_getElem hs]
  have e2 : (m.cr l).dv.getD i default = (m.dv.getD i default).settle (fun n => keepOf l i n) := by
    simp [RSt.cr, List.getD_eq_getElem?_getD, List.getElem?_mapIdx, List.getElem?_eq_getElem hi']
  rw [e1, e2]; exact hd.settle _
theorem Rl.read {s : St} {m : RSt} (h : Rl s m) (dev i : Int) : (m.rd dev i).1 = (s.rd dev i).1 ∧ (m.rd dev i).2 = (s.rd dev i).2.getD 0 := by
  unfold St.rd RSt.rd
  rw [h.go, h.has dev i]
  by_cases hg : m.gone = true
  · rw [if_pos hg, if_pos hg]; exact ⟨rfl, rfl⟩
  · rw [if_neg hg, if_neg hg]
    by_cases hh : m.has dev i = true
    · rw [if_pos hh, if_pos hh]
      refine ⟨?_, rfl⟩
      unfold RSt.has at hh
      rw [Bool.and_eq_true, decide_eq_true_eq, decide_eq_true_eq] at hh
      have hd := h.dv dev.toNat (by omega)
      unfold Dv.read
      rw [hd.wa, hd.su, if_pos hh.2]
    · rw [if_neg hh, if_neg hh]; exact ⟨rfl, rfl⟩

end Go.Proofs.Ytkmjncmdhinlgaa.HL
end
section
namespace Go.Proofs.Ytkmjncmdhinlgaa.HL
open Go Go.Proofs
set_option linter.unusedSimpArgs false
set_option linter.unusedVariables false
attribute [local irreducible] Lt Lq CW OW TW CallH


end Go.Proofs.Ytkmjncmdhinlgaa.HL
end
section
namespace Go.Proofs.Ytkmjncmdhinlgaa.HL
open Go Go.Proofs
set_option linter.unusedSimpArgs false
set_option linter.unusedVariables false
attribute [local irreducible] Lt Lq CW OW TW CallH


structure NC (H0 H : Hp) (D : List RDv) (k : Nat) (v : Value) (rs : Option Nat) (X : List RDX) (G : Hp) : Prop where
  len : X.length = k
  own : OwnS H 98 2 v k (X.flatMap RDX.c) rs
  ok : ∀ x ∈ X, x.ok G
  le : Le G H
  fr : ∀ b, G b ≠ none → H0 b = none
  frr : ∀ r, rs = some r → H0 r = none ∧ G r = none
  old : Le H0 H
  dv : rdv X = D.take k
end Go.Proofs.Ytkmjncmdhinlgaa.HL
end
section
namespace Go.Proofs.Ytkmjncmdhinlgaa.HL
open Go Go.Proofs
set_option linter.unusedSimpArgs false
set_option linter.unusedVariables false
attribute [local irreducible] Lt Lq CW OW TW CallH


theorem cr_dv (m : RSt) (l : List Kp) (k : Nat) (hk : k < m.dv.length) : (m.cr l).dv.getD k default = ⟨crW (fun n => keepOf l (k : Int) n) (m.dv.getD k default).wait (m.dv.getD k default).sec (m.dv.getD k default).wait.length, []⟩ := by
  simp only [RSt.cr, List.getD_eq_getElem?_getD, List.getElem?_mapIdx, List.getElem?_eq_getElem hk, Option.map_some, Option.getD_some, RDv.settle]
theorem NC.next {H0 H HF : Hp} {D : List RDv} {k : Nat} {v : Value} {rs : Option Nat} {X : List RDX} {G : Hp} (h : NC H0 H D k v rs X G) (hk : k < D.length) {b : Nat} (hb : H b = none) {y : RDX} {o : Obj} (hy : y.ok (emptyHp.upd b o)) (hyd : y.d = D.getD k default) {v' : Value} {rs' : Option Nat}
    (hown : OwnS HF 98 2 v' (k + 1) (X.flatMap RDX.c ++ y.c) rs') (hfb : HF b = some o)
    (hkeep : ∀ x o, H x = some o → (G x ≠ none ∨ H0 x ≠ none) → HF x = some o) (hr : ∀ r, rs' = some r → rs = some r ∨ (H r = none ∧ r ≠ b)) :
    NC H0 HF D (k + 1) v' rs' (X ++ [y]) (G.upd b o) := by
  have hGb : G b = none := none_of_le h.le hb
  refine ⟨by simp [h.len], ?_, fun x hx => ?_, ?_, fun x hx => ?_, fun r e => ?_, fun x o hx => hkeep x o (h.old x o hx) (.inr (by rw [hx]; simp)), ?_⟩
  · rw [List.flatMap_append]
    simpa using hown
  · rcases List.mem_append.1 hx with h1 | h1
    · exact (h.ok x h1).le (le_upd _ _ _ hGb)
    · simp at h1
      subst h1
      exact hy.le (fun z oz hz => by
        by_cases e : z = b
        · subst e; rw [upd_same] at hz ⊢; exact hz
        · rw [upd_ne _ _ e] at hz; cases hz)
  · exact le_put (fun x o hx => hkeep x o (h.le x o hx) (.inl (by rw [hx]; simp))) hfb
  · by_cases e : x = b
    · subst e; exact none_of_le h.old hb
    · rw [upd_ne _ _ e] at hx; exact h.fr x hx
  · rcases hr r e with h1 | ⟨h1, h2⟩
    · refine ⟨(h.frr r h1).1, (upd_ne _ _ (fun e2 => ?_)).trans (h.frr r h1).2⟩
      subst e2; exact h.own.known r h1 hb
    · exact ⟨none_of_le h.old h1, (upd_ne _ _ h2).trans (none_of_le h.le h1)⟩
  · rw [List.take_add_one, List.getElem?_eq_getElem hk]
    simp [rdv, h.dv, hyd, List.getD_eq_getElem?_getD, List.getElem?_eq_getElem hk]


end Go.Proofs.Ytkmjncmdhinlgaa.HL
end
section
namespace Go.Proofs.Ytkmjncmdhinlgaa.HL
open Go Go.Proofs
set_option linter.unusedSimpArgs false
set_option linter.unusedVariables false
attribute [local irreducible] Lt Lq CW OW TW CallH

end Go.Proofs.Ytkmjncmdhinlgaa.HL
end
