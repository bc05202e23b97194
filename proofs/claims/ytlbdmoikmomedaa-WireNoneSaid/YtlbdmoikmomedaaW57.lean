/- A part of the proof. -/
import Derived.Test.YtlbdmoikmomedaaW56
import Derived.Test.YtlbdmoikmomedaaMdVL
namespace Go.Proofs.Ytlbdmoikmomedaa.HL
open Go Go.Proofs
set_option linter.unusedSimpArgs false
set_option linter.unusedVariables false
attribute [local irreducible] Lt Lq CW OW TW CallH

set_option maxRecDepth 100000 in
set_option maxHeartbeats 1000000 in
theorem over_zero (H : Hp) (a : Option Addr) (cap : Nat) : CallH Try.prog 12 #[.slice a 0 cap] H (fun _ H' => H' = H) := by
  refine CallH_enter (l := [_]) (rl := []) (n := 15) Try.func12 rfl rfl rfl rfl rfl ?_
  simp only [envOf, Nat.reduceAdd]
  refine CW_seq (fun K1 hK1 => ?_)
  refine CW_region ?_
  refine OW_op rfl (lt_some (by decide)) (fun K hK r => ?_)
  simp only [x_move, ev, Env.get, Option.getD_some, ↓reduceIte, Nat.reduceEqDiff, NextH, Env.putO, Env.put, ↓reduceIte, Nat.reduceEqDiff, upd_upd, Int.reduceToNat]
  refine hK _ _ ?_; clear hK K
  refine OW_op rfl (lt_some (by decide)) (fun K hK r => ?_)
  simp only [x_builtin, l_len, List.map_toArray, List.map_cons, List.map_nil, i_len_slice _ _ Try.underlying27, ev, Env.get, Option.getD_some, ↓reduceIte, Nat.reduceEqDiff, NextH, Env.putO, Env.put, ↓reduceIte, Nat.reduceEqDiff, upd_upd, Int.reduceToNat]
  refine hK _ _ ?_; clear hK K
  refine OW_op rfl (lt_some (by decide)) (fun K hK r => ?_)
  simp only [x_move, ev, Env.get, Option.getD_some, ↓reduceIte, Nat.reduceEqDiff, NextH, Env.putO, Env.put, ↓reduceIte, Nat.reduceEqDiff, upd_upd, Int.reduceToNat]
  refine hK _ _ ?_; clear hK K
  refine OW_nil ?_
  try simp only [Ex.thnH, Ex.inBlockH, ↓reduceIte, Nat.reduceEqDiff]
  refine hK1 _ _ ?_; try clear hK1 K1
  refine CW_block ?_
  refine CW_loop (fun m e H_ => m = 0 ∧ Env.has [(4, .int .i64 0), (5, .int .i64 0)] e ∧ H_ = H) (0) ?_ ?_
  · skip
    exact ⟨rfl, ⟨rfl, rfl, trivial⟩, rfl⟩
  intro m_ e_ H_ hI_
  obtain ⟨rfl, he, hH_⟩ := hI_
  subst hH_
  refine CW_env he.sub ?_; clear he e_
  refine CW_seq (fun K2 hK2 => ?_)
  refine CW_region ?_
  refine OW_op rfl (lt_some (by decide)) (fun K hK r => ?_)
  simp (disch := (first | omega | decide)) only [x_bin, g_int, b_lss, dec_lt_t, dec_lt_f, dec_le_t, dec_le_f, dec_eq_t, dec_eq_f, Bool.not_true, Bool.not_false, ev, Env.get, Option.getD_some, ↓reduceIte, Nat.reduceEqDiff, NextH, Env.putO, Env.put, ↓reduceIte, Nat.reduceEqDiff, upd_upd, Int.reduceToNat]
  refine hK _ _ ?_; clear hK K
  refine OW_nil ?_
  try simp only [Ex.thnH, Ex.inBlockH, ↓reduceIte, Nat.reduceEqDiff]
  refine hK2 _ _ ?_; try clear hK2 K2
  refine CW_seq (fun K3 hK3 => ?_)
  refine CW_cond (fun r => rfl) (fun c6 => ?_) (fun c6 => ?_)
  · first
    | (exfalso; exact cnA c6; done)
    | skip
      exfalso; simp_all
      refine CW_skip ?_
      try simp only [Ex.thnH, Ex.inBlockH, ↓reduceIte, Nat.reduceEqDiff]
      refine hK3 _ _ ?_; try clear hK3 K3
      refine CW_seq (fun K4 hK4 => ?_)
      refine CW_block ?_
      refine CW_seq (fun K5 hK5 => ?_)
      refine CW_region ?_
      refine OW_op rfl (lt_some (by decide)) (fun K hK r => ?_)
      simp only [x_move, ev, Env.get, Option.getD_some, ↓reduceIte, Nat.reduceEqDiff, NextH, Env.putO, Env.put, ↓reduceIte, Nat.reduceEqDiff, upd_upd, Int.reduceToNat]
      refine hK _ _ ?_; clear hK K
      refine OW_op rfl (lt_some (by decide)) (fun K hK r => ?_)
      simp only [x_assign, ev, Env.get, Option.getD_some, ↓reduceIte, Nat.reduceEqDiff, NextH, Env.putO, Env.put, ↓reduceIte, Nat.reduceEqDiff, upd_upd, Int.reduceToNat]
      refine hK _ _ ?_; clear hK K
      refine OW_nil ?_
      try simp only [Ex.thnH, Ex.inBlockH, ↓reduceIte, Nat.reduceEqDiff]
      refine hK5 _ _ ?_; try clear hK5 K5
      refine CW_region ?_
      refine OW_op rfl (lt_some (by decide)) (fun K hK r => ?_)
      simp only [x_move, ev, Env.get, Option.getD_some, ↓reduceIte, Nat.reduceEqDiff, NextH, Env.putO, Env.put, ↓reduceIte, Nat.reduceEqDiff, upd_upd, Int.reduceToNat]
      refine hK _ _ ?_; clear hK K
      refine OW_op rfl (lt_some (by decide)) (fun K hK r => ?_)
      simp only [x_move, ev, Env.get, Option.getD_some, ↓reduceIte, Nat.reduceEqDiff, NextH, Env.putO, Env.put, ↓reduceIte, Nat.reduceEqDiff, upd_upd, Int.reduceToNat]
      refine hK _ _ ?_; clear hK K
      refine OW_op rfl (lt_some (by decide)) (fun K hK r => ?_)
      simp only [x_indexAddr, ev, Env.get, Option.getD_some, ↓reduceIte, Nat.reduceEqDiff, NextH, Env.putO, Env.put, ↓reduceIte, Nat.reduceEqDiff, upd_upd, Int.reduceToNat]
      skip
      refine hK _ _ ?_; clear hK K
      refine OW_op rfl (lt_some (by decide)) (fun K hK r => ?_)
      simp only [x_load, ev, Env.get, Option.getD_some, ↓reduceIte, Nat.reduceEqDiff, NextH, Env.putO, Env.put, ↓reduceIte, Nat.reduceEqDiff, upd_upd, Int.reduceToNat]
      skip
      refine hK _ _ ?_; clear hK K
      refine OW_op rfl (lt_some (by decide)) (fun K hK r => ?_)
      simp only [x_bin, g_int, b_xor, ev, Env.get, Option.getD_some, ↓reduceIte, Nat.reduceEqDiff, NextH, Env.putO, Env.put, ↓reduceIte, Nat.reduceEqDiff, upd_upd, Int.reduceToNat]
      skip
      refine hK _ _ ?_; clear hK K
      refine OW_op rfl (lt_some (by decide)) (fun K hK r => ?_)
      simp only [x_indexAddr, ev, Env.get, Option.getD_some, ↓reduceIte, Nat.reduceEqDiff, NextH, Env.putO, Env.put, ↓reduceIte, Nat.reduceEqDiff, upd_upd, Int.reduceToNat]
      skip
      refine hK _ _ ?_; clear hK K
      refine OW_op rfl (lt_none) (fun K hK r => ?_)
      simp only [x_store, ev, Env.get, Option.getD_some, ↓reduceIte, Nat.reduceEqDiff, NextH, Env.putO, Env.put, ↓reduceIte, Nat.reduceEqDiff, upd_upd, Int.reduceToNat]
      skip
      refine hK _ _ ?_; clear hK K
      refine OW_nil ?_
      try simp only [Ex.thnH, Ex.inBlockH, ↓reduceIte, Nat.reduceEqDiff]
      refine hK4 _ _ ?_; try clear hK4 K4
      refine CW_region ?_
      refine OW_op rfl (lt_some (by decide)) (fun K hK r => ?_)
      simp (disch := (first | omega | decide)) only [x_bin, g_int, b_add, wrap_i64, wrap_u64, wrap_u32, wrap_u8, ev, Env.get, Option.getD_some, ↓reduceIte, Nat.reduceEqDiff, NextH, Env.putO, Env.put, ↓reduceIte, Nat.reduceEqDiff, upd_upd, Int.reduceToNat]
      refine hK _ _ ?_; clear hK K
      refine OW_op rfl (lt_some (by decide)) (fun K hK r => ?_)
      simp only [x_move, ev, Env.get, Option.getD_some, ↓reduceIte, Nat.reduceEqDiff, NextH, Env.putO, Env.put, ↓reduceIte, Nat.reduceEqDiff, upd_upd, Int.reduceToNat]
      refine hK _ _ ?_; clear hK K
      refine OW_nil ?_
      try simp only [Ex.thnH, Ex.inBlockH, ↓reduceIte, Nat.reduceEqDiff]
      exfalso; simp_all
  · first
    | (exfalso; exact cnA c6; done)
    | skip
      (try simp only [decide_eq_true_eq, decide_eq_false_iff_not, Bool.not_eq_true, Bool.not_eq_false, Bool.and_eq_true, Bool.or_eq_true, Bool.or_eq_false_iff, Bool.not_eq_true, Bool.not_eq_eq_eq_not, Bool.not_true, Bool.not_false] at c6)
      refine CW_exit ?_
      try simp only [Ex.thnH, Ex.inBlockH, ↓reduceIte, Nat.reduceEqDiff]
      exact ⟨[], trivial, _, Le.refl _, rfl⟩

set_option maxRecDepth 100000 in
set_option maxHeartbeats 1000000 in
theorem over_at (H : Hp) (B o cap n : Nat) (c : Array Value) (hB : H B = some (.cells c 5)) (hn : o + n ≤ c.size) (hb : ∀ i, i < n → ∃ z, c[o + i]? = some (.int .u8 z)) (hl : n ≤ 10000000) : CallH Try.prog 12 #[.slice (some ⟨B, o, none⟩) n cap] H (fun _ H' => ∃ c', H' = H.upd B (.cells c' 5) ∧ c'.size = c.size ∧ ∀ i, o + n ≤ i → c'[i]? = c[i]?) := by
  refine CallH_enter (l := [_]) (rl := []) (n := 15) Try.func12 rfl rfl rfl rfl rfl ?_
  simp only [envOf, Nat.reduceAdd]
  refine CW_seq (fun K1 hK1 => ?_)
  refine CW_region ?_
  refine OW_op rfl (lt_some (by decide)) (fun K hK r => ?_)
  simp only [x_move, ev, Env.get, Option.getD_some, ↓reduceIte, Nat.reduceEqDiff, NextH, Env.putO, Env.put, ↓reduceIte, Nat.reduceEqDiff, upd_upd, Int.reduceToNat]
  refine hK _ _ ?_; clear hK K
  refine OW_op rfl (lt_some (by decide)) (fun K hK r => ?_)
  simp only [x_builtin, l_len, List.map_toArray, List.map_cons, List.map_nil, i_len_slice _ _ Try.underlying27, ev, Env.get, Option.getD_some, ↓reduceIte, Nat.reduceEqDiff, NextH, Env.putO, Env.put, ↓reduceIte, Nat.reduceEqDiff, upd_upd, Int.reduceToNat]
  refine hK _ _ ?_; clear hK K
  refine OW_op rfl (lt_some (by decide)) (fun K hK r => ?_)
  simp only [x_move, ev, Env.get, Option.getD_some, ↓reduceIte, Nat.reduceEqDiff, NextH, Env.putO, Env.put, ↓reduceIte, Nat.reduceEqDiff, upd_upd, Int.reduceToNat]
  refine hK _ _ ?_; clear hK K
  refine OW_nil ?_
  try simp only [Ex.thnH, Ex.inBlockH, ↓reduceIte, Nat.reduceEqDiff]
  refine hK1 _ _ ?_; try clear hK1 K1
  refine CW_block ?_
  refine CW_loop (fun m e H_ => ∃ (k : Nat) (c1 : Array Value), k ≤ n ∧ m = n - k ∧ H_ = H.upd B (.cells c1 5) ∧ c1.size = c.size ∧ (∀ i, k ≤ i → i < n → c1[o + i]? = c[o + i]?) ∧ (∀ i, o + n ≤ i → c1[i]? = c[i]?) ∧ Env.has [(0, .slice (some ⟨B, o, none⟩) n cap), (4, .int .i64 n), (5, .int .i64 k)] e) (n) ?_ ?_
  · skip
    exact ⟨0, c, by omega, by omega, (upd_id hB).symm, rfl, fun _ _ _ => rfl, fun _ _ => rfl, rfl, rfl, rfl, trivial⟩
  intro m_ e_ H_ hI_
  obtain ⟨k, c1, hk, rfl, rfl, hsz, hin, hout, he⟩ := hI_
  refine CW_env he.sub ?_; clear he e_
  refine CW_seq (fun K2 hK2 => ?_)
  refine CW_region ?_
  refine OW_op rfl (lt_some (by decide)) (fun K hK r => ?_)
  simp (disch := (first | omega | decide)) only [x_bin, g_int, b_lss, dec_lt_t, dec_lt_f, dec_le_t, dec_le_f, dec_eq_t, dec_eq_f, Bool.not_true, Bool.not_false, ev, Env.get, Option.getD_some, ↓reduceIte, Nat.reduceEqDiff, NextH, Env.putO, Env.put, ↓reduceIte, Nat.reduceEqDiff, upd_upd, Int.reduceToNat]
  refine hK _ _ ?_; clear hK K
  refine OW_nil ?_
  try simp only [Ex.thnH, Ex.inBlockH, ↓reduceIte, Nat.reduceEqDiff]
  refine hK2 _ _ ?_; try clear hK2 K2
  refine CW_seq (fun K3 hK3 => ?_)
  refine CW_cond (fun r => rfl) (fun c6 => ?_) (fun c6 => ?_)
  · first
    | (exfalso; exact cnA c6; done)
    | skip
      (try simp only [decide_eq_true_eq, decide_eq_false_iff_not, Bool.not_eq_true, Bool.not_eq_false, Bool.and_eq_true, Bool.or_eq_true, Bool.or_eq_false_iff, Bool.not_eq_true, Bool.not_eq_eq_eq_not, Bool.not_true, Bool.not_false] at c6)
      obtain ⟨z, hz⟩ := hb k (by omega)
      have hck := (hin k (Nat.le_refl _) (by omega)).trans hz
      refine CW_skip ?_
      try simp only [Ex.thnH, Ex.inBlockH, ↓reduceIte, Nat.reduceEqDiff]
      refine hK3 _ _ ?_; try clear hK3 K3
      refine CW_seq (fun K4 hK4 => ?_)
      refine CW_block ?_
      refine CW_seq (fun K5 hK5 => ?_)
      refine CW_region ?_
      refine OW_op rfl (lt_some (by decide)) (fun K hK r => ?_)
      simp only [x_move, ev, Env.get, Option.getD_some, ↓reduceIte, Nat.reduceEqDiff, NextH, Env.putO, Env.put, ↓reduceIte, Nat.reduceEqDiff, upd_upd, Int.reduceToNat]
      refine hK _ _ ?_; clear hK K
      refine OW_op rfl (lt_some (by decide)) (fun K hK r => ?_)
      simp only [x_assign, ev, Env.get, Option.getD_some, ↓reduceIte, Nat.reduceEqDiff, NextH, Env.putO, Env.put, ↓reduceIte, Nat.reduceEqDiff, upd_upd, Int.reduceToNat]
      refine hK _ _ ?_; clear hK K
      refine OW_nil ?_
      try simp only [Ex.thnH, Ex.inBlockH, ↓reduceIte, Nat.reduceEqDiff]
      refine hK5 _ _ ?_; try clear hK5 K5
      refine CW_region ?_
      refine OW_op rfl (lt_some (by decide)) (fun K hK r => ?_)
      simp only [x_move, ev, Env.get, Option.getD_some, ↓reduceIte, Nat.reduceEqDiff, NextH, Env.putO, Env.put, ↓reduceIte, Nat.reduceEqDiff, upd_upd, Int.reduceToNat]
      refine hK _ _ ?_; clear hK K
      refine OW_op rfl (lt_some (by decide)) (fun K hK r => ?_)
      simp only [x_move, ev, Env.get, Option.getD_some, ↓reduceIte, Nat.reduceEqDiff, NextH, Env.putO, Env.put, ↓reduceIte, Nat.reduceEqDiff, upd_upd, Int.reduceToNat]
      refine hK _ _ ?_; clear hK K
      refine OW_op rfl (lt_some (by decide)) (fun K hK r => ?_)
      simp only [x_indexAddr, ev, Env.get, Option.getD_some, ↓reduceIte, Nat.reduceEqDiff, NextH, Env.putO, Env.put, ↓reduceIte, Nat.reduceEqDiff, upd_upd, Int.reduceToNat]
      refine Lt_indexS Try.underlying27 sz5 ixA ixA ?_
      try simp only [add_mk, Nat.mul_one, Nat.zero_add, Int.reduceToNat]
      try simp only [ev, Env.get, Option.getD_some, ↓reduceIte, Nat.reduceEqDiff, NextH, Env.putO, Env.put, ↓reduceIte, Nat.reduceEqDiff, upd_upd, Int.reduceToNat]
      refine hK _ _ ?_; clear hK K
      refine OW_op rfl (lt_some (by decide)) (fun K hK r => ?_)
      simp only [x_load, ev, Env.get, Option.getD_some, ↓reduceIte, Nat.reduceEqDiff, NextH, Env.putO, Env.put, ↓reduceIte, Nat.reduceEqDiff, upd_upd, Int.reduceToNat]
      refine Lt_loadAt1 Try.underlying5 rfl (upd_same _ _ _) (v := .int .u8 z) (by simpa using hck) ?_
      refine hK _ _ ?_; clear hK K
      refine OW_op rfl (lt_some (by decide)) (fun K hK r => ?_)
      simp only [x_bin, g_int, b_xor, ev, Env.get, Option.getD_some, ↓reduceIte, Nat.reduceEqDiff, NextH, Env.putO, Env.put, ↓reduceIte, Nat.reduceEqDiff, upd_upd, Int.reduceToNat]
      refine hK _ _ ?_; clear hK K
      refine OW_op rfl (lt_some (by decide)) (fun K hK r => ?_)
      simp only [x_indexAddr, ev, Env.get, Option.getD_some, ↓reduceIte, Nat.reduceEqDiff, NextH, Env.putO, Env.put, ↓reduceIte, Nat.reduceEqDiff, upd_upd, Int.reduceToNat]
      refine Lt_indexS Try.underlying27 sz5 ixA ixA ?_
      try simp only [add_mk, Nat.mul_one, Nat.zero_add, Int.reduceToNat]
      try simp only [ev, Env.get, Option.getD_some, ↓reduceIte, Nat.reduceEqDiff, NextH, Env.putO, Env.put, ↓reduceIte, Nat.reduceEqDiff, upd_upd, Int.reduceToNat]
      refine hK _ _ ?_; clear hK K
      refine OW_op rfl (lt_none) (fun K hK r => ?_)
      simp only [x_store, ev, Env.get, Option.getD_some, ↓reduceIte, Nat.reduceEqDiff, NextH, Env.putO, Env.put, ↓reduceIte, Nat.reduceEqDiff, upd_upd, Int.reduceToNat]
      refine Lt_storeAt1 sz5 hbA bdA plA fzA ?_
      try simp only [setL0, setL1, setL2, setL3, setL4, setL5, setL6, setL7, setL8, setL9]
      try simp only [ev, Env.get, Option.getD_some, ↓reduceIte, Nat.reduceEqDiff, NextH, Env.putO, Env.put, ↓reduceIte, Nat.reduceEqDiff, upd_upd, Int.reduceToNat]
      refine hK _ _ ?_; clear hK K
      refine OW_nil ?_
      try simp only [Ex.thnH, Ex.inBlockH, ↓reduceIte, Nat.reduceEqDiff]
      refine hK4 _ _ ?_; try clear hK4 K4
      refine CW_region ?_
      refine OW_op rfl (lt_some (by decide)) (fun K hK r => ?_)
      simp (disch := (first | omega | decide)) only [x_bin, g_int, b_add, wrap_i64, wrap_u64, wrap_u32, wrap_u8, ev, Env.get, Option.getD_some, ↓reduceIte, Nat.reduceEqDiff, NextH, Env.putO, Env.put, ↓reduceIte, Nat.reduceEqDiff, upd_upd, Int.reduceToNat]
      refine hK _ _ ?_; clear hK K
      refine OW_op rfl (lt_some (by decide)) (fun K hK r => ?_)
      simp only [x_move, ev, Env.get, Option.getD_some, ↓reduceIte, Nat.reduceEqDiff, NextH, Env.putO, Env.put, ↓reduceIte, Nat.reduceEqDiff, upd_upd, Int.reduceToNat]
      refine hK _ _ ?_; clear hK K
      refine OW_nil ?_
      try simp only [Ex.thnH, Ex.inBlockH, ↓reduceIte, Nat.reduceEqDiff]
      refine ⟨n - (k + 1), by omega, k + 1, c1.setIfInBounds (o + k) _, by omega, rfl, rfl, by simpa using hsz, fun i h1 h2 => ?_, fun i h1 => ?_, rfl, rfl, rfl, trivial⟩
      · rw [Array.getElem?_setIfInBounds_ne (by omega)]; exact hin i (by omega) h2
      · rw [Array.getElem?_setIfInBounds_ne (by omega)]; exact hout i h1
  · first
    | (exfalso; exact cnA c6; done)
    | skip
      (try simp only [decide_eq_true_eq, decide_eq_false_iff_not, Bool.not_eq_true, Bool.not_eq_false, Bool.and_eq_true, Bool.or_eq_true, Bool.or_eq_false_iff, Bool.not_eq_true, Bool.not_eq_eq_eq_not, Bool.not_true, Bool.not_false] at c6)
      refine CW_exit ?_
      try simp only [Ex.thnH, Ex.inBlockH, ↓reduceIte, Nat.reduceEqDiff]
      exact ⟨[], trivial, _, Le.refl _, c1, rfl, hsz, hout⟩


theorem over_part (H : Hp) (a : Option Addr) (cap : Nat) (x : List Int) (hv : Holds H 1 (.slice a x.length cap) x.length (u8s x)) (hl : x.length ≤ 10000000) (hbk : x ≠ [] → ∃ B o c, a = some ⟨B, o, none⟩ ∧ H B = some (.cells c 5)) : CallH Try.prog 12 #[.slice a x.length cap] H (fun _ H' => (x = [] ∧ H' = H) ∨ x ≠ [] ∧ ∃ B o c c', a = some ⟨B, o, none⟩ ∧ H B = some (.cells c 5) ∧ H' = H.upd B (.cells c' 5) ∧ c'.size = c.size ∧ ∀ i, o + x.length ≤ i → c'[i]? = c[i]?) := by
  by_cases h0 : x = []
  · subst h0
    exact (over_zero H a cap).mono fun v H' h => .inl ⟨rfl, h⟩
  · obtain ⟨B, o, c, rfl, hB⟩ := hbk h0
    have hpos := len_pos h0
    obtain ⟨b, o', c', T', f', e1, h2, h3, h4⟩ := hv.at hpos
    cases e1
    rw [hB] at h2; cases h2
    refine (over_at H B o cap x.length c hB (by omega) (fun i hi => ?_) hl).mono fun v H' ⟨c', h5, h6, h7⟩ => .inr ⟨h0, B, o, c, c', rfl, hB, h5, h6, h7⟩
    have h8 := h4 i (by omega)
    rw [h8, List.getElem?_map, List.getElem?_eq_getElem hi]; exact ⟨_, rfl⟩
theorem Holds.keepA {H H' : Hp} {w n cap : Nat} {a : Option Addr} {cs : List Value} (h : Holds H w (.slice a n cap) n cs) (k : ∀ A o, a = some A → H A.block = some o → H' A.block = some o) : Holds H' w (.slice a n cap) n cs := by
  obtain ⟨h1, h2 | ⟨b, o, cap', c, T, f, e, h4, h5⟩⟩ := h
  · exact ⟨h1, .inl h2⟩
  · cases e
    exact ⟨h1, .inr ⟨b, o, _, c, T, f, rfl, k _ _ rfl h4, h5⟩⟩
theorem Holds.over {H : Hp} {B o m cap : Nat} {cs : List Value} {c c' : Array Value} {E : TypeId} (h : Holds H 1 (.slice (some ⟨B, o, none⟩) m cap) m cs) (hB : H B = some (.cells c E)) (hs : c'.size = c.size) (ho : ∀ i, o ≤ i → c'[i]? = c[i]?) : Holds (H.upd B (.cells c' E)) 1 (.slice (some ⟨B, o, none⟩) m cap) m cs := by
  obtain ⟨h1, ⟨a, cap2, e, h2⟩ | ⟨b, o', cap', c2, T, f, e, h4, h5, h6⟩⟩ := h
  · exact ⟨h1, .inl ⟨_, _, by rw [h2], h2⟩⟩
  · injection e with e1 e2 e3
    injection e1 with e1
    injection e1 with e4 e5 e6
    subst e4; subst e5; subst e3
    rw [hB] at h4; cases h4
    refine ⟨h1, .inr ⟨B, o, cap, c', E, _, rfl, upd_same _ _ _, by omega, ?_⟩⟩
    rw [← h6]
    apply List.ext_getElem?
    intro j
    simp only [Array.toList_extract, List.extract_eq_take_drop, List.getElem?_take, List.getElem?_drop, Array.getElem?_toList]
    split
    · exact ho _ (by omega)
    · rfl
theorem RD.keep {H H' : Hp} {p : Nat} {a : Option Addr} {cap : Nat} {l : List Int} {bad : Bool} (h : RD H p a cap l bad) (hp : ∀ o, H p = some o → H' p = some o) (hA : ∀ A o, a = some A → H A.block = some o → H' A.block = some o) : RD H' p a cap l bad :=
  ⟨hp _ h.1, h.2.1, h.2.2.1.keepA hA, h.2.2.2⟩
def SBk (H0 H : Hp) (p pm : Nat) (a : Option Addr) : Prop := ∀ A, a = some A → H0 A.block = none ∧ A.block ≠ p ∧ A.block ≠ pm ∧ ∃ c, H A.block = some (.cells c 5)
theorem SBk.same {H0 H : Hp} {p pm : Nat} {a a' : Option Addr} (h : SBk H0 H p pm a) (k : SameB a a') : SBk H0 H p pm a' := fun A hA => by
  obtain ⟨A0, h1, h2⟩ := k A hA
  have := h A0 h1
  rw [h2] at this; exact this
theorem SBk.keep {H0 H H' : Hp} {p pm : Nat} {a : Option Addr} (h : SBk H0 H p pm a) (k : ∀ b c, b ≠ p → b ≠ pm → H b = some (.cells c 5) → ∃ c', H' b = some (.cells c' 5)) : SBk H0 H' p pm a := fun A hA => by
  obtain ⟨h1, h2, h3, c, h4⟩ := h A hA
  exact ⟨h1, h2, h3, k _ c h2 h3 h4⟩
/-- Both readers stand at the same place. -/
structure ST (H0 H : Hp) (p pm : Nat) (l : List Int) (bad : Bool) : Prop where
  rd : ∃ a cap, RD H p a cap l bad ∧ SBk H0 H p pm a
  rm : RM H0 H pm l bad
  le : Le H0 H
  p0 : H0 p = none
  m0 : H0 pm = none
  ne : p ≠ pm
theorem ST.mid {H0 H : Hp} {p pm : Nat} {l : List Int} {bad : Bool} (h : ST H0 H p pm l bad) (o : Obj) : RM H0 (H.upd p o) pm l bad ∧ Le H0 (H.upd p o) :=
  ⟨h.rm.keep fun o' ho => by rw [upd_ne _ _ (Ne.symm h.ne)]; exact ho, le_upd_of h.le h.p0⟩
theorem ST.step {H0 H : Hp} {p pm : Nat} {l : List Int} {bad : Bool} (h : ST H0 H p pm l bad) {a : Option Addr} (hs : SBk H0 H p pm a) {o : Obj} {H2 : Hp} {a' : Option Addr} {cap' : Nat} {l1 : List Int} {b1 : Bool}
    (rd1 : RD (H.upd p o) p a' cap' l1 b1) (sb : SameB a a') (k : KeepBut (H.upd p o) pm H2) (rm2 : RM H0 H2 pm l1 b1) : ST H0 H2 p pm l1 b1 := by
  have hs' := hs.same sb
  refine ⟨⟨a', cap', rd1.keep (fun o' ho => k _ _ ho h.ne) (fun A o' hA ho => k _ _ ho (hs' A hA).2.2.1), fun A hA => ?_⟩, rm2, k.le (le_upd_of h.le h.p0) h.m0, h.p0, h.m0, h.ne⟩
  obtain ⟨h1, h2, h3, c, h4⟩ := hs' A hA
  exact ⟨h1, h2, h3, c, k _ _ (by rw [upd_ne _ _ h2]; exact h4) h3⟩
theorem ST.over {H0 H : Hp} {p pm B o : Nat} {l : List Int} {bad : Bool} {c c' : Array Value} (h : ST H0 H p pm l bad) (hB : H B = some (.cells c 5)) (hs : c'.size = c.size) {k : Nat} (ho : ∀ i, o + k ≤ i → c'[i]? = c[i]?) (h0 : H0 B = none) (hp : B ≠ p) (hm : B ≠ pm)
    {a : Option Addr} {cap : Nat} (hrd : RD H p a cap l bad) (hsb : SBk H0 H p pm a) (hpos : l ≠ [] → a = some ⟨B, o + k, none⟩) : ST H0 (H.upd B (.cells c' 5)) p pm l bad := by
  refine ⟨⟨a, cap, ⟨by rw [upd_ne _ _ (Ne.symm hp)]; exact hrd.1, hrd.2.1, ?_, hrd.2.2.2⟩, fun A hA => ?_⟩, h.rm.keep fun o' ho' => by rw [upd_ne _ _ (Ne.symm hm)]; exact ho', le_upd_of h.le h0, h.p0, h.m0, h.ne⟩
  · by_cases hl : l = []
    · subst hl; exact ⟨rfl, .inl ⟨_, _, rfl, rfl⟩⟩
    · have e := hpos hl
      have hh := hrd.2.2.1
      subst e
      exact hh.over hB hs ho
  · obtain ⟨h1, h2, h3, c2, h4⟩ := hsb A hA
    refine ⟨h1, h2, h3, ?_⟩
    by_cases e : A.block = B
    · rw [e]; exact ⟨c', upd_same _ _ _⟩
    · exact ⟨c2, by rw [upd_ne _ _ e]; exact h4⟩
theorem flB_len {l : List Int} : (flL l).length ≤ l.length := by unfold flL; split <;> simp
theorem bsL_part {bad : Bool} {l : List Int} {r : Option (Nat × List Int)} (h : RCb bad l r) : ∃ n, bsL r = l.drop n := by
  obtain ⟨n, hn⟩ := h.part
  cases r with
  | none => exact ⟨n, hn⟩
  | some x =>
    obtain ⟨u, t⟩ := x
    simp only [rcL_some] at hn
    by_cases hu : u ≤ t.length
    · exact ⟨n + u, by simp only [bsL]; rw [if_pos hu, hn, List.drop_drop]⟩
    · exact ⟨l.length, by simp only [bsL]; rw [if_neg hu, List.drop_eq_nil_of_le (Nat.le_refl _)]⟩
theorem bsV_part {bad : Bool} {l : List Int} {r : Option (Nat × List Int)} (h : RCb bad l r) (hB : ByteL l) : ByteL (bsV r) ∧ (bsV r).length ≤ l.length := by
  obtain ⟨n, hn⟩ := h.part
  cases r with
  | none => exact ⟨(fun x hx => by cases hx), Nat.zero_le _⟩
  | some x =>
    obtain ⟨u, t⟩ := x
    simp only [rcL_some] at hn
    by_cases hu : u ≤ t.length
    · simp only [bsV]; rw [if_pos hu, hn]; exact ⟨(hB.drop n).take u, by simp; omega⟩
    · simp only [bsV]; rw [if_neg hu]; exact ⟨(fun x hx => by cases hx), Nat.zero_le _⟩
theorem flL_part (l : List Int) : ∃ n, flL l = l.drop n := by
  unfold flL; split
  · exact ⟨l.length, by rw [List.drop_eq_nil_of_le (Nat.le_refl _)]⟩
  · exact ⟨1, rfl⟩

end Go.Proofs.Ytlbdmoikmomedaa.HL
