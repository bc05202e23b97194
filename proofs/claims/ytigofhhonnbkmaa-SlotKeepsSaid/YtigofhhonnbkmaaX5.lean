/- Parts of the proof, one behind the other: V13, V21, V54, V55, V56, V58, V59, V57, V60, V61, V62, V63, V64, V65, V66, V67, V69, V68, V70, V73, V75. -/
import Derived.Test.YtigofhhonnbkmaaX4
set_option linter.unusedSimpArgs false
set_option linter.unusedVariables false
section
namespace Go.Proofs.Ytigofhhonnbkmaa.HL
open Go Go.Proofs
set_option linter.unusedSimpArgs false
set_option linter.unusedVariables false
attribute [local irreducible] Lt Lq CW OW TW CallH

set_option maxRecDepth 100000 in
set_option maxHeartbeats 1000000 in
theorem flush1_ok (H : Hp) (n : Int) : CallH Try.prog 75 #[.int .i64 n] H (fun v H' => v = .tuple #[.int .i64 0, .bool true] ∧ H' = H) := by
  refine CallH_enter (l := [_]) (rl := [.tmp 2, .tmp 3]) (n := 4) Try.func75 rfl rfl rfl rfl rfl ?_
  simp only [envOf, Nat.reduceAdd]
  refine CW_seq (fun K1 hK1 => ?_)
  refine CW_region ?_
  refine OW_as rfl ?_
  refine OW_as rfl ?_
  refine OW_nil ?_
  try simp only [Ex.thnH, Ex.inBlockH, ↓reduceIte, Nat.reduceEqDiff]
  refine hK1 _ _ ?_; try clear hK1 K1
  refine CW_seq (fun K2 hK2 => ?_)
  refine CW_region ?_
  refine OW_as rfl ?_
  refine OW_as rfl ?_
  refine OW_nil ?_
  try simp only [Ex.thnH, Ex.inBlockH, ↓reduceIte, Nat.reduceEqDiff]
  refine hK2 _ _ ?_; try clear hK2 K2
  refine CW_ret ?_
  try simp only [Ex.thnH, Ex.inBlockH, ↓reduceIte, Nat.reduceEqDiff]
  exact ⟨[_, _], ⟨rfl, rfl, trivial⟩, _, Le.refl _, rfl, rfl⟩

set_option maxRecDepth 100000 in
set_option maxHeartbeats 1000000 in
theorem flush_bad (H : Hp) (p : Nat) (s : St) (rd cap : Nat) (bs : List Nat) (Fs : Nat → Hp) (h : SX H p s rd cap bs Fs) (hl : s.dv.length ≤ 1000) (dev : Int) (hno : ¬ (0 ≤ dev ∧ dev < s.dv.length)) : CallH Try.prog 53 #[(.pointer (some ⟨p, 0, none⟩)), .int .i64 dev] H (fun v H' => v = errV (s.fl dev).2 ∧ SetX H' p (s.fl dev).1) := by
  refine CallH_enter (l := [_, _]) (rl := [.tmp 4]) (n := 27) Try.func53 rfl rfl rfl rfl rfl ?_
  simp only [envOf, Nat.reduceAdd]
  refine CW_seq (fun K1 hK1 => ?_)
  refine CW_region ?_
  refine OW_as rfl ?_
  refine OW_nil ?_
  try simp only [Ex.thnH, Ex.inBlockH, ↓reduceIte, Nat.reduceEqDiff]
  refine hK1 _ _ ?_; try clear hK1 K1
  refine CW_seq (fun K2 hK2 => ?_)
  refine CW_region ?_
  refine OW_mv rfl ?_
  refine OW_mv rfl ?_
  refine OW_opS (fun K hK r => ?_)
  simp only [x_callF _ bd55, List.map_toArray, List.map_cons, List.map_nil, eX, ↓reduceIte, Nat.reduceEqDiff, Int.reduceToNat]
  refine (device_ok _ p s rd cap bs Fs h dev hl).mono ?_
  rintro v H' ⟨rfl, rfl⟩
  rw [show devV s bs dev = .pointer none from if_neg hno]
  try simp only [eX, ↓reduceIte, Nat.reduceEqDiff, Int.reduceToNat]
  refine hK _ _ ?_; clear hK K
  refine OW_as rfl ?_
  refine OW_nil ?_
  try simp only [Ex.thnH, Ex.inBlockH, ↓reduceIte, Nat.reduceEqDiff]
  refine hK2 _ _ ?_; try clear hK2 K2
  refine CW_seq (fun K3 hK3 => ?_)
  refine CW_block ?_
  refine CW_seq (fun K4 hK4 => ?_)
  refine CW_region ?_
  refine OW_mv rfl ?_
  refine OW_opS (fun K hK r => ?_)
  simp only [x_bin, g_int, g_bool, g_string, g_pointer, g_slice, g_map, g_func, g_nilFunc, g_iface, g_nil_iface, g_nil_r, g_nil_l, eX, ↓reduceIte, Nat.reduceEqDiff, Int.reduceToNat]
  rw [e_eql _ _ _ _ (by simp)]
  rw [q_equal]
  first | rw [q_ptr_nil _ _ _ Try.underlying47] | rw [q_nil_ptr _ _ _ Try.underlying47]
  try simp only [eX, ↓reduceIte, Nat.reduceEqDiff, Int.reduceToNat]
  refine hK _ _ ?_; clear hK K
  refine OW_as rfl ?_
  refine OW_nil ?_
  try simp only [Ex.thnH, Ex.inBlockH, ↓reduceIte, Nat.reduceEqDiff]
  refine hK4 _ _ ?_; try clear hK4 K4
  refine CW_cond (fun r => rfl) (fun c10 => ?_) (fun c10 => ?_)
  · first
    | (exfalso; exact cnA c10; done)
    | skip
      (try simp only [decide_eq_true_eq, decide_eq_false_iff_not, Bool.not_eq_true, Bool.not_eq_false, Bool.and_eq_true, Bool.or_eq_true, Bool.or_eq_false_iff, Bool.not_eq_true, Bool.not_eq_eq_eq_not, Bool.not_true, Bool.not_false] at c10)
      refine CW_seq (fun K5 hK5 => ?_)
      refine CW_region ?_
      refine OW_opS (fun K hK r => ?_)
      simp only [x_makeInterface, i_makeInterface, Try.underlying38, orF_some, eX, ↓reduceIte, Nat.reduceEqDiff, Int.reduceToNat]
      refine hK _ _ ?_; clear hK K
      refine OW_as rfl ?_
      refine OW_nil ?_
      try simp only [Ex.thnH, Ex.inBlockH, ↓reduceIte, Nat.reduceEqDiff]
      refine hK5 _ _ ?_; try clear hK5 K5
      refine CW_ret ?_
      try simp only [Ex.thnH, Ex.inBlockH, ↓reduceIte, Nat.reduceEqDiff]
      skip
  · first
    | (exfalso; exact cnA c10; done)
    | skip
      (try simp only [decide_eq_true_eq, decide_eq_false_iff_not, Bool.not_eq_true, Bool.not_eq_false, Bool.and_eq_true, Bool.or_eq_true, Bool.or_eq_false_iff, Bool.not_eq_true, Bool.not_eq_eq_eq_not, Bool.not_true, Bool.not_false] at c10)
      refine CW_seq (fun K6 hK6 => ?_)
      refine CW_region ?_
      refine OW_mv rfl ?_
      refine OW_opS (fun K hK r => ?_)
      simp only [x_bin, g_int, g_bool, g_string, g_pointer, g_slice, g_map, g_func, g_nilFunc, g_iface, g_nil_iface, g_nil_r, g_nil_l, eX, ↓reduceIte, Nat.reduceEqDiff, Int.reduceToNat]
      rw [e_eql _ _ _ _ (by simp)]
      rw [q_equal]
      first | rw [q_ptr_nil _ _ _ Try.underlying115] | rw [q_nil_ptr _ _ _ Try.underlying115]
      try simp only [eX, ↓reduceIte, Nat.reduceEqDiff, Int.reduceToNat]
      refine hK _ _ ?_; clear hK K
      refine OW_as rfl ?_
      refine OW_nil ?_
      try simp only [Ex.thnH, Ex.inBlockH, ↓reduceIte, Nat.reduceEqDiff]
      refine hK6 _ _ ?_; try clear hK6 K6
      refine CW_cond (fun r => rfl) (fun c14 => ?_) (fun c14 => ?_)
      · first
        | (exfalso; exact cnA c14; done)
        | skip
          (try simp only [decide_eq_true_eq, decide_eq_false_iff_not, Bool.not_eq_true, Bool.not_eq_false, Bool.and_eq_true, Bool.or_eq_true, Bool.or_eq_false_iff, Bool.not_eq_true, Bool.not_eq_eq_eq_not, Bool.not_true, Bool.not_false] at c14)
          refine CW_seq (fun K7 hK7 => ?_)
          refine CW_region ?_
          refine OW_opS (fun K hK r => ?_)
          simp only [x_makeInterface, i_makeInterface, Try.underlying38, orF_some, eX, ↓reduceIte, Nat.reduceEqDiff, Int.reduceToNat]
          refine hK _ _ ?_; clear hK K
          refine OW_as rfl ?_
          refine OW_nil ?_
          try simp only [Ex.thnH, Ex.inBlockH, ↓reduceIte, Nat.reduceEqDiff]
          refine hK7 _ _ ?_; try clear hK7 K7
          refine CW_ret ?_
          try simp only [Ex.thnH, Ex.inBlockH, ↓reduceIte, Nat.reduceEqDiff]
          refine ⟨[_], ⟨rfl, trivial⟩, _, Le.refl _, ?_, ?_⟩
          · show _ = errV _
            unfold St.fl; rw [if_neg hno]; rfl
          · unfold St.fl; rw [if_neg hno]; exact ⟨rd, cap, bs, Fs, h⟩
      · first
        | (exfalso; exact cnA c14; done)
        | skip
          (try simp only [decide_eq_true_eq, decide_eq_false_iff_not, Bool.not_eq_true, Bool.not_eq_false, Bool.and_eq_true, Bool.or_eq_true, Bool.or_eq_false_iff, Bool.not_eq_true, Bool.not_eq_eq_eq_not, Bool.not_true, Bool.not_false] at c14)
          refine CW_skip ?_
          try simp only [Ex.thnH, Ex.inBlockH, ↓reduceIte, Nat.reduceEqDiff]
          refine hK3 _ _ ?_; try clear hK3 K3
          refine CW_seq (fun K8 hK8 => ?_)
          refine CW_seq (fun K9 hK9 => ?_)
          refine CW_region ?_
          refine OW_mv rfl ?_
          refine OW_opS (fun K hK r => ?_)
          rw [x_nilCheck _ _ rfl]
          simp only [eX, ↓reduceIte, Nat.reduceEqDiff, Int.reduceToNat]
          refine hK _ _ ?_; clear hK K
          refine OW_opS (fun K hK r => ?_)
          simp only [x_fieldAddr, fa114_0, add_mk, Nat.reduceAdd, Nat.zero_add, eX, ↓reduceIte, Nat.reduceEqDiff, Int.reduceToNat]
          refine hK _ _ ?_; clear hK K
          refine OW_opS (fun K hK r => ?_)
          simp only [x_callF _ bd57, List.map_toArray, List.map_cons, List.map_nil, eX, ↓reduceIte, Nat.reduceEqDiff, Int.reduceToNat]
          fail "left out: CALL (*sluiceway/dev.power).step slot 21"

set_option maxRecDepth 100000 in
set_option maxHeartbeats 1000000 in
theorem flush_in (H : Hp) (p : Nat) (s : St) (rd cap : Nat) (bs : List Nat) (Fs : Nat → Hp) (h : SX H p s rd cap bs Fs) (hl : s.dv.length ≤ 1000) (hw : ∀ i, (s.dv.getD i default).wait.length ≤ 1000000) (dev : Int) (hin : 0 ≤ dev ∧ dev < s.dv.length) : CallH Try.prog 53 #[(.pointer (some ⟨p, 0, none⟩)), .int .i64 dev] H (fun v H' => v = errV (s.fl dev).2 ∧ SetX H' p (s.fl dev).1) := by
  refine CallH_enter (l := [_, _]) (rl := [.tmp 4]) (n := 27) Try.func53 rfl rfl rfl rfl rfl ?_
  simp only [envOf, Nat.reduceAdd]
  have hk : dev.toNat < s.dv.length := by omega
  have hfp := h.fp dev.toNat hk
  refine CW_seq (fun K1 hK1 => ?_)
  refine CW_region ?_
  refine OW_as rfl ?_
  refine OW_nil ?_
  try simp only [Ex.thnH, Ex.inBlockH, ↓reduceIte, Nat.reduceEqDiff]
  refine hK1 _ _ ?_; try clear hK1 K1
  refine CW_seq (fun K2 hK2 => ?_)
  refine CW_region ?_
  refine OW_mv rfl ?_
  refine OW_mv rfl ?_
  refine OW_opS (fun K hK r => ?_)
  simp only [x_callF _ bd55, List.map_toArray, List.map_cons, List.map_nil, eX, ↓reduceIte, Nat.reduceEqDiff, Int.reduceToNat]
  refine (device_ok _ p s rd cap bs Fs h dev hl).mono ?_
  rintro v H' ⟨rfl, rfl⟩
  rw [show devV s bs dev = ptrV (bs.getD dev.toNat 0) from if_pos hin]
  simp only [ptrV]
  try simp only [eX, ↓reduceIte, Nat.reduceEqDiff, Int.reduceToNat]
  refine hK _ _ ?_; clear hK K
  refine OW_as rfl ?_
  refine OW_nil ?_
  try simp only [Ex.thnH, Ex.inBlockH, ↓reduceIte, Nat.reduceEqDiff]
  refine hK2 _ _ ?_; try clear hK2 K2
  refine CW_seq (fun K3 hK3 => ?_)
  refine CW_block ?_
  refine CW_seq (fun K4 hK4 => ?_)
  refine CW_region ?_
  refine OW_mv rfl ?_
  refine OW_opS (fun K hK r => ?_)
  simp only [x_bin, g_int, g_bool, g_string, g_pointer, g_slice, g_map, g_func, g_nilFunc, g_iface, g_nil_iface, g_nil_r, g_nil_l, eX, ↓reduceIte, Nat.reduceEqDiff, Int.reduceToNat]
  rw [e_eql _ _ _ _ (by simp)]
  rw [q_equal]
  first | rw [q_ptr_nil _ _ _ Try.underlying47] | rw [q_nil_ptr _ _ _ Try.underlying47]
  try simp only [eX, ↓reduceIte, Nat.reduceEqDiff, Int.reduceToNat]
  refine hK _ _ ?_; clear hK K
  refine OW_as rfl ?_
  refine OW_nil ?_
  try simp only [Ex.thnH, Ex.inBlockH, ↓reduceIte, Nat.reduceEqDiff]
  refine hK4 _ _ ?_; try clear hK4 K4
  refine CW_cond (fun r => rfl) (fun c10 => ?_) (fun c10 => ?_)
  · first
    | (exfalso; exact cnA c10; done)
    | skip
      (try simp only [decide_eq_true_eq, decide_eq_false_iff_not, Bool.not_eq_true, Bool.not_eq_false, Bool.and_eq_true, Bool.or_eq_true, Bool.or_eq_false_iff, Bool.not_eq_true, Bool.not_eq_eq_eq_not, Bool.not_true, Bool.not_false] at c10)
      refine CW_seq (fun K5 hK5 => ?_)
      refine CW_region ?_
      refine OW_opS (fun K hK r => ?_)
      simp only [x_makeInterface, i_makeInterface, Try.underlying38, orF_some, eX, ↓reduceIte, Nat.reduceEqDiff, Int.reduceToNat]
      refine hK _ _ ?_; clear hK K
      refine OW_as rfl ?_
      refine OW_nil ?_
      try simp only [Ex.thnH, Ex.inBlockH, ↓reduceIte, Nat.reduceEqDiff]
      refine hK5 _ _ ?_; try clear hK5 K5
      refine CW_ret ?_
      try simp only [Ex.thnH, Ex.inBlockH, ↓reduceIte, Nat.reduceEqDiff]
      skip
  · first
    | (exfalso; exact cnA c10; done)
    | skip
      (try simp only [decide_eq_true_eq, decide_eq_false_iff_not, Bool.not_eq_true, Bool.not_eq_false, Bool.and_eq_true, Bool.or_eq_true, Bool.or_eq_false_iff, Bool.not_eq_true, Bool.not_eq_eq_eq_not, Bool.not_true, Bool.not_false] at c10)
      refine CW_seq (fun K6 hK6 => ?_)
      refine CW_region ?_
      refine OW_mv rfl ?_
      refine OW_opS (fun K hK r => ?_)
      simp only [x_bin, g_int, g_bool, g_string, g_pointer, g_slice, g_map, g_func, g_nilFunc, g_iface, g_nil_iface, g_nil_r, g_nil_l, eX, ↓reduceIte, Nat.reduceEqDiff, Int.reduceToNat]
      rw [e_eql _ _ _ _ (by simp)]
      rw [q_equal]
      first | rw [q_ptr_nil _ _ _ Try.underlying115] | rw [q_nil_ptr _ _ _ Try.underlying115]
      try simp only [eX, ↓reduceIte, Nat.reduceEqDiff, Int.reduceToNat]
      refine hK _ _ ?_; clear hK K
      refine OW_as rfl ?_
      refine OW_nil ?_
      try simp only [Ex.thnH, Ex.inBlockH, ↓reduceIte, Nat.reduceEqDiff]
      refine hK6 _ _ ?_; try clear hK6 K6
      refine CW_cond (fun r => rfl) (fun c14 => ?_) (fun c14 => ?_)
      · first
        | (exfalso; exact cnA c14; done)
        | skip
          (try simp only [decide_eq_true_eq, decide_eq_false_iff_not, Bool.not_eq_true, Bool.not_eq_false, Bool.and_eq_true, Bool.or_eq_true, Bool.or_eq_false_iff, Bool.not_eq_true, Bool.not_eq_eq_eq_not, Bool.not_true, Bool.not_false] at c14)
          refine CW_seq (fun K7 hK7 => ?_)
          refine CW_region ?_
          refine OW_opS (fun K hK r => ?_)
          simp only [x_makeInterface, i_makeInterface, Try.underlying38, orF_some, eX, ↓reduceIte, Nat.reduceEqDiff, Int.reduceToNat]
          refine hK _ _ ?_; clear hK K
          refine OW_as rfl ?_
          refine OW_nil ?_
          try simp only [Ex.thnH, Ex.inBlockH, ↓reduceIte, Nat.reduceEqDiff]
          refine hK7 _ _ ?_; try clear hK7 K7
          refine CW_ret ?_
          try simp only [Ex.thnH, Ex.inBlockH, ↓reduceIte, Nat.reduceEqDiff]
          skip
      · first
        | (exfalso; exact cnA c14; done)
        | skip
          (try simp only [decide_eq_true_eq, decide_eq_false_iff_not, Bool.not_eq_true, Bool.not_eq_false, Bool.and_eq_true, Bool.or_eq_true, Bool.or_eq_false_iff, Bool.not_eq_true, Bool.not_eq_eq_eq_not, Bool.not_true, Bool.not_false] at c14)
          refine CW_skip ?_
          try simp only [Ex.thnH, Ex.inBlockH, ↓reduceIte, Nat.reduceEqDiff]
          refine hK3 _ _ ?_; try clear hK3 K3
          refine CW_seq (fun K8 hK8 => ?_)
          refine CW_seq (fun K9 hK9 => ?_)
          refine CW_region ?_
          refine OW_mv rfl ?_
          refine OW_opS (fun K hK r => ?_)
          rw [x_nilCheck _ _ rfl]
          simp only [eX, ↓reduceIte, Nat.reduceEqDiff, Int.reduceToNat]
          refine hK _ _ ?_; clear hK K
          refine OW_opS (fun K hK r => ?_)
          simp only [x_fieldAddr, fa114_0, add_mk, Nat.reduceAdd, Nat.zero_add, eX, ↓reduceIte, Nat.reduceEqDiff, Int.reduceToNat]
          refine hK _ _ ?_; clear hK K
          refine OW_opS (fun K hK r => ?_)
          simp only [x_callF _ bd57, List.map_toArray, List.map_cons, List.map_nil, eX, ↓reduceIte, Nat.reduceEqDiff, Int.reduceToNat]
          refine (step_ok _ p s _ h.hd).mono ?_
          rintro v H' ⟨rfl, rfl⟩
          try simp only [eX, ↓reduceIte, Nat.reduceEqDiff, Int.reduceToNat]
          refine hK _ _ ?_; clear hK K
          refine OW_as rfl ?_
          refine OW_nil ?_
          try simp only [Ex.thnH, Ex.inBlockH, ↓reduceIte, Nat.reduceEqDiff]
          refine hK9 _ _ ?_; try clear hK9 K9
          refine CW_seq (fun K10 hK10 => ?_)
          refine CW_region ?_
          refine OW_mv rfl ?_
          refine OW_opS (fun K hK r => ?_)
          simp only [x_bin, g_int, g_bool, g_string, g_pointer, g_slice, g_map, g_func, g_nilFunc, g_err, g_iface, g_nil_iface, g_nil_r, g_nil_l, eX, ↓reduceIte, Nat.reduceEqDiff, Int.reduceToNat]
          first | rw [b_err_neq _ _ Try.underlying32] | (rw [e_neq _ _ _ _ (by simp), q_equal]; first | rw [q_iface_nil _ _ _ Try.underlying32] | rw [q_nil_iface _ _ _ Try.underlying32] | rw [q_nil_nil _ _ _ Try.underlying32])
          try simp only [eX, ↓reduceIte, Nat.reduceEqDiff, Int.reduceToNat]
          refine hK _ _ ?_; clear hK K
          refine OW_nil ?_
          try simp only [Ex.thnH, Ex.inBlockH, ↓reduceIte, Nat.reduceEqDiff]
          refine hK10 _ _ ?_; try clear hK10 K10
          refine CW_cond (fun r => rfl) (fun c23 => ?_) (fun c23 => ?_)
          · first
            | (exfalso; exact cnA c23; done)
            | skip
              (try simp only [decide_eq_true_eq, decide_eq_false_iff_not, Bool.not_eq_true, Bool.not_eq_false, Bool.and_eq_true, Bool.or_eq_true, Bool.or_eq_false_iff, Bool.not_eq_true, Bool.not_eq_eq_eq_not, Bool.not_true, Bool.not_false] at c23)
              have hst : s.step.2 = false := by cases hc : s.step.2 with
                | false => rfl
                | true => rw [hc] at c23; simp at c23
              refine CW_seq (fun K11 hK11 => ?_)
              refine CW_region ?_
              refine OW_mv rfl ?_
              refine OW_as rfl ?_
              refine OW_nil ?_
              try simp only [Ex.thnH, Ex.inBlockH, ↓reduceIte, Nat.reduceEqDiff]
              refine hK11 _ _ ?_; try clear hK11 K11
              refine CW_ret ?_
              try simp only [Ex.thnH, Ex.inBlockH, ↓reduceIte, Nat.reduceEqDiff]
              have hfl : s.fl dev = (s.step.1, some 3) := by
                unfold St.fl; rw [if_pos hin]
                generalize hq : s.step = q at *
                obtain ⟨t, bb⟩ := q
                simp only at hst; subst hst; rfl
              refine ⟨[_], ⟨rfl, trivial⟩, _, Le.refl _, ?_, ?_⟩
              · rw [hfl, hst]; rfl
              · rw [hfl]; exact ⟨rd, cap, bs, Fs, h.head (step_dv s) (upd_same _ _ _) (fun z o hz hzp => (upd_ne _ _ hzp).trans hz)⟩
          · first
            | (exfalso; exact cnA c23; done)
            | skip
              (try simp only [decide_eq_true_eq, decide_eq_false_iff_not, Bool.not_eq_true, Bool.not_eq_false, Bool.and_eq_true, Bool.or_eq_true, Bool.or_eq_false_iff, Bool.not_eq_true, Bool.not_eq_eq_eq_not, Bool.not_true, Bool.not_false] at c23)
              have hst : s.step.2 = true := by cases hc : s.step.2 with
                | true => rfl
                | false => rw [hc] at c23; simp at c23
              refine CW_skip ?_
              try simp only [Ex.thnH, Ex.inBlockH, ↓reduceIte, Nat.reduceEqDiff]
              refine hK8 _ _ ?_; try clear hK8 K8
              refine CW_seq (fun K12 hK12 => ?_)
              refine CW_region ?_
              refine OW_mv rfl ?_
              refine OW_opS (fun K hK r => ?_)
              simp only [x_callF _ bd61, List.map_toArray, List.map_cons, List.map_nil, eX, ↓reduceIte, Nat.reduceEqDiff, Int.reduceToNat]
              refine (settle_ok _ _ _ (Fs dev.toNat) emptyHp (h.dev dev.toNat hk) (fun x o hx => (upd_ne _ _ (fun e => by subst e; rw [hfp.1] at hx; cases hx)).trans (h.le dev.toNat hk x o hx)) (le_empty _) (fun _ _ => rfl) (.func 75) #[] #[] (fun _ => some 0) (fun KK _ n hn => ValH_func bd75 (flush1_ok KK n)) (hw _)).mono ?_
              rintro v26 H26 ⟨F', hdF, hlF, hdom, hkp⟩
              try simp only [eX, ↓reduceIte, Nat.reduceEqDiff, Int.reduceToNat]
              refine hK _ _ ?_; clear hK K
              refine OW_nil ?_
              try simp only [Ex.thnH, Ex.inBlockH, ↓reduceIte, Nat.reduceEqDiff]
              refine hK12 _ _ ?_; try clear hK12 K12
              refine CW_seq (fun K13 hK13 => ?_)
              refine CW_region ?_
              refine OW_as rfl ?_
              refine OW_nil ?_
              try simp only [Ex.thnH, Ex.inBlockH, ↓reduceIte, Nat.reduceEqDiff]
              refine hK13 _ _ ?_; try clear hK13 K13
              refine CW_ret ?_
              try simp only [Ex.thnH, Ex.inBlockH, ↓reduceIte, Nat.reduceEqDiff]
              have hfl : s.fl dev = ({ s.step.1 with dv := s.dv.set dev.toNat ((s.dv.getD dev.toNat default).settle (fun _ => some 0)) }, none) := by
                unfold St.fl; rw [if_pos hin]
                have hdq := step_dv s
                generalize hq : s.step = q at *
                obtain ⟨t, bb⟩ := q
                simp only at hst hdq; subst hst; rw [← hdq]
              refine ⟨[_], ⟨rfl, trivial⟩, _, Le.refl _, ?_, ?_⟩
              · rw [hfl]; rfl
              · rw [hfl]
                exact h.put hk hdF rfl (hkp p _ (upd_same _ _ _) hfp.1) hlF (fun z o hz hn hzp => hkp z o ((upd_ne _ _ hzp).trans hz) hn) (fun z hz => .inl (hdom z hz))


theorem flush_ok (H : Hp) (p : Nat) (s : St) (rd cap : Nat) (bs : List Nat) (Fs : Nat → Hp) (h : SX H p s rd cap bs Fs) (hl : s.dv.length ≤ 1000) (hw : ∀ i, (s.dv.getD i default).wait.length ≤ 1000000) (dev : Int) : CallH Try.prog 53 #[(.pointer (some ⟨p, 0, none⟩)), .int .i64 dev] H (fun v H' => v = errV (s.fl dev).2 ∧ SetX H' p (s.fl dev).1) := by
  by_cases hin : 0 ≤ dev ∧ dev < s.dv.length
  · exact flush_in H p s rd cap bs Fs h hl hw dev hin
  · exact flush_bad H p s rd cap bs Fs h hl dev hin

end Go.Proofs.Ytigofhhonnbkmaa.HL
end
section
namespace Go.Proofs.Ytigofhhonnbkmaa.HL
open Go Go.Proofs
set_option linter.unusedSimpArgs false
set_option linter.unusedVariables false
attribute [local irreducible] Lt Lq CW OW TW CallH



/-- a set that stands in a heap, beside what else is known -/

structure Stn (H K F : Hp) (p : Nat) (s : St) : Prop where
  set : SetX F p s
  le : Le F K
  old : Le H K
  ap : ∀ b, H b ≠ none → F b = none

def Sm (n : Nat) (s : St) : Prop := s.dv.length ≤ 5 ∧ ∀ i, (s.dv.getD i default).wait.length ≤ n

theorem Sm.up {n m : Nat} {s : St} (h : Sm n s) (hm : n ≤ m) : Sm m s := ⟨h.1, fun i => Nat.le_trans (h.2 i) hm⟩

theorem getD_set {l : List Dv} {k : Nat} {d : Dv} (i : Nat) : (l.set k d).getD i default = if i = k ∧ k < l.length then d else l.getD i default := by
  simp only [List.getD_eq_getElem?_getD, List.getElem?_set]
  by_cases h : k = i
  · subst h
    by_cases h2 : k < l.length
    · simp [h2]
    · simp [h2, List.getElem?_eq_none (by omega : l.length ≤ k)]
  · rw [if_neg h, if_neg (by rintro ⟨rfl, _⟩; exact h rfl)]

theorem Sm.set {n : Nat} {s t : St} (h : Sm n s) {k : Nat} {d : Dv} (hd : d.wait.length ≤ n) (ht : t.dv = s.dv.set k d) : Sm n t := by
  refine ⟨by rw [ht, List.length_set]; exact h.1, fun i => ?_⟩
  rw [ht, getD_set]
  split
  · exact hd
  · exact h.2 i

theorem wr_cases (s : St) (dev i : Int) (x : Sec) : ((s.wr dev i x).1 = s ∧ (s.wr dev i x).2 = some 1 ∧ s.has dev i = false) ∨ ((s.wr dev i x).1 = s.step.1 ∧ (s.wr dev i x).2 = some 3 ∧ s.step.2 = false ∧ s.has dev i = true) ∨ ((s.wr dev i x).1 = { s.step.1 with dv := s.dv.set dev.toNat ((s.dv.getD dev.toNat default).put ⟨i, x⟩) } ∧ (s.wr dev i x).2 = none ∧ s.step.2 = true ∧ s.has dev i = true) := by
  unfold St.wr
  by_cases h : s.has dev i = true
  · rw [if_pos h]
    have hd := step_dv s
    generalize hq : s.step = q at *
    obtain ⟨t, b⟩ := q
    cases b with
    | true => exact .inr (.inr ⟨by simp only at hd; rw [← hd], rfl, rfl, h⟩)
    | false => exact .inr (.inl ⟨rfl, rfl, rfl, h⟩)
  · rw [if_neg h]; exact .inl ⟨rfl, rfl, by simpa using h⟩

theorem fl_cases (s : St) (dev : Int) : ((s.fl dev).1 = s ∧ (s.fl dev).2 = some 1 ∧ ¬ (0 ≤ dev ∧ dev < s.dv.length)) ∨ ((s.fl dev).1 = s.step.1 ∧ (s.fl dev).2 = some 3 ∧ s.step.2 = false ∧ (0 ≤ dev ∧ dev < s.dv.length)) ∨ ((s.fl dev).1 = { s.step.1 with dv := s.dv.set dev.toNat ((s.dv.getD dev.toNat default).settle (fun _ => some 0)) } ∧ (s.fl dev).2 = none ∧ s.step.2 = true ∧ (0 ≤ dev ∧ dev < s.dv.length)) := by
  unfold St.fl
  by_cases h : 0 ≤ dev ∧ dev < s.dv.length
  · rw [if_pos h]
    have hd := step_dv s
    generalize hq : s.step = q at *
    obtain ⟨t, b⟩ := q
    cases b with
    | true => exact .inr (.inr ⟨by simp only at hd; rw [← hd], rfl, rfl, h⟩)
    | false => exact .inr (.inl ⟨rfl, rfl, rfl, h⟩)
  · rw [if_neg h]; exact .inl ⟨rfl, rfl, h⟩

theorem Sm.of_dv {n : Nat} {s t : St} (h : Sm n s) (ht : t.dv = s.dv) : Sm n t := ⟨by rw [ht]; exact h.1, by rw [ht]; exact h.2⟩

theorem Sm.wr {n : Nat} {s : St} (h : Sm n s) (dev i : Int) (x : Sec) : Sm (n + 1) (s.wr dev i x).1 := by
  rcases wr_cases s dev i x with ⟨e, _⟩ | ⟨e, _⟩ | ⟨e, _⟩
  · rw [e]; exact h.up (by omega)
  · rw [e]; exact (h.of_dv (step_dv s)).up (by omega)
  · rw [e]; exact (h.up (show n ≤ n + 1 by omega)).set (by simp [Dv.put]; exact h.2 _) rfl

theorem Sm.fl {n : Nat} {s : St} (h : Sm n s) (dev : Int) : Sm n (s.fl dev).1 := by
  rcases fl_cases s dev with ⟨e, _⟩ | ⟨e, _⟩ | ⟨e, _⟩
  · rw [e]; exact h
  · rw [e]; exact h.of_dv (step_dv s)
  · rw [e]; exact h.set (by simp [Dv.settle]) rfl

theorem Sm.cr {n : Nat} {s : St} (h : Sm n s) (l : List Kp) : Sm n (s.cr l) := by
  refine ⟨by simp [St.cr]; exact h.1, fun i => ?_⟩
  simp only [St.cr, List.getD_eq_getElem?_getD, List.getElem?_mapIdx]
  cases s.dv[i]? with
  | none => simp [default]
  | some d => simp [Dv.settle]

theorem Sm.new {l : List Int} (h : l.length ≤ 5) : Sm 0 (newSt l) := by
  refine ⟨by simp [newSt]; exact h, fun i => ?_⟩
  simp only [newSt, List.getD_eq_getElem?_getD, List.getElem?_map]
  cases l[i]? with
  | none => simp [default]
  | some d => simp [newDv]

theorem Stn.use {H K F : Hp} {p : Nat} {s t : St} (hA : Stn H K F p s) {F' K' : Hp} (hX : SetX F' p t) (hl : Le F' K') (hf : ∀ b o, K b = some o → F b = none → K' b = some o ∧ F' b = none) : Stn H K' F' p t := by
  refine ⟨hX, hl, fun b o hb => (hf b o (hA.old b o hb) (hA.ap b (by rw [hb]; simp))).1, fun b hb => ?_⟩
  cases hc : H b with
  | none => exact absurd hc hb
  | some o => exact (hf b o (hA.old b o hc) (hA.ap b hb)).2

theorem Stn.put {H K F : Hp} {p : Nat} {s : St} (hA : Stn H K F p s) {b : Nat} (hb : F b = none) (o : Obj) : Stn (H.upd b o) (K.upd b o) F p s := by
  refine ⟨hA.set, le_upd_of hA.le hb, fun x u hx => ?_, fun x hx => ?_⟩
  · by_cases e : x = b
    · subst e; rw [upd_same] at hx ⊢; exact hx
    · rw [upd_ne _ _ e] at hx ⊢; exact hA.old x u hx
  · by_cases e : x = b
    · subst e; exact hb
    · rw [upd_ne _ _ e] at hx; exact hA.ap x hx

theorem Stn.fresh {H K F : Hp} {p : Nat} {s : St} (hA : Stn H K F p s) {b : Nat} (hb : K b = none) : F b = none := none_of_le hA.le hb

theorem Stn.less {H H' K F : Hp} {p : Nat} {s : St} (hA : Stn H K F p s) (hl : Le H' H) : Stn H' K F p s := ⟨hA.set, hA.le, Le.trans hl hA.old, fun b hb => hA.ap b (fun hn => hb (none_of_le hl hn))⟩

theorem Stn.more {H K F : Hp} {p : Nat} {s : St} (hA : Stn H K F p s) {K' : Hp} (hl : Le K K') : Stn H K' F p s := ⟨hA.set, Le.trans hA.le hl, Le.trans hA.old hl, hA.ap⟩

theorem writeL {H K F : Hp} {p : Nat} {s : St} (hA : Stn H K F p s) {n : Nat} (hs : Sm n s) (hn : n ≤ 1000000) (dev i : Int) (x : Sec) : CallH Try.prog 24 #[(.pointer (some ⟨p, 0, none⟩)), .int .i64 dev, .int .i64 i, x.v] K (fun v K' => v = errV (s.wr dev i x).2 ∧ ∃ F', Stn H K' F' p (s.wr dev i x).1) := by
  obtain ⟨r, cap, bs, Fs, h⟩ := hA.set
  refine (CallH.use (write_ok F p s r cap bs Fs h (Nat.le_trans hs.1 (by decide)) (fun i => Nat.le_trans (hs.2 i) hn) dev i x) hA.le).mono ?_
  rintro v K' ⟨F', ⟨rfl, hX⟩, hl, hf⟩
  exact ⟨rfl, F', hA.use hX hl hf⟩

theorem flushL {H K F : Hp} {p : Nat} {s : St} (hA : Stn H K F p s) {n : Nat} (hs : Sm n s) (hn : n ≤ 1000000) (dev : Int) : CallH Try.prog 53 #[(.pointer (some ⟨p, 0, none⟩)), .int .i64 dev] K (fun v K' => v = errV (s.fl dev).2 ∧ ∃ F', Stn H K' F' p (s.fl dev).1) := by
  obtain ⟨r, cap, bs, Fs, h⟩ := hA.set
  refine (CallH.use (flush_ok F p s r cap bs Fs h (Nat.le_trans hs.1 (by decide)) (fun i => Nat.le_trans (hs.2 i) hn) dev) hA.le).mono ?_
  rintro v K' ⟨F', ⟨rfl, hX⟩, hl, hf⟩
  exact ⟨rfl, F', hA.use hX hl hf⟩

theorem armL {H K F : Hp} {p : Nat} {s : St} (hA : Stn H K F p s) (n : Int) : CallH Try.prog 29 #[(.pointer (some ⟨p, 0, none⟩)), .int .i64 n] K (fun v K' => v = errV (if n < 0 then some 1 else none) ∧ ∃ F', Stn H K' F' p (if n < 0 then s else { s with armed := true, left := n })) := by
  obtain ⟨r, cap, bs, Fs, h⟩ := hA.set
  refine (CallH.use (arm_ok F p s r cap bs Fs h n) hA.le).mono ?_
  rintro v K' ⟨F', ⟨rfl, hX⟩, hl, hf⟩
  exact ⟨rfl, F', hA.use hX hl hf⟩

theorem crashL {H K F : Hp} {p : Nat} {s : St} (hA : Stn H K F p s) {n : Nat} (hs : Sm n s) (hn : n ≤ 1000000) {G : Hp} (hG : Le G K) (hGF : ∀ x, G x ≠ none → F x = none) (hGH : ∀ x, G x ≠ none → H x = none) (a : Option Addr) (cap : Nat) (l : List Kp) (hv : Holds G 3 (.slice a l.length cap) l.length (kps l)) (hl : l.length ≤ 1000) : CallH Try.prog 26 #[(.pointer (some ⟨p, 0, none⟩)), .slice a l.length cap] K (fun _ K' => ∃ F', Stn H K' F' p (s.cr l)) := by
  obtain ⟨r, cap', bs, Fs, h⟩ := hA.set
  have hap : F.apart G := fun b hb => hGF b hb
  have hfg : ∀ x, F x ≠ none → G x = none := fun x hx => by
    cases hc : G x with
    | none => rfl
    | some o => exact absurd (hGF x (by rw [hc]; simp)) hx
  have hpF : F p ≠ none := by rw [h.hd]; simp
  refine (CallH.use (crash_ok (F.join G) p s r cap' bs Fs (h.mono (le_join F G)) (Nat.le_trans hs.1 (by decide)) (fun i => Nat.le_trans (hs.2 i) hn) G (le_join_r hap) (hfg p hpF) (fun i hi x hx => hfg x (fun hn => hx (none_of_le (h.le i hi) hn))) a cap l hv hl) (join_le hA.le hG)).mono ?_
  rintro v K' ⟨F', hX, hl', hf⟩
  have hf' : ∀ b o, H b = some o → K' b = some o ∧ F' b = none := fun b o hb => by
    refine hf b o (hA.old b o hb) ?_
    have h1 : F b = none := hA.ap b (by rw [hb]; simp)
    rw [join_r h1]
    cases hc : G b with
    | none => rfl
    | some u => have := hGH b (by rw [hc]; simp); rw [hb] at this; cases this
  refine ⟨F', hX, hl', fun b o hb => (hf' b o hb).1, fun b hb => ?_⟩
  cases hc : H b with
  | none => exact absurd hc hb
  | some o => exact (hf' b o hc).2

theorem readL {H K F : Hp} {p : Nat} {s : St} (hA : Stn H K F p s) {n : Nat} (hs : Sm n s) (hn : n ≤ 1000000) (dev i : Int) : CallH Try.prog 65 #[(.pointer (some ⟨p, 0, none⟩)), .int .i64 dev, .int .i64 i] K (fun v K' => v = .tuple #[(s.rd dev i).1.v, errV (s.rd dev i).2] ∧ K' = K) := by
  obtain ⟨r, cap, bs, Fs, h⟩ := hA.set
  exact read_ok K p s r cap bs Fs (h.mono hA.le) (Nat.le_trans hs.1 (by decide)) (fun i => Nat.le_trans (hs.2 i) hn) dev i

theorem downL {H K F : Hp} {p : Nat} {s : St} (hA : Stn H K F p s) : CallH Try.prog 32 #[(.pointer (some ⟨p, 0, none⟩))] K (fun v K' => v = .bool s.gone ∧ K' = K) := by
  obtain ⟨r, cap, bs, Fs, h⟩ := hA.set
  exact down_ok K p s r cap bs Fs (h.mono hA.le)

theorem stepsL {H K F : Hp} {p : Nat} {s : St} (hA : Stn H K F p s) : CallH Try.prog 33 #[(.pointer (some ⟨p, 0, none⟩))] K (fun v K' => v = .int .i64 s.steps ∧ K' = K) := by
  obtain ⟨r, cap, bs, Fs, h⟩ := hA.set
  exact steps_ok K p s r cap bs Fs (h.mono hA.le)

def St.wa (s : St) (dev : Int) : Int := if 0 ≤ dev ∧ dev < s.dv.length then ((s.dv.getD dev.toNat default).wait.length : Int) else 0

def St.sz (s : St) (dev : Int) : Int := if 0 ≤ dev ∧ dev < s.dv.length then (s.dv.getD dev.toNat default).size else 0

theorem sizeL {H K F : Hp} {p : Nat} {s : St} (hA : Stn H K F p s) {n : Nat} (hs : Sm n s) (dev : Int) : CallH Try.prog 52 #[(.pointer (some ⟨p, 0, none⟩)), .int .i64 dev] K (fun v K' => v = .int .i64 (s.sz dev) ∧ K' = K) := by
  obtain ⟨r, cap, bs, Fs, h⟩ := hA.set
  unfold St.sz
  by_cases hin : 0 ≤ dev ∧ dev < s.dv.length
  · rw [if_pos hin]; exact size_in K p s r cap bs Fs (h.mono hA.le) (Nat.le_trans hs.1 (by decide)) dev hin
  · rw [if_neg hin]; exact size_out K p s r cap bs Fs (h.mono hA.le) (Nat.le_trans hs.1 (by decide)) dev hin

theorem newL (H : Hp) (a : Option Addr) (cap : Nat) (l : List Int) (hv : Holds H 1 (.slice a l.length cap) l.length (l.map (Value.int .i64))) (hg : goodN l = true) (hl : l.length ≤ 1000) : CallH Try.prog 19 #[.slice a l.length cap] H (fun v H' => ∃ p F, v = .tuple #[ptrV p, errV none] ∧ Stn H H' F p (newSt l)) := by
  refine (new_ok H a cap l hv hl).mono ?_
  rintro v H' (⟨h1, _, _⟩ | ⟨_, hle, p, rfl, F, hX, hF, hd⟩)
  · rw [hg] at h1; cases h1
  · refine ⟨p, F, rfl, hX, hF, hle, fun b hb => ?_⟩
    cases hc : F b with
    | none => rfl
    | some o => exact absurd (hd b (by rw [hc]; simp)) hb

end Go.Proofs.Ytigofhhonnbkmaa.HL
end
section
namespace Go.Proofs.Ytigofhhonnbkmaa.HL
open Go Go.Proofs
set_option linter.unusedSimpArgs false
set_option linter.unusedVariables false
attribute [local irreducible] Lt Lq CW OW TW CallH


def Mf.sec (m : Mf) : Sec := ⟨m.sealB, m.seal_len⟩
/-- a manifest is saved -/
def St.saveM (s : St) (m : Mf) : St × Option Int :=
  if m.good = false then (s, some 2) else if s.sz 0 < 2 then (s, some 1) else match s.wr 0 (m.gen % 2) m.sec with
    | (t, none) => t.fl 0
    | (t, some e) => (t, some e)
theorem saveM_no {s : St} {m : Mf} (h : m.good = false) : s.saveM m = (s, some 2) := by unfold St.saveM; rw [if_pos h]
theorem saveM_few {s : St} {m : Mf} (h : m.good = true) (hz : s.sz 0 < 2) : s.saveM m = (s, some 1) := by unfold St.saveM; rw [if_neg (by rw [h]; simp), if_pos hz]
theorem saveM_err {s : St} {m : Mf} (h : m.good = true) (hz : ¬ s.sz 0 < 2) {e : Int} (he : (s.wr 0 (m.gen % 2) m.sec).2 = some e) : s.saveM m = s.wr 0 (m.gen % 2) m.sec := by
  unfold St.saveM
  rw [if_neg (by rw [h]; simp), if_neg hz]
  generalize s.wr 0 (m.gen % 2) m.sec = q at *
  obtain ⟨t, e'⟩ := q
  cases he; rfl
theorem saveM_all {s : St} {m : Mf} (h : m.good = true) (hz : ¬ s.sz 0 < 2) (he : (s.wr 0 (m.gen % 2) m.sec).2 = none) : s.saveM m = (s.wr 0 (m.gen % 2) m.sec).1.fl 0 := by
  unfold St.saveM
  rw [if_neg (by rw [h]; simp), if_neg hz]
  generalize s.wr 0 (m.gen % 2) m.sec = q at *
  obtain ⟨t, e'⟩ := q
  cases he; rfl
abbrev zM : Mf := ⟨0, 0, 0, 0, 0, []⟩
open Classical in
noncomputable def pick (best : Mf) (L : List Int) (i : Int) : Mf := if opMe L = none ∧ (opMv L).gen % 2 = i ∧ best.gen < (opMv L).gen then opMv L else best
/-- which counts of so many sectors -/
noncomputable def St.bestN (s : St) : Nat → Mf
  | 0 => zM
  | k + 1 => pick (s.bestN k) (s.rd 0 k).1.b k
/-- the manifest that counts -/
noncomputable def St.loadM (s : St) : Mf × Option Int :=
  if s.sz 0 < 2 then (zM, some 1) else if s.gone = true then (zM, some 3) else if (s.bestN 2).gen = 0 then (zM, some 9) else (s.bestN 2, none)
theorem pick_yes {best : Mf} {L : List Int} {i : Int} (h : opMe L = none ∧ (opMv L).gen % 2 = i ∧ best.gen < (opMv L).gen) : pick best L i = opMv L := by unfold pick; rw [if_pos h]
theorem pick_no {best : Mf} {L : List Int} {i : Int} (h : ¬ (opMe L = none ∧ (opMv L).gen % 2 = i ∧ best.gen < (opMv L).gen)) : pick best L i = best := by unfold pick; rw [if_neg h]
theorem opMv_gen {L : List Int} : 0 ≤ (opMv L).gen ∧ (opMv L).gen ≤ 17179869183 := by
  cases h : opM L with
  | none => rw [(opM_no h).1]; decide
  | some m =>
    rw [(opM_yes h).1]
    have := (opM_of h).1.g
    omega
theorem rd_fine {s : St} (hg : s.gone = false) {at_ : Int} (h0 : 0 ≤ at_) (h1 : at_ < s.sz 0) : (s.rd 0 at_).2 = none := by
  unfold St.sz at h1
  split at h1
  · rename_i h
    unfold St.rd
    rw [if_neg (by rw [hg]; simp), if_pos]
    unfold St.has
    rw [Bool.and_eq_true, decide_eq_true_eq, decide_eq_true_eq]
    exact ⟨h, h0, h1⟩
  · omega

end Go.Proofs.Ytigofhhonnbkmaa.HL
end
section
namespace Go.Proofs.Ytigofhhonnbkmaa.HL
open Go Go.Proofs
set_option linter.unusedSimpArgs false
set_option linter.unusedVariables false
attribute [local irreducible] Lt Lq CW OW TW CallH

set_option maxRecDepth 100000 in
set_option maxHeartbeats 4000000 in
theorem saveL {Q H F : Hp} {p : Nat} {s : St} (hA : Stn Q H F p s) {n : Nat} (hs : Sm n s) (hn : n ≤ 100000) (m : Mf) (ma : Option Addr) (mc : Nat) (hm : Holds H 1 (.slice ma m.hd.length mc) m.hd.length (i64s m.hd)) (hml : m.hd.length ≤ 1000000) : CallH Try.prog 22 #[.pointer (some ⟨p, 0, none⟩), .agg #[.int .i64 m.gen, .int .i64 m.ep, .int .i64 m.ba, .int .i64 m.ar, .int .i64 m.ln, .slice ma m.hd.length mc]] H (fun v H' => v = errV (s.saveM m).2 ∧ ∃ F', Stn Q H' F' p (s.saveM m).1) := by
  refine CallH_enter (l := [_, _]) (rl := [.tmp 4]) (n := 33) Try.func22 rfl rfl rfl rfl rfl ?_
  simp only [envOf, Nat.reduceAdd]
  have hsl := m.seal_len
  have hsl2 := m.sec.h
  refine CW_seq (fun K1 hK1 => ?_)
  refine CW_region ?_
  refine OW_opS (fun K hK r => ?_)
  simp only [x_box, Value.cells, eX, ↓reduceIte, Nat.reduceEqDiff, Int.reduceToNat]
  intro b3 hb3
  have f3_H : H b3 = none := none_of_le lhA hb3
  have hA3 := hA.put (hA.fresh hb3) (.cells #[.int .i64 m.gen, .int .i64 m.ep, .int .i64 m.ba, .int .i64 m.ar, .int .i64 m.ln, .slice ma m.hd.length mc] 27)
  have q3 : Q b3 = none := none_of_le hA.old hb3
  try simp only [eX, ↓reduceIte, Nat.reduceEqDiff, Int.reduceToNat]
  refine hK _ _ ?_; clear hK K
  refine OW_as rfl ?_
  refine OW_nil ?_
  try simp only [Ex.thnH, Ex.inBlockH, ↓reduceIte, Nat.reduceEqDiff]
  refine hK1 _ _ ?_; try clear hK1 K1
  refine CW_seq (fun K2 hK2 => ?_)
  refine CW_region ?_
  refine OW_opS (fun K hK r => ?_)
  simp only [x_load, eX, ↓reduceIte, Nat.reduceEqDiff, Int.reduceToNat]
  first | refine Lt_loadAll Try.underlying27 rfl sz27 hbA bdA ?_ | refine Lt_loadAtA Try.underlying27 rfl sz27 hbA bdA ?_
  try simp only [List.extract_toArray, List.extract_eq_take_drop, Nat.zero_add, Nat.reduceAdd, Nat.reduceSub, Nat.sub_zero, List.drop_succ_cons, List.drop_zero, List.take_succ_cons, List.take_zero, List.take_nil, List.drop_nil]
  try simp only [eX, ↓reduceIte, Nat.reduceEqDiff, Int.reduceToNat]
  refine hK _ _ ?_; clear hK K
  refine OW_opS (fun K hK r => ?_)
  simp only [x_callF _ bd10, List.map_toArray, List.map_cons, List.map_nil, eX, ↓reduceIte, Nat.reduceEqDiff, Int.reduceToNat]
  refine (mSeal_ok _ m ma mc (hm.le (le_upd _ _ _ hb3)) hml).mono ?_
  rintro v10 H10 ⟨rfl, l10⟩
  have hA10 := hA3.more l10
  have k10_3 := l10 b3 _ (upd_same _ _ _)
  have lH10 : Le H H10 := Le.trans (le_upd _ _ _ hb3) l10
  try simp only [eX, ↓reduceIte, Nat.reduceEqDiff, Int.reduceToNat]
  refine hK _ _ ?_; clear hK K
  refine OW_mv rfl ?_
  refine OW_opS (fun K hK r => ?_)
  simp only [x_extract, i_extract, List.getElem?_toArray, List.getElem?_cons_zero, List.getElem?_cons_succ, orF_some, eX, ↓reduceIte, Nat.reduceEqDiff, Int.reduceToNat]
  refine hK _ _ ?_; clear hK K
  refine OW_opS (fun K hK r => ?_)
  simp only [x_extract, i_extract, List.getElem?_toArray, List.getElem?_cons_zero, List.getElem?_cons_succ, orF_some, eX, ↓reduceIte, Nat.reduceEqDiff, Int.reduceToNat]
  refine hK _ _ ?_; clear hK K
  refine OW_opS (fun K hK r => ?_)
  simp only [x_alloc, zr30, orF_some, Value.cells, eX, ↓reduceIte, Nat.reduceEqDiff, Int.reduceToNat]
  intro b5 hb5
  try have n5_b3 : b3 ≠ b5 := ne_of_none hbA hb5
  have f5_H : H b5 = none := none_of_le lhA hb5
  try simp only [eX, ↓reduceIte, Nat.reduceEqDiff, Int.reduceToNat]
  refine hK _ _ ?_; clear hK K
  refine OW_op rfl (lt_none) (fun K hK r => ?_)
  simp only [x_store, eX, ↓reduceIte, Nat.reduceEqDiff, Int.reduceToNat]
  first | refine Lt_storeAll sz30 bdA hbA bdA plA (by decide) ?_ | refine Lt_storeAtA sz30 bdA hbA bdA plA (by decide) ?_
  try simp only [eX, ↓reduceIte, Nat.reduceEqDiff, Int.reduceToNat]
  refine hK _ _ ?_; clear hK K
  refine OW_as rfl ?_
  refine OW_nil ?_
  try simp only [Ex.thnH, Ex.inBlockH, ↓reduceIte, Nat.reduceEqDiff]
  refine hK2 _ _ ?_; try clear hK2 K2
  refine CW_seq (fun K3 hK3 => ?_)
  refine CW_block ?_
  refine CW_seq (fun K4 hK4 => ?_)
  refine CW_region ?_
  refine OW_mv rfl ?_
  refine OW_opS (fun K hK r => ?_)
  simp only [x_bin, g_int, g_bool, g_string, g_pointer, g_slice, g_map, g_func, g_nilFunc, g_err, g_iface, g_nil_iface, g_nil_r, g_nil_l, eX, ↓reduceIte, Nat.reduceEqDiff, Int.reduceToNat]
  first | rw [b_err_neq _ _ Try.underlying32] | (rw [e_neq _ _ _ _ (by simp), q_equal]; first | rw [q_iface_nil _ _ _ Try.underlying32] | rw [q_nil_iface _ _ _ Try.underlying32] | rw [q_nil_nil _ _ _ Try.underlying32])
  try simp only [eX, ↓reduceIte, Nat.reduceEqDiff, Int.reduceToNat]
  refine hK _ _ ?_; clear hK K
  refine OW_as rfl ?_
  refine OW_nil ?_
  try simp only [Ex.thnH, Ex.inBlockH, ↓reduceIte, Nat.reduceEqDiff]
  refine hK4 _ _ ?_; try clear hK4 K4
  refine CW_cond (fun r => rfl) (fun c13 => ?_) (fun c13 => ?_)
  · first
    | (exfalso; exact cnA c13; done)
    | skip
      have hA5 := hA10.put (hA10.fresh hb5) (.cells m.sec.c.toArray 30)
      have q5 : Q b5 = none := none_of_le (Le.trans hA.old lH10) hb5
      have lQ5 : Le Q ((Q.upd b3 (.cells #[.int .i64 m.gen, .int .i64 m.ep, .int .i64 m.ba, .int .i64 m.ar, .int .i64 m.ln, .slice ma m.hd.length mc] 27)).upd b5 (.cells m.sec.c.toArray 30)) := le_upd_of (le_upd _ _ _ q3) q5
      have hgd : m.good = false := by
        unfold Mf.bad at c13
        cases h : m.good with
        | false => rfl
        | true => rw [h] at c13; cases c13
      refine CW_seq (fun K5 hK5 => ?_)
      refine CW_region ?_
      refine OW_mv rfl ?_
      refine OW_as rfl ?_
      refine OW_nil ?_
      try simp only [Ex.thnH, Ex.inBlockH, ↓reduceIte, Nat.reduceEqDiff]
      refine hK5 _ _ ?_; try clear hK5 K5
      refine CW_ret ?_
      try simp only [Ex.thnH, Ex.inBlockH, ↓reduceIte, Nat.reduceEqDiff]
      refine ⟨[_], ⟨rfl, trivial⟩, _, Le.refl _, ?_, F, ?_⟩
      · rw [saveM_no hgd]; unfold Mf.bad; rw [hgd]; rfl
      · rw [saveM_no hgd]; exact hA5.less lQ5
  · first
    | (exfalso; exact cnA c13; done)
    | skip
      have hA5 := hA10.put (hA10.fresh hb5) (.cells m.sec.c.toArray 30)
      have q5 : Q b5 = none := none_of_le (Le.trans hA.old lH10) hb5
      have lQ5 : Le Q ((Q.upd b3 (.cells #[.int .i64 m.gen, .int .i64 m.ep, .int .i64 m.ba, .int .i64 m.ar, .int .i64 m.ln, .slice ma m.hd.length mc] 27)).upd b5 (.cells m.sec.c.toArray 30)) := le_upd_of (le_upd _ _ _ q3) q5
      have hgd : m.good = true := by
        unfold Mf.bad at c13
        cases h : m.good with
        | true => rfl
        | false => rw [h] at c13; cases c13
      have hok := Mf.good_iff.1 hgd
      have hgn := hok.g
      refine CW_seq (fun K6 hK6 => ?_)
      refine CW_region ?_
      refine OW_mv rfl ?_
      refine OW_opS (fun K hK r => ?_)
      simp only [x_callF _ bd52, List.map_toArray, List.map_cons, List.map_nil, eX, ↓reduceIte, Nat.reduceEqDiff, Int.reduceToNat]
      refine (sizeL hA5 hs 0).mono ?_
      rintro v H' ⟨rfl, hq⟩
      have hq := hq.symm
      subst hq
      try simp only [eX, ↓reduceIte, Nat.reduceEqDiff, Int.reduceToNat]
      refine hK _ _ ?_; clear hK K
      refine OW_opS (fun K hK r => ?_)
      simp (disch := (first | omega | decide)) only [x_bin, g_int, b_lss, dec_lt_t, dec_lt_f, dec_le_t, dec_le_f, dec_eq_t, dec_eq_f, Bool.not_true, Bool.not_false, eX, ↓reduceIte, Nat.reduceEqDiff, Int.reduceToNat]
      refine hK _ _ ?_; clear hK K
      refine OW_as rfl ?_
      refine OW_nil ?_
      try simp only [Ex.thnH, Ex.inBlockH, ↓reduceIte, Nat.reduceEqDiff]
      refine hK6 _ _ ?_; try clear hK6 K6
      refine CW_cond (fun r => rfl) (fun c17 => ?_) (fun c17 => ?_)
      · first
        | (exfalso; exact cnA c17; done)
        | skip
          (try simp only [decide_eq_true_eq, decide_eq_false_iff_not, Bool.not_eq_true, Bool.not_eq_false, Bool.and_eq_true, Bool.or_eq_true, Bool.or_eq_false_iff, Bool.not_eq_true, Bool.not_eq_eq_eq_not, Bool.not_true, Bool.not_false] at c17)
          refine CW_seq (fun K7 hK7 => ?_)
          refine CW_region ?_
          refine OW_opS (fun K hK r => ?_)
          simp only [x_makeInterface, i_makeInterface, Try.underlying38, orF_some, eX, ↓reduceIte, Nat.reduceEqDiff, Int.reduceToNat]
          refine hK _ _ ?_; clear hK K
          refine OW_as rfl ?_
          refine OW_nil ?_
          try simp only [Ex.thnH, Ex.inBlockH, ↓reduceIte, Nat.reduceEqDiff]
          refine hK7 _ _ ?_; try clear hK7 K7
          refine CW_ret ?_
          try simp only [Ex.thnH, Ex.inBlockH, ↓reduceIte, Nat.reduceEqDiff]
          refine ⟨[_], ⟨rfl, trivial⟩, _, Le.refl _, ?_, F, ?_⟩
          · rw [saveM_few hgd c17]; rfl
          · rw [saveM_few hgd c17]; exact hA5.less lQ5
      · first
        | (exfalso; exact cnA c17; done)
        | skip
          (try simp only [decide_eq_true_eq, decide_eq_false_iff_not, Bool.not_eq_true, Bool.not_eq_false, Bool.and_eq_true, Bool.or_eq_true, Bool.or_eq_false_iff, Bool.not_eq_true, Bool.not_eq_eq_eq_not, Bool.not_true, Bool.not_false] at c17)
          have htm : m.gen.tmod 2 = m.gen % 2 := Int.tmod_eq_emod_of_nonneg (by omega)
          refine CW_skip ?_
          try simp only [Ex.thnH, Ex.inBlockH, ↓reduceIte, Nat.reduceEqDiff]
          refine hK3 _ _ ?_; try clear hK3 K3
          refine CW_seq (fun K8 hK8 => ?_)
          refine CW_seq (fun K9 hK9 => ?_)
          refine CW_region ?_
          refine OW_mv rfl ?_
          refine OW_opS (fun K hK r => ?_)
          simp only [x_fieldAddr, fa27_0, add_mk, Nat.reduceAdd, Nat.zero_add, eX, ↓reduceIte, Nat.reduceEqDiff, Int.reduceToNat]
          refine hK _ _ ?_; clear hK K
          refine OW_opS (fun K hK r => ?_)
          simp only [x_load, eX, ↓reduceIte, Nat.reduceEqDiff, Int.reduceToNat]
          refine Lt_loadAt1 Try.underlying3 rfl hbA ldA ?_
          try simp only [eX, ↓reduceIte, Nat.reduceEqDiff, Int.reduceToNat]
          refine hK _ _ ?_; clear hK K
          refine OW_opS (fun K hK r => ?_)
          simp (disch := (first | omega | decide)) only [x_bin, g_int, b_rem, wrap_i64, wrap_u64, wrap_u32, wrap_u8, eX, ↓reduceIte, Nat.reduceEqDiff, Int.reduceToNat]
          rw [htm]
          refine hK _ _ ?_; clear hK K
          refine OW_opS (fun K hK r => ?_)
          simp only [x_load, eX, ↓reduceIte, Nat.reduceEqDiff, Int.reduceToNat]
          first | refine Lt_loadAll Try.underlying30 rfl sz30 hbA bdA ?_ | refine Lt_loadAtA Try.underlying30 rfl sz30 hbA bdA ?_
          try simp only [eX, ↓reduceIte, Nat.reduceEqDiff, Int.reduceToNat]
          refine hK _ _ ?_; clear hK K
          refine OW_opS (fun K hK r => ?_)
          simp only [x_callF _ bd24, List.map_toArray, List.map_cons, List.map_nil, eX, ↓reduceIte, Nat.reduceEqDiff, Int.reduceToNat]
          refine (writeL hA5 hs (by omega) 0 (m.gen % 2) m.sec).mono ?_
          rintro v27 H27 ⟨rfl, F27, hS27⟩
          try simp only [eX, ↓reduceIte, Nat.reduceEqDiff, Int.reduceToNat]
          refine hK _ _ ?_; clear hK K
          refine OW_as rfl ?_
          refine OW_nil ?_
          try simp only [Ex.thnH, Ex.inBlockH, ↓reduceIte, Nat.reduceEqDiff]
          refine hK9 _ _ ?_; try clear hK9 K9
          refine CW_seq (fun K10 hK10 => ?_)
          refine CW_region ?_
          refine OW_mv rfl ?_
          refine OW_opS (fun K hK r => ?_)
          simp only [x_bin, g_int, g_bool, g_string, g_pointer, g_slice, g_map, g_func, g_nilFunc, g_err, g_iface, g_nil_iface, g_nil_r, g_nil_l, eX, ↓reduceIte, Nat.reduceEqDiff, Int.reduceToNat]
          first | rw [b_err_neq _ _ Try.underlying32] | (rw [e_neq _ _ _ _ (by simp), q_equal]; first | rw [q_iface_nil _ _ _ Try.underlying32] | rw [q_nil_iface _ _ _ Try.underlying32] | rw [q_nil_nil _ _ _ Try.underlying32])
          try simp only [eX, ↓reduceIte, Nat.reduceEqDiff, Int.reduceToNat]
          refine hK _ _ ?_; clear hK K
          refine OW_nil ?_
          try simp only [Ex.thnH, Ex.inBlockH, ↓reduceIte, Nat.reduceEqDiff]
          refine hK10 _ _ ?_; try clear hK10 K10
          refine CW_cond (fun r => rfl) (fun c29 => ?_) (fun c29 => ?_)
          · first
            | (exfalso; exact cnA c29; done)
            | skip
              obtain ⟨ev, hev⟩ : ∃ ev, (s.wr 0 (m.gen % 2) m.sec).2 = some ev := Option.isSome_iff_exists.1 c29
              rw [hev]
              refine CW_seq (fun K11 hK11 => ?_)
              refine CW_region ?_
              refine OW_mv rfl ?_
              refine OW_as rfl ?_
              refine OW_nil ?_
              try simp only [Ex.thnH, Ex.inBlockH, ↓reduceIte, Nat.reduceEqDiff]
              refine hK11 _ _ ?_; try clear hK11 K11
              refine CW_ret ?_
              try simp only [Ex.thnH, Ex.inBlockH, ↓reduceIte, Nat.reduceEqDiff]
              refine ⟨[_], ⟨rfl, trivial⟩, _, Le.refl _, ?_, F27, ?_⟩
              · rw [saveM_err hgd c17 hev, hev]; rfl
              · rw [saveM_err hgd c17 hev]; exact hS27.less lQ5
          · first
            | (exfalso; exact cnA c29; done)
            | skip
              have hev : (s.wr 0 (m.gen % 2) m.sec).2 = none := by
                cases h : (s.wr 0 (m.gen % 2) m.sec).2 with
                | none => rfl
                | some z => rw [h] at c29; cases c29
              refine CW_skip ?_
              try simp only [Ex.thnH, Ex.inBlockH, ↓reduceIte, Nat.reduceEqDiff]
              refine hK8 _ _ ?_; try clear hK8 K8
              refine CW_seq (fun K12 hK12 => ?_)
              refine CW_region ?_
              refine OW_mv rfl ?_
              refine OW_opS (fun K hK r => ?_)
              simp only [x_callF _ bd53, List.map_toArray, List.map_cons, List.map_nil, eX, ↓reduceIte, Nat.reduceEqDiff, Int.reduceToNat]
              refine (flushL hS27 ((hs.wr 0 (m.gen % 2) m.sec).up (Nat.le_refl _)) (by omega) 0).mono ?_
              rintro v32 H32 ⟨rfl, F32, hS32⟩
              try simp only [eX, ↓reduceIte, Nat.reduceEqDiff, Int.reduceToNat]
              refine hK _ _ ?_; clear hK K
              refine OW_as rfl ?_
              refine OW_nil ?_
              try simp only [Ex.thnH, Ex.inBlockH, ↓reduceIte, Nat.reduceEqDiff]
              refine hK12 _ _ ?_; try clear hK12 K12
              refine CW_ret ?_
              try simp only [Ex.thnH, Ex.inBlockH, ↓reduceIte, Nat.reduceEqDiff]
              refine ⟨[_], ⟨rfl, trivial⟩, _, Le.refl _, ?_, F32, ?_⟩
              · rw [saveM_all hgd c17 hev]; rfl
              · rw [saveM_all hgd c17 hev]; exact hS32.less lQ5

end Go.Proofs.Ytigofhhonnbkmaa.HL
end
section
namespace Go.Proofs.Ytigofhhonnbkmaa.HL
open Go Go.Proofs
set_option linter.unusedSimpArgs false
set_option linter.unusedVariables false
attribute [local irreducible] Lt Lq CW OW TW CallH

set_option maxRecDepth 100000 in
set_option maxHeartbeats 8000000 in
theorem loadL {Q H F : Hp} {p : Nat} {s : St} (hA : Stn Q H F p s) {n : Nat} (hs : Sm n s) (hn : n ≤ 100000) (hby : ∀ k : Nat, k < 2 → ByteL (s.rd 0 k).1.b) : CallH Try.prog 30 #[.pointer (some ⟨p, 0, none⟩)] H (fun v H' => Le H H' ∧ ∃ x rs, v = .tuple #[.agg #[.int .i64 s.loadM.1.gen, .int .i64 s.loadM.1.ep, .int .i64 s.loadM.1.ba, .int .i64 s.loadM.1.ar, .int .i64 s.loadM.1.ln, x], errV s.loadM.2] ∧ OwnS H' 3 1 x s.loadM.1.hd.length (i64s s.loadM.1.hd) rs ∧ ∀ r, rs = some r → H r = none) := by
  refine CallH_enter (l := [_]) (rl := [.cell 2 27, .tmp 3]) (n := 63) Try.func30 rfl rfl rfl rfl rfl ?_
  simp only [envOf, Nat.reduceAdd]
  refine CW_seq (fun K1 hK1 => ?_)
  refine CW_region ?_
  refine OW_opS (fun K hK r => ?_)
  simp only [x_alloc, zr27, orF_some, Value.cells, eX, ↓reduceIte, Nat.reduceEqDiff, Int.reduceToNat]
  intro b2 hb2
  have f2_H : H b2 = none := none_of_le lhA hb2
  try simp only [eX, ↓reduceIte, Nat.reduceEqDiff, Int.reduceToNat]
  refine hK _ _ ?_; clear hK K
  refine OW_as rfl ?_
  refine OW_nil ?_
  try simp only [Ex.thnH, Ex.inBlockH, ↓reduceIte, Nat.reduceEqDiff]
  refine hK1 _ _ ?_; try clear hK1 K1
  refine CW_seq (fun K2 hK2 => ?_)
  refine CW_block ?_
  refine CW_seq (fun K3 hK3 => ?_)
  refine CW_region ?_
  refine OW_mv rfl ?_
  refine OW_opS (fun K hK r => ?_)
  simp only [x_callF _ bd52, List.map_toArray, List.map_cons, List.map_nil, eX, ↓reduceIte, Nat.reduceEqDiff, Int.reduceToNat]
  refine (sizeL (hA.more lhA) hs 0).mono ?_
  rintro v H' ⟨rfl, hq⟩
  have hq := hq.symm
  subst hq
  try simp only [eX, ↓reduceIte, Nat.reduceEqDiff, Int.reduceToNat]
  refine hK _ _ ?_; clear hK K
  refine OW_opS (fun K hK r => ?_)
  simp (disch := (first | omega | decide)) only [x_bin, g_int, b_lss, dec_lt_t, dec_lt_f, dec_le_t, dec_le_f, dec_eq_t, dec_eq_f, Bool.not_true, Bool.not_false, eX, ↓reduceIte, Nat.reduceEqDiff, Int.reduceToNat]
  refine hK _ _ ?_; clear hK K
  refine OW_as rfl ?_
  refine OW_nil ?_
  try simp only [Ex.thnH, Ex.inBlockH, ↓reduceIte, Nat.reduceEqDiff]
  refine hK3 _ _ ?_; try clear hK3 K3
  refine CW_cond (fun r => rfl) (fun c10 => ?_) (fun c10 => ?_)
  · first
    | (exfalso; exact cnA c10; done)
    | skip
      (try simp only [decide_eq_true_eq, decide_eq_false_iff_not, Bool.not_eq_true, Bool.not_eq_false, Bool.and_eq_true, Bool.or_eq_true, Bool.or_eq_false_iff, Bool.not_eq_true, Bool.not_eq_eq_eq_not, Bool.not_true, Bool.not_false] at c10)
      refine CW_seq (fun K4 hK4 => ?_)
      refine CW_region ?_
      refine OW_opS (fun K hK r => ?_)
      simp only [x_build, bp27, List.map_toArray, List.map_cons, List.map_nil, eX, ↓reduceIte, Nat.reduceEqDiff, Int.reduceToNat]
      simp only [fill_nil, orF_some, List.setIfInBounds_toArray, List.set_cons_zero, List.set_cons_succ]
      try simp only [eX, ↓reduceIte, Nat.reduceEqDiff, Int.reduceToNat]
      refine hK _ _ ?_; clear hK K
      refine OW_opS (fun K hK r => ?_)
      simp only [x_makeInterface, i_makeInterface, Try.underlying38, orF_some, eX, ↓reduceIte, Nat.reduceEqDiff, Int.reduceToNat]
      refine hK _ _ ?_; clear hK K
      refine OW_op rfl (lt_none) (fun K hK r => ?_)
      simp only [x_store, eX, ↓reduceIte, Nat.reduceEqDiff, Int.reduceToNat]
      first | refine Lt_storeAll sz27 bdA hbA bdA plA (by decide) ?_ | refine Lt_storeAtA sz27 bdA hbA bdA plA (by decide) ?_
      try simp only [eX, ↓reduceIte, Nat.reduceEqDiff, Int.reduceToNat]
      refine hK _ _ ?_; clear hK K
      refine OW_as rfl ?_
      refine OW_nil ?_
      try simp only [Ex.thnH, Ex.inBlockH, ↓reduceIte, Nat.reduceEqDiff]
      refine hK4 _ _ ?_; try clear hK4 K4
      refine CW_ret ?_
      try simp only [Ex.thnH, Ex.inBlockH, ↓reduceIte, Nat.reduceEqDiff]
      have hld : s.loadM = (zM, some 1) := by
        unfold St.loadM
        rw [if_pos c10]
      rw [hld]
      refine ⟨[_, _], ⟨⟨_, rfl, Lq_loadAll Try.underlying27 rfl sz27 hbA bdA⟩, rfl, trivial⟩, _, Le.refl _, lhA, .slice none 0 0, none, ?_, OwnS.nil _ _ _, fun r hr => by cases hr⟩
      rfl
  · first
    | (exfalso; exact cnA c10; done)
    | skip
      (try simp only [decide_eq_true_eq, decide_eq_false_iff_not, Bool.not_eq_true, Bool.not_eq_false, Bool.and_eq_true, Bool.or_eq_true, Bool.or_eq_false_iff, Bool.not_eq_true, Bool.not_eq_eq_eq_not, Bool.not_true, Bool.not_false] at c10)
      refine CW_seq (fun K5 hK5 => ?_)
      refine CW_region ?_
      refine OW_mv rfl ?_
      refine OW_opS (fun K hK r => ?_)
      simp only [x_callF _ bd32, List.map_toArray, List.map_cons, List.map_nil, eX, ↓reduceIte, Nat.reduceEqDiff, Int.reduceToNat]
      refine (downL (hA.more lhA)).mono ?_
      rintro v H' ⟨rfl, hq⟩
      have hq := hq.symm
      subst hq
      try simp only [eX, ↓reduceIte, Nat.reduceEqDiff, Int.reduceToNat]
      refine hK _ _ ?_; clear hK K
      refine OW_as rfl ?_
      refine OW_nil ?_
      try simp only [Ex.thnH, Ex.inBlockH, ↓reduceIte, Nat.reduceEqDiff]
      refine hK5 _ _ ?_; try clear hK5 K5
      refine CW_cond (fun r => rfl) (fun c16 => ?_) (fun c16 => ?_)
      · first
        | (exfalso; exact cnA c16; done)
        | skip
          have hgo : s.gone = true := c16
          refine CW_seq (fun K6 hK6 => ?_)
          refine CW_region ?_
          refine OW_opS (fun K hK r => ?_)
          simp only [x_build, bp27, List.map_toArray, List.map_cons, List.map_nil, eX, ↓reduceIte, Nat.reduceEqDiff, Int.reduceToNat]
          simp only [fill_nil, orF_some, List.setIfInBounds_toArray, List.set_cons_zero, List.set_cons_succ]
          try simp only [eX, ↓reduceIte, Nat.reduceEqDiff, Int.reduceToNat]
          refine hK _ _ ?_; clear hK K
          refine OW_opS (fun K hK r => ?_)
          simp only [x_makeInterface, i_makeInterface, Try.underlying38, orF_some, eX, ↓reduceIte, Nat.reduceEqDiff, Int.reduceToNat]
          refine hK _ _ ?_; clear hK K
          refine OW_op rfl (lt_none) (fun K hK r => ?_)
          simp only [x_store, eX, ↓reduceIte, Nat.reduceEqDiff, Int.reduceToNat]
          first | refine Lt_storeAll sz27 bdA hbA bdA plA (by decide) ?_ | refine Lt_storeAtA sz27 bdA hbA bdA plA (by decide) ?_
          try simp only [eX, ↓reduceIte, Nat.reduceEqDiff, Int.reduceToNat]
          refine hK _ _ ?_; clear hK K
          refine OW_as rfl ?_
          refine OW_nil ?_
          try simp only [Ex.thnH, Ex.inBlockH, ↓reduceIte, Nat.reduceEqDiff]
          refine hK6 _ _ ?_; try clear hK6 K6
          refine CW_ret ?_
          try simp only [Ex.thnH, Ex.inBlockH, ↓reduceIte, Nat.reduceEqDiff]
          have hld : s.loadM = (zM, some 3) := by
            unfold St.loadM
            rw [if_neg c10, if_pos hgo]
          rw [hld]
          refine ⟨[_, _], ⟨⟨_, rfl, Lq_loadAll Try.underlying27 rfl sz27 hbA bdA⟩, rfl, trivial⟩, _, Le.refl _, lhA, .slice none 0 0, none, ?_, OwnS.nil _ _ _, fun r hr => by cases hr⟩
          rfl
      · first
        | (exfalso; exact cnA c16; done)
        | skip
          have hgo : s.gone = false := by simpa using c16
          refine CW_skip ?_
          try simp only [Ex.thnH, Ex.inBlockH, ↓reduceIte, Nat.reduceEqDiff]
          refine hK2 _ _ ?_; try clear hK2 K2
          refine CW_seq (fun K7 hK7 => ?_)
          refine CW_region ?_
          refine OW_opS (fun K hK r => ?_)
          simp only [x_alloc, zr27, orF_some, Value.cells, eX, ↓reduceIte, Nat.reduceEqDiff, Int.reduceToNat]
          intro b4 hb4
          try have n4_b2 : b2 ≠ b4 := ne_of_none hbA hb4
          have f4_H : H b4 = none := none_of_le lhA hb4
          try simp only [eX, ↓reduceIte, Nat.reduceEqDiff, Int.reduceToNat]
          refine hK _ _ ?_; clear hK K
          refine OW_nil ?_
          try simp only [Ex.thnH, Ex.inBlockH, ↓reduceIte, Nat.reduceEqDiff]
          refine hK7 _ _ ?_; try clear hK7 K7
          refine CW_seq (fun K8 hK8 => ?_)
          refine CW_seq (fun K9 hK9 => ?_)
          refine CW_region ?_
          refine OW_mv rfl ?_
          refine OW_nil ?_
          try simp only [Ex.thnH, Ex.inBlockH, ↓reduceIte, Nat.reduceEqDiff]
          refine hK9 _ _ ?_; try clear hK9 K9
          refine CW_block ?_
          refine CW_loop (fun m_ e H_ => ∃ (k : Nat) (va : Option Addr) (vc : Nat) (rs : Option Nat), k ≤ 2 ∧ m_ = 2 - k ∧ Le (H.upd b2 (.cells #[.int .i64 0, .int .i64 0, .int .i64 0, .int .i64 0, .int .i64 0, .slice none 0 0] 27)) H_ ∧ H_ b4 = some (.cells #[.int .i64 (s.bestN k).gen, .int .i64 (s.bestN k).ep, .int .i64 (s.bestN k).ba, .int .i64 (s.bestN k).ar, .int .i64 (s.bestN k).ln, .slice va (s.bestN k).hd.length vc] 27) ∧ OwnS H_ 3 1 (.slice va (s.bestN k).hd.length vc) (s.bestN k).hd.length (i64s (s.bestN k).hd) rs ∧ (∀ r, rs = some r → (H.upd b2 (.cells #[.int .i64 0, .int .i64 0, .int .i64 0, .int .i64 0, .int .i64 0, .slice none 0 0] 27)) r = none ∧ r ≠ b4) ∧ Env.has [(0, .pointer (some ⟨p, 0, none⟩)), (2, .pointer (some ⟨b2, 0, none⟩)), (4, .pointer (some ⟨b4, 0, none⟩)), (21, .int .i64 k)] e) (2) ?_ ?_
          · skip
            exact ⟨0, none, 0, none, by omega, by omega, le_upd _ _ _ hb4, upd_same _ _ _, OwnS.nil _ _ _, (fun r hr => by cases hr), rfl, rfl, rfl, rfl, trivial⟩
          intro m_ e_ H_ hI_
          obtain ⟨k, va, vc, rs, hk, rfl, lHB, k4, hO, hrs, he⟩ := hI_
          refine CW_env he.sub ?_; clear he e_
          have hlH : Le H H_ := Le.trans (le_upd _ _ _ hb2) lHB
          have k2 := lHB b2 _ (upd_same _ _ _)
          have nb24 : b2 ≠ b4 := fun e => by rw [← e, upd_same] at hb4; cases hb4
          have g4 : (H.upd b2 (.cells #[.int .i64 0, .int .i64 0, .int .i64 0, .int .i64 0, .int .i64 0, .slice none 0 0] 27)) b4 = none := hb4
          refine CW_seq (fun K10 hK10 => ?_)
          refine CW_region ?_
          refine OW_opS (fun K hK r => ?_)
          simp (disch := (first | omega | decide)) only [x_bin, g_int, b_lss, dec_lt_t, dec_lt_f, dec_le_t, dec_le_f, dec_eq_t, dec_eq_f, Bool.not_true, Bool.not_false, eX, ↓reduceIte, Nat.reduceEqDiff, Int.reduceToNat]
          refine hK _ _ ?_; clear hK K
          refine OW_nil ?_
          try simp only [Ex.thnH, Ex.inBlockH, ↓reduceIte, Nat.reduceEqDiff]
          refine hK10 _ _ ?_; try clear hK10 K10
          refine CW_seq (fun K11 hK11 => ?_)
          refine CW_cond (fun r => rfl) (fun c22 => ?_) (fun c22 => ?_)
          · first
            | (exfalso; exact cnA c22; done)
            | skip
              (try simp only [decide_eq_true_eq, decide_eq_false_iff_not, Bool.not_eq_true, Bool.not_eq_false, Bool.and_eq_true, Bool.or_eq_true, Bool.or_eq_false_iff, Bool.not_eq_true, Bool.not_eq_eq_eq_not, Bool.not_true, Bool.not_false] at c22)
              refine CW_skip ?_
              try simp only [Ex.thnH, Ex.inBlockH, ↓reduceIte, Nat.reduceEqDiff]
              refine hK11 _ _ ?_; try clear hK11 K11
              refine CW_seq (fun K12 hK12 => ?_)
              refine CW_block ?_
              refine CW_seq (fun K13 hK13 => ?_)
              refine CW_region ?_
              refine OW_mv rfl ?_
              refine OW_as rfl ?_
              refine OW_nil ?_
              try simp only [Ex.thnH, Ex.inBlockH, ↓reduceIte, Nat.reduceEqDiff]
              refine hK13 _ _ ?_; try clear hK13 K13
              refine CW_seq (fun K14 hK14 => ?_)
              refine CW_region ?_
              refine OW_mv rfl ?_
              refine OW_mv rfl ?_
              refine OW_opS (fun K hK r => ?_)
              simp only [x_callF _ bd65, List.map_toArray, List.map_cons, List.map_nil, eX, ↓reduceIte, Nat.reduceEqDiff, Int.reduceToNat]
              refine (readL (hA.more hlH) hs (by omega) 0 k).mono ?_
              rintro v H' ⟨rfl, hq⟩
              have hq := hq.symm
              subst hq
              rw [rd_fine hgo (by omega) (by omega)]
              try simp only [eX, ↓reduceIte, Nat.reduceEqDiff, Int.reduceToNat]
              refine hK _ _ ?_; clear hK K
              refine OW_mv rfl ?_
              refine OW_opS (fun K hK r => ?_)
              simp only [x_extract, i_extract, List.getElem?_toArray, List.getElem?_cons_zero, List.getElem?_cons_succ, orF_some, eX, ↓reduceIte, Nat.reduceEqDiff, Int.reduceToNat]
              refine hK _ _ ?_; clear hK K
              refine OW_opS (fun K hK r => ?_)
              simp only [x_extract, i_extract, List.getElem?_toArray, List.getElem?_cons_zero, List.getElem?_cons_succ, orF_some, eX, ↓reduceIte, Nat.reduceEqDiff, Int.reduceToNat]
              refine hK _ _ ?_; clear hK K
              refine OW_opS (fun K hK r => ?_)
              simp only [x_alloc, zr30, orF_some, Value.cells, eX, ↓reduceIte, Nat.reduceEqDiff, Int.reduceToNat]
              intro b6 hb6
              try have n6_b2 : b2 ≠ b6 := ne_of_none hbA hb6
              try have n6_b4 : b4 ≠ b6 := ne_of_none hbA hb6
              have f6_H : H b6 = none := none_of_le lhA hb6
              try simp only [eX, ↓reduceIte, Nat.reduceEqDiff, Int.reduceToNat]
              refine hK _ _ ?_; clear hK K
              refine OW_op rfl (lt_none) (fun K hK r => ?_)
              simp only [x_store, eX, ↓reduceIte, Nat.reduceEqDiff, Int.reduceToNat]
              refine Lt_storeAll sz30 (by simp [Sec.h]) hbA (by simp [Sec.h]) (PlainL.ints _ _) (by decide) ?_
              try simp only [upd_upd]
              refine hK _ _ ?_; clear hK K
              refine OW_as rfl ?_
              refine OW_nil ?_
              try simp only [Ex.thnH, Ex.inBlockH, ↓reduceIte, Nat.reduceEqDiff]
              refine hK14 _ _ ?_; try clear hK14 K14
              refine CW_seq (fun K15 hK15 => ?_)
              refine CW_seq (fun K16 hK16 => ?_)
              refine CW_region ?_
              refine OW_mv rfl ?_
              refine OW_opS (fun K hK r => ?_)
              simp only [x_bin, g_int, g_bool, g_string, g_pointer, g_slice, g_map, g_func, g_nilFunc, g_err, g_iface, g_nil_iface, g_nil_r, g_nil_l, eX, ↓reduceIte, Nat.reduceEqDiff, Int.reduceToNat]
              first | rw [b_err_neq _ _ Try.underlying32] | (rw [e_neq _ _ _ _ (by simp), q_equal]; first | rw [q_iface_nil _ _ _ Try.underlying32] | rw [q_nil_iface _ _ _ Try.underlying32] | rw [q_nil_nil _ _ _ Try.underlying32])
              try simp only [eX, ↓reduceIte, Nat.reduceEqDiff, Int.reduceToNat]
              refine hK _ _ ?_; clear hK K
              refine OW_nil ?_
              try simp only [Ex.thnH, Ex.inBlockH, ↓reduceIte, Nat.reduceEqDiff]
              refine hK16 _ _ ?_; try clear hK16 K16
              refine CW_cond (fun r => rfl) (fun c31 => ?_) (fun c31 => ?_)
              · exfalso; exact cnA c31
              refine CW_skip ?_
              try simp only [Ex.thnH, Ex.inBlockH, ↓reduceIte, Nat.reduceEqDiff]
              refine hK15 _ _ ?_; try clear hK15 K15
              refine CW_seq (fun K17 hK17 => ?_)
              refine CW_region ?_
              refine OW_opS (fun K hK r => ?_)
              simp only [x_load, eX, ↓reduceIte, Nat.reduceEqDiff, Int.reduceToNat]
              refine Lt_loadAll Try.underlying30 rfl sz30 hbA (by simp [Sec.h]) ?_
              refine hK _ _ ?_; clear hK K
              refine OW_opS (fun K hK r => ?_)
              simp only [x_callF _ bd15, List.map_toArray, List.map_cons, List.map_nil, eX, ↓reduceIte, Nat.reduceEqDiff, Int.reduceToNat]
              refine (mOpen_ok _ (s.rd 0 k).1.b (s.rd 0 k).1.h (hby k (by omega))).mono ?_
              rintro v36 H36 ⟨l36, x36, rs36, rfl, ho36, hr36⟩
              obtain ⟨a36, c36, rfl⟩ := ho36.holds.form
              have l36b : Le H_ H36 := Le.trans (le_upd _ _ _ hb6) l36
              have lB36 := Le.trans lHB l36b
              have k36_4 := l36b b4 _ k4
              have k36_2 := lB36 b2 _ (upd_same _ _ _)
              have hO36 := hO.le l36b
              have lH36 : Le H H36 := Le.trans hlH l36b
              have n364 : rs36 ≠ some b4 := fun e => by
                have := none_of_le (le_upd _ _ _ hb6) (hr36 _ e)
                rw [k4] at this; cases this
              have hrs36 : ∀ r, rs36 = some r → (H.upd b2 (.cells #[.int .i64 0, .int .i64 0, .int .i64 0, .int .i64 0, .int .i64 0, .slice none 0 0] 27)) r = none ∧ r ≠ b4 := fun r e => ⟨none_of_le lHB (none_of_le (le_upd _ _ _ hb6) (hr36 r e)), fun e2 => n364 (by rw [e, e2])⟩
              obtain ⟨og0, og1⟩ := opMv_gen (L := (s.rd 0 k).1.b)
              have htm : (opMv (s.rd 0 k).1.b).gen.tmod 2 = (opMv (s.rd 0 k).1.b).gen % 2 := Int.tmod_eq_emod_of_nonneg og0
              try simp only [eX, ↓reduceIte, Nat.reduceEqDiff, Int.reduceToNat]
              refine hK _ _ ?_; clear hK K
              refine OW_mv rfl ?_
              refine OW_opS (fun K hK r => ?_)
              simp only [x_extract, i_extract, List.getElem?_toArray, List.getElem?_cons_zero, List.getElem?_cons_succ, orF_some, eX, ↓reduceIte, Nat.reduceEqDiff, Int.reduceToNat]
              refine hK _ _ ?_; clear hK K
              refine OW_opS (fun K hK r => ?_)
              simp only [x_extract, i_extract, List.getElem?_toArray, List.getElem?_cons_zero, List.getElem?_cons_succ, orF_some, eX, ↓reduceIte, Nat.reduceEqDiff, Int.reduceToNat]
              refine hK _ _ ?_; clear hK K
              refine OW_opS (fun K hK r => ?_)
              simp only [x_alloc, zr27, orF_some, Value.cells, eX, ↓reduceIte, Nat.reduceEqDiff, Int.reduceToNat]
              intro b8 hb8
              try have n8_b2 : b2 ≠ b8 := ne_of_none hbA hb8
              try have n8_b4 : b4 ≠ b8 := ne_of_none hbA hb8
              try have n8_b6 : b6 ≠ b8 := ne_of_none hbA hb8
              have f8_H : H b8 = none := none_of_le lhA hb8
              try simp only [eX, ↓reduceIte, Nat.reduceEqDiff, Int.reduceToNat]
              refine hK _ _ ?_; clear hK K
              refine OW_op rfl (lt_none) (fun K hK r => ?_)
              simp only [x_store, eX, ↓reduceIte, Nat.reduceEqDiff, Int.reduceToNat]
              first | refine Lt_storeAll sz27 bdA hbA bdA plA (by decide) ?_ | refine Lt_storeAtA sz27 bdA hbA bdA plA (by decide) ?_
              try simp only [eX, ↓reduceIte, Nat.reduceEqDiff, Int.reduceToNat]
              refine hK _ _ ?_; clear hK K
              refine OW_as rfl ?_
              refine OW_nil ?_
              try simp only [Ex.thnH, Ex.inBlockH, ↓reduceIte, Nat.reduceEqDiff]
              refine hK17 _ _ ?_; try clear hK17 K17
              refine CW_seq (fun K18 hK18 => ?_)
              refine CW_region ?_
              refine OW_mv rfl ?_
              refine OW_opS (fun K hK r => ?_)
              simp only [x_bin, g_int, g_bool, g_string, g_pointer, g_slice, g_map, g_func, g_nilFunc, g_err, g_iface, g_nil_iface, g_nil_r, g_nil_l, eX, ↓reduceIte, Nat.reduceEqDiff, Int.reduceToNat]
              first | rw [b_err_eql _ _ Try.underlying32] | (rw [e_eql _ _ _ _ (by simp), q_equal]; first | rw [q_iface_nil _ _ _ Try.underlying32] | rw [q_nil_iface _ _ _ Try.underlying32] | rw [q_nil_nil _ _ _ Try.underlying32])
              try simp only [eX, ↓reduceIte, Nat.reduceEqDiff, Int.reduceToNat]
              refine hK _ _ ?_; clear hK K
              refine OW_mv rfl ?_
              (first | refine OW_split (d := 41) rfl (fun g41 => ?_) (fun g41 => ?_) | skip)
              all_goals try (exfalso; exact cnA g41)
              all_goals (try simp only [decide_eq_true_eq, decide_eq_false_iff_not, Bool.not_eq_true, Bool.not_eq_false, Bool.and_eq_true, Bool.or_eq_true, Bool.or_eq_false_iff, Bool.not_eq_true, Bool.not_eq_eq_eq_not, Bool.not_true, Bool.not_false] at g41)
              all_goals
                try simp only [eX, ↓reduceIte, Nat.reduceEqDiff, Int.reduceToNat]
                first
                | refine OW_guardT rfl (lt_some (by decide)) rfl (fun K hK r => ?_)
                  simp only [x_fieldAddr, fa27_0, add_mk, Nat.reduceAdd, Nat.zero_add, eX, ↓reduceIte, Nat.reduceEqDiff, Int.reduceToNat]
                  refine hK _ _ ?_; clear hK K
                | refine OW_guardF rfl (lt_some (by decide)) rfl ?_
                  simp only [eX, ↓reduceIte, Nat.reduceEqDiff, Int.reduceToNat]
                first
                | refine OW_guardT rfl (lt_some (by decide)) rfl (fun K hK r => ?_)
                  simp only [x_load, eX, ↓reduceIte, Nat.reduceEqDiff, Int.reduceToNat]
                  refine Lt_loadAt1 Try.underlying3 rfl hbA ldA ?_
                  try simp only [eX, ↓reduceIte, Nat.reduceEqDiff, Int.reduceToNat]
                  refine hK _ _ ?_; clear hK K
                | refine OW_guardF rfl (lt_some (by decide)) rfl ?_
                  simp only [eX, ↓reduceIte, Nat.reduceEqDiff, Int.reduceToNat]
                first
                | refine OW_guardT rfl (lt_some (by decide)) rfl (fun K hK r => ?_)
                  simp (disch := (first | omega | decide)) only [x_bin, g_int, b_rem, wrap_i64, wrap_u64, wrap_u32, wrap_u8, eX, ↓reduceIte, Nat.reduceEqDiff, Int.reduceToNat]
                  rw [htm]
                  refine hK _ _ ?_; clear hK K
                | refine OW_guardF rfl (lt_some (by decide)) rfl ?_
                  simp only [eX, ↓reduceIte, Nat.reduceEqDiff, Int.reduceToNat]
                first
                | refine OW_guardT rfl (lt_some (by decide)) rfl (fun K hK r => ?_)
                  simp only [x_move, eX, ↓reduceIte, Nat.reduceEqDiff, Int.reduceToNat]
                  refine hK _ _ ?_; clear hK K
                | refine OW_guardF rfl (lt_some (by decide)) rfl ?_
                  simp only [eX, ↓reduceIte, Nat.reduceEqDiff, Int.reduceToNat]
                first
                | refine OW_guardT rfl (lt_some (by decide)) rfl (fun K hK r => ?_)
                  simp (disch := (first | omega | decide)) only [x_bin, g_int, b_eql, dec_lt_t, dec_lt_f, dec_le_t, dec_le_f, dec_eq_t, dec_eq_f, Bool.not_true, Bool.not_false, eX, ↓reduceIte, Nat.reduceEqDiff, Int.reduceToNat]
                  refine hK _ _ ?_; clear hK K
                | refine OW_guardF rfl (lt_some (by decide)) rfl ?_
                  simp only [eX, ↓reduceIte, Nat.reduceEqDiff, Int.reduceToNat]
                refine OW_opS (fun K hK r => ?_)
                simp only [x_pick, l_asBool, HL.ite_bool, if_true, if_false, Bool.false_eq_true, eX, ↓reduceIte, Nat.reduceEqDiff, Int.reduceToNat]
                refine hK _ _ ?_; clear hK K
                refine OW_mv rfl ?_
                (first | refine OW_split (d := 48) rfl (fun g48 => ?_) (fun g48 => ?_) | skip)
                all_goals try (exfalso; exact cnA g48)
                all_goals (try simp only [decide_eq_true_eq, decide_eq_false_iff_not, Bool.not_eq_true, Bool.not_eq_false, Bool.and_eq_true, Bool.or_eq_true, Bool.or_eq_false_iff, Bool.not_eq_true, Bool.not_eq_eq_eq_not, Bool.not_true, Bool.not_false] at g48)
                all_goals
                  try simp only [eX, ↓reduceIte, Nat.reduceEqDiff, Int.reduceToNat]
                  first
                  | refine OW_guardT rfl (lt_some (by decide)) rfl (fun K hK r => ?_)
                    simp only [x_fieldAddr, fa27_0, add_mk, Nat.reduceAdd, Nat.zero_add, eX, ↓reduceIte, Nat.reduceEqDiff, Int.reduceToNat]
                    refine hK _ _ ?_; clear hK K
                  | refine OW_guardF rfl (lt_some (by decide)) rfl ?_
                    simp only [eX, ↓reduceIte, Nat.reduceEqDiff, Int.reduceToNat]
                  first
                  | refine OW_guardT rfl (lt_some (by decide)) rfl (fun K hK r => ?_)
                    simp only [x_load, eX, ↓reduceIte, Nat.reduceEqDiff, Int.reduceToNat]
                    refine Lt_loadAt1 Try.underlying3 rfl hbA ldA ?_
                    try simp only [eX, ↓reduceIte, Nat.reduceEqDiff, Int.reduceToNat]
                    refine hK _ _ ?_; clear hK K
                  | refine OW_guardF rfl (lt_some (by decide)) rfl ?_
                    simp only [eX, ↓reduceIte, Nat.reduceEqDiff, Int.reduceToNat]
                  first
                  | refine OW_guardT rfl (lt_some (by decide)) rfl (fun K hK r => ?_)
                    simp only [x_fieldAddr, fa27_0, add_mk, Nat.reduceAdd, Nat.zero_add, eX, ↓reduceIte, Nat.reduceEqDiff, Int.reduceToNat]
                    refine hK _ _ ?_; clear hK K
                  | refine OW_guardF rfl (lt_some (by decide)) rfl ?_
                    simp only [eX, ↓reduceIte, Nat.reduceEqDiff, Int.reduceToNat]
                  first
                  | refine OW_guardT rfl (lt_some (by decide)) rfl (fun K hK r => ?_)
                    simp only [x_load, eX, ↓reduceIte, Nat.reduceEqDiff, Int.reduceToNat]
                    refine Lt_loadAt1 Try.underlying3 rfl hbA ldA ?_
                    try simp only [eX, ↓reduceIte, Nat.reduceEqDiff, Int.reduceToNat]
                    refine hK _ _ ?_; clear hK K
                  | refine OW_guardF rfl (lt_some (by decide)) rfl ?_
                    simp only [eX, ↓reduceIte, Nat.reduceEqDiff, Int.reduceToNat]
                  first
                  | refine OW_guardT rfl (lt_some (by decide)) rfl (fun K hK r => ?_)
                    simp (disch := (first | omega | decide)) only [x_bin, g_int, b_gtr, dec_lt_t, dec_lt_f, dec_le_t, dec_le_f, dec_eq_t, dec_eq_f, Bool.not_true, Bool.not_false, eX, ↓reduceIte, Nat.reduceEqDiff, Int.reduceToNat]
                    refine hK _ _ ?_; clear hK K
                  | refine OW_guardF rfl (lt_some (by decide)) rfl ?_
                    simp only [eX, ↓reduceIte, Nat.reduceEqDiff, Int.reduceToNat]
                  refine OW_opS (fun K hK r => ?_)
                  simp only [x_pick, l_asBool, HL.ite_bool, if_true, if_false, Bool.false_eq_true, eX, ↓reduceIte, Nat.reduceEqDiff, Int.reduceToNat]
                  refine hK _ _ ?_; clear hK K
                  refine OW_nil ?_
                  try simp only [Ex.thnH, Ex.inBlockH, ↓reduceIte, Nat.reduceEqDiff]
                  refine hK18 _ _ ?_; try clear hK18 K18
                  refine CW_cond (fun r => rfl) (fun c54 => ?_) (fun c54 => ?_)
                  · first
                    | (exfalso; exact cnA c54; done)
                    | skip
                      skip
                      refine CW_region ?_
                      refine OW_opS (fun K hK r => ?_)
                      simp only [x_load, eX, ↓reduceIte, Nat.reduceEqDiff, Int.reduceToNat]
                      first | refine Lt_loadAll Try.underlying27 rfl sz27 hbA bdA ?_ | refine Lt_loadAtA Try.underlying27 rfl sz27 hbA bdA ?_
                      try simp only [List.extract_toArray, List.extract_eq_take_drop, Nat.zero_add, Nat.reduceAdd, Nat.reduceSub, Nat.sub_zero, List.drop_succ_cons, List.drop_zero, List.take_succ_cons, List.take_zero, List.take_nil, List.drop_nil]
                      try simp only [eX, ↓reduceIte, Nat.reduceEqDiff, Int.reduceToNat]
                      refine hK _ _ ?_; clear hK K
                      refine OW_op rfl (lt_none) (fun K hK r => ?_)
                      simp only [x_store, eX, ↓reduceIte, Nat.reduceEqDiff, Int.reduceToNat]
                      first | refine Lt_storeAll sz27 bdA hbA bdA plA (by decide) ?_ | refine Lt_storeAtA sz27 bdA hbA bdA plA (by decide) ?_
                      try simp only [eX, ↓reduceIte, Nat.reduceEqDiff, Int.reduceToNat]
                      refine hK _ _ ?_; clear hK K
                      refine OW_nil ?_
                      try simp only [Ex.thnH, Ex.inBlockH, ↓reduceIte, Nat.reduceEqDiff]
                      refine hK12 _ _ ?_; try clear hK12 K12
                      refine CW_region ?_
                      refine OW_opS (fun K hK r => ?_)
                      simp (disch := (first | omega | decide)) only [x_bin, g_int, b_add, wrap_i64, wrap_u64, wrap_u32, wrap_u8, eX, ↓reduceIte, Nat.reduceEqDiff, Int.reduceToNat]
                      refine hK _ _ ?_; clear hK K
                      refine OW_mv rfl ?_
                      refine OW_nil ?_
                      try simp only [Ex.thnH, Ex.inBlockH, ↓reduceIte, Nat.reduceEqDiff]
                      have hbk : s.bestN (k + 1) = pick (s.bestN k) (s.rd 0 k).1.b k := rfl
                      first
                      | (have hyes : opMe (s.rd 0 k).1.b = none ∧ (opMv (s.rd 0 k).1.b).gen % 2 = (k : Int) ∧ (s.bestN k).gen < (opMv (s.rd 0 k).1.b).gen := ⟨Option.isNone_iff_eq_none.1 g41, g48, by simpa using c54⟩
                         rw [pick_yes hyes] at hbk
                         refine ⟨2 - (k + 1), by omega, k + 1, a36, c36, rs36, by omega, rfl, ?_, ?_, ?_, hrs36, rfl, rfl, rfl, rfl, trivial⟩
                         · exact le_upd_of ((le_upd_of lB36 (none_of_le lB36 hb8))) g4
                         · rw [hbk]; exact upd_same _ _ _
                         · rw [hbk]; exact (ho36.make hb8).upd n364)
                      | (have hno : ¬ (opMe (s.rd 0 k).1.b = none ∧ (opMv (s.rd 0 k).1.b).gen % 2 = (k : Int) ∧ (s.bestN k).gen < (opMv (s.rd 0 k).1.b).gen) := by
                           rintro ⟨h1, h2, h3⟩
                           first
                           | (rw [h1] at g41; cases g41; done)
                           | (exact g48 h2; done)
                           | (rw [decide_eq_true h3] at c54; cases c54; done)
                           | (exact c54 h3; done)
                         rw [pick_no hno] at hbk
                         refine ⟨2 - (k + 1), by omega, k + 1, va, vc, rs, by omega, rfl, ?_, ?_, ?_, hrs, rfl, rfl, rfl, rfl, trivial⟩
                         · exact le_upd_of lB36 (none_of_le lB36 hb8)
                         · rw [hbk]; exact (upd_ne _ _ (ne_of_none k36_4 hb8)).trans k36_4
                         · rw [hbk]; exact hO36.make hb8)
                  · first
                    | (exfalso; exact cnA c54; done)
                    | skip
                      skip
                      refine CW_skip ?_
                      try simp only [Ex.thnH, Ex.inBlockH, ↓reduceIte, Nat.reduceEqDiff]
                      refine hK12 _ _ ?_; try clear hK12 K12
                      refine CW_region ?_
                      refine OW_opS (fun K hK r => ?_)
                      simp (disch := (first | omega | decide)) only [x_bin, g_int, b_add, wrap_i64, wrap_u64, wrap_u32, wrap_u8, eX, ↓reduceIte, Nat.reduceEqDiff, Int.reduceToNat]
                      refine hK _ _ ?_; clear hK K
                      refine OW_mv rfl ?_
                      refine OW_nil ?_
                      try simp only [Ex.thnH, Ex.inBlockH, ↓reduceIte, Nat.reduceEqDiff]
                      have hbk : s.bestN (k + 1) = pick (s.bestN k) (s.rd 0 k).1.b k := rfl
                      first
                      | (have hyes : opMe (s.rd 0 k).1.b = none ∧ (opMv (s.rd 0 k).1.b).gen % 2 = (k : Int) ∧ (s.bestN k).gen < (opMv (s.rd 0 k).1.b).gen := ⟨Option.isNone_iff_eq_none.1 g41, g48, by simpa using c54⟩
                         rw [pick_yes hyes] at hbk
                         refine ⟨2 - (k + 1), by omega, k + 1, a36, c36, rs36, by omega, rfl, ?_, ?_, ?_, hrs36, rfl, rfl, rfl, rfl, trivial⟩
                         · exact le_upd_of ((le_upd_of lB36 (none_of_le lB36 hb8))) g4
                         · rw [hbk]; exact upd_same _ _ _
                         · rw [hbk]; exact (ho36.make hb8).upd n364)
                      | (have hno : ¬ (opMe (s.rd 0 k).1.b = none ∧ (opMv (s.rd 0 k).1.b).gen % 2 = (k : Int) ∧ (s.bestN k).gen < (opMv (s.rd 0 k).1.b).gen) := by
                           rintro ⟨h1, h2, h3⟩
                           first
                           | (rw [h1] at g41; cases g41; done)
                           | (exact g48 h2; done)
                           | (rw [decide_eq_true h3] at c54; cases c54; done)
                           | (exact c54 h3; done)
                         rw [pick_no hno] at hbk
                         refine ⟨2 - (k + 1), by omega, k + 1, va, vc, rs, by omega, rfl, ?_, ?_, ?_, hrs, rfl, rfl, rfl, rfl, trivial⟩
                         · exact le_upd_of lB36 (none_of_le lB36 hb8)
                         · rw [hbk]; exact (upd_ne _ _ (ne_of_none k36_4 hb8)).trans k36_4
                         · rw [hbk]; exact hO36.make hb8)
          · first
            | (exfalso; exact cnA c22; done)
            | skip
              (try simp only [decide_eq_true_eq, decide_eq_false_iff_not, Bool.not_eq_true, Bool.not_eq_false, Bool.and_eq_true, Bool.or_eq_true, Bool.or_eq_false_iff, Bool.not_eq_true, Bool.not_eq_eq_eq_not, Bool.not_true, Bool.not_false] at c22)
              have hk2 : k = 2 := by omega
              subst hk2
              refine CW_exit ?_
              try simp only [Ex.thnH, Ex.inBlockH, ↓reduceIte, Nat.reduceEqDiff]
              refine hK8 _ _ ?_; try clear hK8 K8
              refine CW_seq (fun K19 hK19 => ?_)
              refine CW_seq (fun K20 hK20 => ?_)
              refine CW_region ?_
              refine OW_opS (fun K hK r => ?_)
              simp only [x_fieldAddr, fa27_0, add_mk, Nat.reduceAdd, Nat.zero_add, eX, ↓reduceIte, Nat.reduceEqDiff, Int.reduceToNat]
              refine hK _ _ ?_; clear hK K
              refine OW_opS (fun K hK r => ?_)
              simp only [x_load, eX, ↓reduceIte, Nat.reduceEqDiff, Int.reduceToNat]
              refine Lt_loadAt1 Try.underlying3 rfl hbA ldA ?_
              try simp only [eX, ↓reduceIte, Nat.reduceEqDiff, Int.reduceToNat]
              refine hK _ _ ?_; clear hK K
              refine OW_opS (fun K hK r => ?_)
              simp (disch := (first | omega | decide)) only [x_bin, g_int, b_eql, dec_lt_t, dec_lt_f, dec_le_t, dec_le_f, dec_eq_t, dec_eq_f, Bool.not_true, Bool.not_false, eX, ↓reduceIte, Nat.reduceEqDiff, Int.reduceToNat]
              refine hK _ _ ?_; clear hK K
              refine OW_nil ?_
              try simp only [Ex.thnH, Ex.inBlockH, ↓reduceIte, Nat.reduceEqDiff]
              refine hK20 _ _ ?_; try clear hK20 K20
              refine CW_cond (fun r => rfl) (fun c59 => ?_) (fun c59 => ?_)
              · first
                | (exfalso; exact cnA c59; done)
                | skip
                  (try simp only [decide_eq_true_eq, decide_eq_false_iff_not, Bool.not_eq_true, Bool.not_eq_false, Bool.and_eq_true, Bool.or_eq_true, Bool.or_eq_false_iff, Bool.not_eq_true, Bool.not_eq_eq_eq_not, Bool.not_true, Bool.not_false] at c59)
                  refine CW_seq (fun K21 hK21 => ?_)
                  refine CW_region ?_
                  refine OW_opS (fun K hK r => ?_)
                  simp only [x_build, bp27, List.map_toArray, List.map_cons, List.map_nil, eX, ↓reduceIte, Nat.reduceEqDiff, Int.reduceToNat]
                  simp only [fill_nil, orF_some, List.setIfInBounds_toArray, List.set_cons_zero, List.set_cons_succ]
                  try simp only [eX, ↓reduceIte, Nat.reduceEqDiff, Int.reduceToNat]
                  refine hK _ _ ?_; clear hK K
                  refine OW_opS (fun K hK r => ?_)
                  simp only [x_makeInterface, i_makeInterface, Try.underlying38, orF_some, eX, ↓reduceIte, Nat.reduceEqDiff, Int.reduceToNat]
                  refine hK _ _ ?_; clear hK K
                  refine OW_op rfl (lt_none) (fun K hK r => ?_)
                  simp only [x_store, eX, ↓reduceIte, Nat.reduceEqDiff, Int.reduceToNat]
                  first | refine Lt_storeAll sz27 bdA hbA bdA plA (by decide) ?_ | refine Lt_storeAtA sz27 bdA hbA bdA plA (by decide) ?_
                  try simp only [eX, ↓reduceIte, Nat.reduceEqDiff, Int.reduceToNat]
                  refine hK _ _ ?_; clear hK K
                  refine OW_as rfl ?_
                  refine OW_nil ?_
                  try simp only [Ex.thnH, Ex.inBlockH, ↓reduceIte, Nat.reduceEqDiff]
                  refine hK21 _ _ ?_; try clear hK21 K21
                  refine CW_ret ?_
                  try simp only [Ex.thnH, Ex.inBlockH, ↓reduceIte, Nat.reduceEqDiff]
                  have hld : s.loadM = (zM, some 9) := by
                    unfold St.loadM
                    rw [if_neg c10, if_neg (by rw [hgo]; simp), if_pos c59]
                  rw [hld]
                  refine ⟨[_, _], ⟨⟨_, rfl, Lq_loadAll Try.underlying27 rfl sz27 hbA bdA⟩, rfl, trivial⟩, _, Le.refl _, lhA, .slice none 0 0, none, ?_, OwnS.nil _ _ _, fun r hr => by cases hr⟩
                  rfl
              · first
                | (exfalso; exact cnA c59; done)
                | skip
                  (try simp only [decide_eq_true_eq, decide_eq_false_iff_not, Bool.not_eq_true, Bool.not_eq_false, Bool.and_eq_true, Bool.or_eq_true, Bool.or_eq_false_iff, Bool.not_eq_true, Bool.not_eq_eq_eq_not, Bool.not_true, Bool.not_false] at c59)
                  refine CW_skip ?_
                  try simp only [Ex.thnH, Ex.inBlockH, ↓reduceIte, Nat.reduceEqDiff]
                  refine hK19 _ _ ?_; try clear hK19 K19
                  refine CW_seq (fun K22 hK22 => ?_)
                  refine CW_region ?_
                  refine OW_opS (fun K hK r => ?_)
                  simp only [x_load, eX, ↓reduceIte, Nat.reduceEqDiff, Int.reduceToNat]
                  first | refine Lt_loadAll Try.underlying27 rfl sz27 hbA bdA ?_ | refine Lt_loadAtA Try.underlying27 rfl sz27 hbA bdA ?_
                  try simp only [List.extract_toArray, List.extract_eq_take_drop, Nat.zero_add, Nat.reduceAdd, Nat.reduceSub, Nat.sub_zero, List.drop_succ_cons, List.drop_zero, List.take_succ_cons, List.take_zero, List.take_nil, List.drop_nil]
                  try simp only [eX, ↓reduceIte, Nat.reduceEqDiff, Int.reduceToNat]
                  refine hK _ _ ?_; clear hK K
                  refine OW_op rfl (lt_none) (fun K hK r => ?_)
                  simp only [x_store, eX, ↓reduceIte, Nat.reduceEqDiff, Int.reduceToNat]
                  first | refine Lt_storeAll sz27 bdA hbA bdA plA (by decide) ?_ | refine Lt_storeAtA sz27 bdA hbA bdA plA (by decide) ?_
                  try simp only [eX, ↓reduceIte, Nat.reduceEqDiff, Int.reduceToNat]
                  refine hK _ _ ?_; clear hK K
                  refine OW_as rfl ?_
                  refine OW_nil ?_
                  try simp only [Ex.thnH, Ex.inBlockH, ↓reduceIte, Nat.reduceEqDiff]
                  refine hK22 _ _ ?_; try clear hK22 K22
                  refine CW_ret ?_
                  try simp only [Ex.thnH, Ex.inBlockH, ↓reduceIte, Nat.reduceEqDiff]
                  have hld : s.loadM = (s.bestN 2, none) := by
                    unfold St.loadM
                    rw [if_neg c10, if_neg (by rw [hgo]; simp), if_neg c59]
                  rw [hld]
                  refine ⟨[_, _], ⟨⟨_, rfl, Lq_loadAll Try.underlying27 rfl sz27 hbA bdA⟩, rfl, trivial⟩, _, Le.refl _, lhA, .slice va (s.bestN 2).hd.length vc, rs, ?_, hO.upd (fun e => by have := (hrs _ e).1; rw [upd_same] at this; cases this), fun r e => none_of_le (le_upd _ _ _ hb2) (hrs r e).1⟩
                  rfl

end Go.Proofs.Ytigofhhonnbkmaa.HL
end
section
namespace Go.Proofs.Ytigofhhonnbkmaa.HL
open Go Go.Proofs
set_option linter.unusedSimpArgs false
set_option linter.unusedVariables false
attribute [local irreducible] Lt Lq CW OW TW CallH


theorem lastW_app (w : Wt) (i : Int) : ∀ l : List Wt, lastW (l ++ [w]) i = if w.at_ = i then some w.x else lastW l i
  | [] => by
    show (match lastW [] i with | some x => some x | none => if w.at_ = i then some w.x else none) = _
    rfl
  | v :: r => by
    show (match lastW (r ++ [w]) i with | some x => some x | none => if v.at_ = i then some v.x else none) = _
    rw [lastW_app w i r]
    by_cases h : w.at_ = i
    · simp only [if_pos h]
    · simp only [if_neg h]; rfl
theorem stN_all (ws : List Wt) (s : Int → Sec) : ∀ n, n ≤ ws.length → ∀ i, stN (fun _ => some 0) ws s n i = (lastW (ws.take n) i).getD (s i)
  | 0, _, i => rfl
  | n + 1, hn, i => by
    have e : ws.take (n + 1) = ws.take n ++ [ws.getD n default] := by
      rw [List.take_add_one, List.getElem?_eq_getElem (by omega), List.getD_eq_getElem?_getD, List.getElem?_eq_getElem (by omega)]; rfl
    rw [e, lastW_app]
    show (if i = (ws.getD n default).at_ then torn (ws.getD n default).x _ 0 else stN (fun _ => some 0) ws s n i) = _
    by_cases h : i = (ws.getD n default).at_
    · rw [if_pos h, if_pos h.symm]; simp [torn]
    · rw [if_neg h, if_neg (Ne.symm h)]; exact stN_all ws s n (by omega) i
/-- what the first device reads -/
abbrev St.r0 (s : St) (z : Int) : Sec := (s.dv.getD 0 default).read z
/-- a set whose power is there, with a first device of so many sectors -/
structure Up (s : St) (sz : Int) : Prop where
  ar : s.armed = false
  go : s.gone = false
  len : 1 ≤ s.dv.length
  sz : (s.dv.getD 0 default).size = sz
theorem Up.sz0 {s : St} {z : Int} (h : Up s z) : s.sz 0 = z := by
  have := h.len
  unfold St.sz
  rw [if_pos (by omega)]
  exact h.sz
theorem Up.step {s : St} {z : Int} (h : Up s z) : s.step.2 = true ∧ s.step.1.dv = s.dv ∧ s.step.1.armed = false ∧ s.step.1.gone = false := by
  unfold St.step
  rw [if_neg (by rw [h.ar, h.go]; simp)]
  exact ⟨rfl, rfl, h.ar, h.go⟩
theorem Up.wr {s : St} {sz : Int} (h : Up s sz) {i : Int} (h0 : 0 ≤ i) (h1 : i < sz) (x : Sec) : (s.wr 0 i x).2 = none ∧ Up (s.wr 0 i x).1 sz ∧ ∀ z, (s.wr 0 i x).1.r0 z = if z = i then x else s.r0 z := by
  obtain ⟨e1, e2, e3, e4⟩ := h.step
  have hl := h.len
  rcases wr_cases s 0 i x with ⟨_, _, hh⟩ | ⟨_, _, hh, _⟩ | ⟨a1, a2, _, _⟩
  · exfalso
    have : s.has 0 i = true := by
      unfold St.has
      rw [Bool.and_eq_true, decide_eq_true_eq, decide_eq_true_eq]
      exact ⟨⟨Int.le_refl _, by omega⟩, h0, by rw [show (0 : Int).toNat = 0 from rfl, h.sz]; exact h1⟩
    rw [hh] at this; cases this
  · rw [e1] at hh; cases hh
  · have hd : (s.wr 0 i x).1.dv.getD 0 default = (s.dv.getD 0 default).put ⟨i, x⟩ := by
      rw [a1]
      show (s.dv.set (0 : Int).toNat _).getD 0 default = _
      rw [getD_set, if_pos ⟨rfl, by show 0 < _; omega⟩]; rfl
    refine ⟨a2, ⟨by rw [a1]; exact e3, by rw [a1]; exact e4, by rw [a1]; simp; omega, by rw [hd]; exact h.sz⟩, fun z => ?_⟩
    show ((s.wr 0 i x).1.dv.getD 0 default).read z = _
    rw [hd]
    show (lastW ((s.dv.getD 0 default).wait ++ [⟨i, x⟩]) z).getD _ = _
    rw [lastW_app]
    by_cases e : z = i
    · rw [if_pos e, if_pos e.symm]; rfl
    · rw [if_neg e, if_neg (Ne.symm e)]; rfl
theorem Up.fl {s : St} {sz : Int} (h : Up s sz) : (s.fl 0).2 = none ∧ Up (s.fl 0).1 sz ∧ ((s.fl 0).1.dv.getD 0 default).wait = [] ∧ ∀ z, (s.fl 0).1.r0 z = s.r0 z := by
  obtain ⟨e1, e2, e3, e4⟩ := h.step
  have hl := h.len
  rcases fl_cases s 0 with ⟨_, _, hh⟩ | ⟨_, _, hh, _⟩ | ⟨a1, a2, _, _⟩
  · exact absurd ⟨Int.le_refl _, by omega⟩ hh
  · rw [e1] at hh; cases hh
  · have hd : (s.fl 0).1.dv.getD 0 default = (s.dv.getD 0 default).settle (fun _ => some 0) := by
      rw [a1]
      show (s.dv.set (0 : Int).toNat _).getD 0 default = _
      rw [getD_set, if_pos ⟨rfl, by show 0 < _; omega⟩]; rfl
    refine ⟨a2, ⟨by rw [a1]; exact e3, by rw [a1]; exact e4, by rw [a1]; simp; omega, by rw [hd]; exact h.sz⟩, by rw [hd]; rfl, fun z => ?_⟩
    show ((s.fl 0).1.dv.getD 0 default).read z = _
    rw [hd]
    show stN (fun _ => some 0) _ _ _ z = _
    rw [stN_all _ _ _ (Nat.le_refl _), List.take_of_length_le (Nat.le_refl _)]; rfl
theorem Up.rd {s : St} {sz : Int} (h : Up s sz) {z : Int} (h0 : 0 ≤ z) (h1 : z < sz) : s.rd 0 z = (s.r0 z, none) := by
  have hl := h.len
  unfold St.rd
  rw [if_neg (by rw [h.go]; simp), if_pos]
  · rfl
  · unfold St.has
    rw [Bool.and_eq_true, decide_eq_true_eq, decide_eq_true_eq]
    exact ⟨⟨Int.le_refl _, by omega⟩, h0, by rw [show (0 : Int).toNat = 0 from rfl, h.sz]; exact h1⟩


theorem St.saveM_cases (s : St) (m : Mf) : s.saveM m = (s, some 2) ∨ s.saveM m = (s, some 1) ∨ s.saveM m = s.wr 0 (m.gen % 2) m.sec ∨ s.saveM m = (s.wr 0 (m.gen % 2) m.sec).1.fl 0 := by
  cases hg : m.good with
  | false => exact .inl (saveM_no hg)
  | true =>
    by_cases hz : s.sz 0 < 2
    · exact .inr (.inl (saveM_few hg hz))
    · cases he : (s.wr 0 (m.gen % 2) m.sec).2 with
      | none => exact .inr (.inr (.inr (saveM_all hg hz he)))
      | some e => exact .inr (.inr (.inl (saveM_err hg hz he)))
theorem Sm.saveM {n : Nat} {s : St} (h : Sm n s) (m : Mf) : Sm (n + 1) (s.saveM m).1 := by
  rcases s.saveM_cases m with e | e | e | e <;> rw [e]
  · exact h.up (by omega)
  · exact h.up (by omega)
  · exact h.wr _ _ _
  · exact (h.wr _ _ _).fl _
theorem Up.saveM {s : St} {sz : Int} (h : Up s sz) (h2 : 2 ≤ sz) {m : Mf} (hm : m.Ok) : (s.saveM m).2 = none ∧ Up (s.saveM m).1 sz ∧ ((s.saveM m).1.dv.getD 0 default).wait = [] ∧ ∀ z, (s.saveM m).1.r0 z = if z = m.gen % 2 then m.sec else s.r0 z := by
  have := hm.g
  obtain ⟨a1, a2, a3⟩ := h.wr (i := m.gen % 2) (by omega) (by omega) m.sec
  rw [saveM_all (Mf.good_iff.2 hm) (by rw [h.sz0]; omega) a1]
  obtain ⟨q1, q2, q3, q4⟩ := a2.fl
  exact ⟨q1, q2, q3, fun z => by rw [q4, a3]⟩
theorem Up.best {s : St} {sz : Int} (h : Up s sz) (h2 : 2 ≤ sz) : s.bestN 2 = HL.pick (HL.pick zM (s.r0 0).b 0) (s.r0 1).b 1 := by
  show HL.pick (HL.pick zM (s.rd 0 (0 : Nat)).1.b (0 : Nat)) (s.rd 0 (1 : Nat)).1.b (1 : Nat) = _
  rw [h.rd (by omega) (by omega), h.rd (by omega) (by omega)]
  rfl
theorem Up.loadM {s : St} {sz : Int} (h : Up s sz) (h2 : 2 ≤ sz) {m : Mf} (hb : HL.pick (HL.pick zM (s.r0 0).b 0) (s.r0 1).b 1 = m) (hg : m.gen ≠ 0) : s.loadM = (m, none) := by
  unfold St.loadM
  rw [if_neg (by rw [h.sz0]; omega), if_neg (by rw [h.go]; simp), h.best h2, hb, if_neg hg]
theorem pick_seal {best m : Mf} (hm : m.Ok) {i : Int} (hi : m.gen % 2 = i) (hb : best.gen < m.gen) : HL.pick best m.sec.b i = m := by
  have h := opM_yes (opM_seal hm)
  have e : opMv m.sec.b = m := h.1
  have e2 : opMe m.sec.b = none := h.2
  rw [pick_yes ⟨e2, by rw [e]; exact hi, by rw [e]; exact hb⟩, e]
theorem zero_byte : ByteL Sec.zero.b := fun x hx => by
  have : x ∈ List.replicate 64 (0 : Int) := hx
  rw [List.mem_replicate] at this
  rw [this.2]; decide
theorem wr_steps {s : St} {sz : Int} (h : Up s sz) {i : Int} (h0 : 0 ≤ i) (h1 : i < sz) (x : Sec) : (s.wr 0 i x).1.steps = IntKind.i64.wrap (s.steps + 1) := by
  have hl := h.len
  have hh : s.has 0 i = true := by
    unfold St.has
    rw [Bool.and_eq_true, decide_eq_true_eq, decide_eq_true_eq]
    exact ⟨⟨Int.le_refl _, by omega⟩, h0, by rw [show (0 : Int).toNat = 0 from rfl, h.sz]; exact h1⟩
  unfold St.wr
  rw [if_pos hh]
  have : s.step = ({ s with left := IntKind.i64.wrap (s.left - 1), steps := IntKind.i64.wrap (s.steps + 1) }, true) := by
    unfold St.step
    rw [if_neg (by rw [h.ar, h.go]; simp)]
  rw [this]
theorem fl_steps {s : St} {sz : Int} (h : Up s sz) : (s.fl 0).1.steps = IntKind.i64.wrap (s.steps + 1) := by
  have hl := h.len
  unfold St.fl
  rw [if_pos ⟨Int.le_refl _, by omega⟩]
  have : s.step = ({ s with left := IntKind.i64.wrap (s.left - 1), steps := IntKind.i64.wrap (s.steps + 1) }, true) := by
    unfold St.step
    rw [if_neg (by rw [h.ar, h.go]; simp)]
  rw [this]
theorem saveM_steps {s : St} {sz : Int} (h : Up s sz) (h2 : 2 ≤ sz) {m : Mf} (hm : m.Ok) : (s.saveM m).1.steps = IntKind.i64.wrap (IntKind.i64.wrap (s.steps + 1) + 1) := by
  have := hm.g
  obtain ⟨a1, a2, a3⟩ := h.wr (i := m.gen % 2) (by omega) (by omega) m.sec
  rw [saveM_all (Mf.good_iff.2 hm) (by rw [h.sz0]; omega) a1, fl_steps a2, wr_steps h (by omega) (by omega)]


def alM (k : Nat) : Mf := ⟨4 + k, 1, 0, 0, 0, [4 + k]⟩
theorem alM_ok {k : Nat} (h : k < 2) : (alM k).Ok := Mf.good_iff.1 (by rcases (show k = 0 ∨ k = 1 by omega) with rfl | rfl <;> decide)
def alS : Nat → St
  | 0 => newSt [2]
  | k + 1 => ((alS k).saveM (alM k)).1
theorem al_up : ∀ k, k ≤ 2 → Up (alS k) 2 ∧ (alS k).steps = 2 * k
  | 0, _ => ⟨⟨rfl, rfl, by decide, rfl⟩, rfl⟩
  | k + 1, h => by
    obtain ⟨h1, h2⟩ := al_up k (by omega)
    have h3 := h1.saveM (by omega) (alM_ok (k := k) (by omega))
    refine ⟨h3.2.1, ?_⟩
    show ((alS k).saveM (alM k)).1.steps = _
    rw [saveM_steps h1 (by omega) (alM_ok (by omega)), h2, wrap_i64 (2 * (k : Int) + 1) (by omega) (by omega), wrap_i64 _ (by omega) (by omega)]
    omega
theorem al_sm : ∀ k, Sm k (alS k)
  | 0 => Sm.new (l := [2]) (by decide)
  | k + 1 => (al_sm k).saveM _
theorem al_none {k : Nat} (h : k < 2) : ((alS k).saveM (alM k)).2 = none := ((al_up k (by omega)).1.saveM (by omega) (alM_ok h)).1
theorem al_r0 : (alS 2).r0 0 = (alM 0).sec ∧ (alS 2).r0 1 = (alM 1).sec := by
  have h0 := (al_up 0 (by omega)).1.saveM (by omega) (alM_ok (k := 0) (by omega))
  have h1 := (al_up 1 (by omega)).1.saveM (by omega) (alM_ok (k := 1) (by omega))
  refine ⟨?_, ?_⟩
  · show ((alS 1).saveM (alM 1)).1.r0 0 = _
    rw [h1.2.2.2, if_neg (by decide)]
    show ((alS 0).saveM (alM 0)).1.r0 0 = _
    rw [h0.2.2.2, if_pos (by decide)]
  · show ((alS 1).saveM (alM 1)).1.r0 1 = _
    rw [h1.2.2.2, if_pos (by decide)]
theorem al_load : (alS 2).loadM = (⟨5, 1, 0, 0, 0, [5]⟩, none) := by
  show _ = (alM 1, none)
  refine (al_up 2 (by omega)).1.loadM (by omega) ?_ (by decide)
  rw [al_r0.1, al_r0.2, pick_seal (best := zM) (m := alM 0) (alM_ok (by omega)) (by decide) (by decide), pick_seal (m := alM 1) (alM_ok (by omega)) (by decide) (by decide)]
theorem al_byte (k : Nat) (h : k < 2) : ByteL ((alS 2).rd 0 k).1.b := by
  rw [(al_up 2 (by omega)).1.rd (by omega) (by omega)]
  rcases (show k = 0 ∨ k = 1 by omega) with rfl | rfl
  · rw [show ((0 : Nat) : Int) = 0 from rfl, al_r0.1]; exact (alM 0).seal_byte
  · rw [show ((1 : Nat) : Int) = 1 from rfl, al_r0.2]; exact (alM 1).seal_byte

end Go.Proofs.Ytigofhhonnbkmaa.HL
end
section
namespace Go.Proofs.Ytigofhhonnbkmaa.HL
open Go Go.Proofs
set_option linter.unusedSimpArgs false
set_option linter.unusedVariables false
attribute [local irreducible] Lt Lq CW OW TW CallH

set_option maxRecDepth 100000 in
set_option maxHeartbeats 4000000 in
theorem alive_ok (H : Hp) : CallH Try.prog 7 #[] H (fun v H' => v = .bool true ∧ H' = H) := by
  refine CallH_enter (l := []) (rl := [.tmp 0]) (n := 53) Try.func7 rfl rfl rfl rfl rfl ?_
  simp only [envOf, Nat.reduceAdd]
  refine CW_seq (fun K1 hK1 => ?_)
  refine CW_region ?_
  refine OW_as rfl ?_
  refine OW_nil ?_
  try simp only [Ex.thnH, Ex.inBlockH, ↓reduceIte, Nat.reduceEqDiff]
  refine hK1 _ _ ?_; try clear hK1 K1
  refine CW_seq (fun K2 hK2 => ?_)
  refine CW_region ?_
  refine OW_opS (fun K hK r => ?_)
  simp only [x_buildSlice, List.map_toArray, List.map_cons, List.map_nil, eX, ↓reduceIte, Nat.reduceEqDiff, Int.reduceToNat]
  refine Lt_buildSlice (vs := [_]) Try.underlying22 sz3 zr3 rfl bsA (by first | decide | (simp; done)) ?_
  simp only [List.flatMap_cons, List.flatMap_nil, Value.cells, List.append_nil, List.cons_append, List.nil_append, List.length_cons, List.length_nil, Nat.zero_add, Nat.reduceAdd]
  intro b6 hb6
  have f6_H : H b6 = none := none_of_le lhA hb6
  try simp only [eX, ↓reduceIte, Nat.reduceEqDiff, Int.reduceToNat]
  refine hK _ _ ?_; clear hK K
  refine OW_opS (fun K hK r => ?_)
  simp only [x_callF _ bd19, List.map_toArray, List.map_cons, List.map_nil, eX, ↓reduceIte, Nat.reduceEqDiff, Int.reduceToNat]
  refine (newL _ _ _ [2] ⟨rfl, .inr ⟨b6, 0, 1, _, _, _, rfl, hbA, by simp, by simp⟩⟩ rfl (by decide)).mono ?_
  rintro v7 H7 ⟨p, F7, rfl, hA7⟩
  have hO7 := hA7.old
  have lH7 : Le H H7 := Le.trans (le_upd _ _ _ hb6) hO7
  have hA7' : Stn H H7 F7 p (alS 0) := hA7.less (le_upd _ _ _ hb6)
  try simp only [eX, ↓reduceIte, Nat.reduceEqDiff, Int.reduceToNat]
  refine hK _ _ ?_; clear hK K
  refine OW_mv rfl ?_
  refine OW_opS (fun K hK r => ?_)
  simp only [x_extract, i_extract, List.getElem?_toArray, List.getElem?_cons_zero, List.getElem?_cons_succ, orF_some, eX, ↓reduceIte, Nat.reduceEqDiff, Int.reduceToNat]
  refine hK _ _ ?_; clear hK K
  refine OW_opS (fun K hK r => ?_)
  simp only [x_extract, i_extract, List.getElem?_toArray, List.getElem?_cons_zero, List.getElem?_cons_succ, orF_some, eX, ↓reduceIte, Nat.reduceEqDiff, Int.reduceToNat]
  refine hK _ _ ?_; clear hK K
  refine OW_as rfl ?_
  refine OW_as rfl ?_
  refine OW_nil ?_
  try simp only [Ex.thnH, Ex.inBlockH, ↓reduceIte, Nat.reduceEqDiff]
  refine hK2 _ _ ?_; try clear hK2 K2
  refine CW_seq (fun K3 hK3 => ?_)
  refine CW_seq (fun K4 hK4 => ?_)
  refine CW_region ?_
  refine OW_mv rfl ?_
  refine OW_opS (fun K hK r => ?_)
  simp only [x_bin, g_int, g_bool, g_string, g_pointer, g_slice, g_map, g_func, g_nilFunc, g_err, g_iface, g_nil_iface, g_nil_r, g_nil_l, eX, ↓reduceIte, Nat.reduceEqDiff, Int.reduceToNat]
  first | rw [b_err_neq _ _ Try.underlying32] | (rw [e_neq _ _ _ _ (by simp), q_equal]; first | rw [q_iface_nil _ _ _ Try.underlying32] | rw [q_nil_iface _ _ _ Try.underlying32] | rw [q_nil_nil _ _ _ Try.underlying32])
  try simp only [eX, ↓reduceIte, Nat.reduceEqDiff, Int.reduceToNat]
  refine hK _ _ ?_; clear hK K
  refine OW_nil ?_
  try simp only [Ex.thnH, Ex.inBlockH, ↓reduceIte, Nat.reduceEqDiff]
  refine hK4 _ _ ?_; try clear hK4 K4
  refine CW_cond (fun r => rfl) (fun c11 => ?_) (fun c11 => ?_)
  · exfalso; exact cnA c11
  refine CW_skip ?_
  try simp only [Ex.thnH, Ex.inBlockH, ↓reduceIte, Nat.reduceEqDiff]
  refine hK3 _ _ ?_; try clear hK3 K3
  refine CW_seq (fun K5 hK5 => ?_)
  refine CW_seq (fun K6 hK6 => ?_)
  refine CW_region ?_
  refine OW_as rfl ?_
  refine OW_nil ?_
  try simp only [Ex.thnH, Ex.inBlockH, ↓reduceIte, Nat.reduceEqDiff]
  refine hK6 _ _ ?_; try clear hK6 K6
  refine CW_block ?_
  refine CW_loop (fun m_ e H_ => ∃ (k : Nat) (F : Hp), k ≤ 2 ∧ m_ = 2 - k ∧ Stn H H_ F p (alS k) ∧ Env.has [(1, .pointer (some ⟨p, 0, none⟩)), (3, .int .i64 (4 + k))] e) (2) ?_ ?_
  · skip
    exact ⟨0, _, by omega, by omega, hA7', rfl, rfl, trivial⟩
  intro m_ e_ H_ hI_
  obtain ⟨k, F, hk, rfl, hA, he⟩ := hI_
  refine CW_env he.sub ?_; clear he e_
  have hHH := hA.old
  refine CW_seq (fun K7 hK7 => ?_)
  refine CW_seq (fun K8 hK8 => ?_)
  refine CW_region ?_
  refine OW_mv rfl ?_
  refine OW_opS (fun K hK r => ?_)
  simp (disch := (first | omega | decide)) only [x_bin, g_int, b_lss, dec_lt_t, dec_lt_f, dec_le_t, dec_le_f, dec_eq_t, dec_eq_f, Bool.not_true, Bool.not_false, eX, ↓reduceIte, Nat.reduceEqDiff, Int.reduceToNat]
  refine hK _ _ ?_; clear hK K
  refine OW_nil ?_
  try simp only [Ex.thnH, Ex.inBlockH, ↓reduceIte, Nat.reduceEqDiff]
  refine hK8 _ _ ?_; try clear hK8 K8
  refine CW_cond (fun r => rfl) (fun c13 => ?_) (fun c13 => ?_)
  · first
    | (exfalso; exact cnA c13; done)
    | skip
      (try simp only [decide_eq_true_eq, decide_eq_false_iff_not, Bool.not_eq_true, Bool.not_eq_false, Bool.and_eq_true, Bool.or_eq_true, Bool.or_eq_false_iff, Bool.not_eq_true, Bool.not_eq_eq_eq_not, Bool.not_true, Bool.not_false] at c13)
      refine CW_skip ?_
      try simp only [Ex.thnH, Ex.inBlockH, ↓reduceIte, Nat.reduceEqDiff]
      refine hK7 _ _ ?_; try clear hK7 K7
      refine CW_seq (fun K9 hK9 => ?_)
      refine CW_block ?_
      refine CW_seq (fun K10 hK10 => ?_)
      refine CW_region ?_
      refine OW_mv rfl ?_
      refine OW_mv rfl ?_
      refine OW_mv rfl ?_
      refine OW_opS (fun K hK r => ?_)
      simp only [x_buildSlice, List.map_toArray, List.map_cons, List.map_nil, eX, ↓reduceIte, Nat.reduceEqDiff, Int.reduceToNat]
      refine Lt_buildSlice (vs := [_]) Try.underlying22 sz3 zr3 rfl bsA (by first | decide | (simp; done)) ?_
      simp only [List.flatMap_cons, List.flatMap_nil, Value.cells, List.append_nil, List.cons_append, List.nil_append, List.length_cons, List.length_nil, Nat.zero_add, Nat.reduceAdd]
      intro b19 hb19
      try have n19_b6 : b6 ≠ b19 := ne_of_none hbA hb19
      have f19_H : H b19 = none := none_of_le lhA hb19
      try simp only [eX, ↓reduceIte, Nat.reduceEqDiff, Int.reduceToNat]
      refine hK _ _ ?_; clear hK K
      refine OW_opS (fun K hK r => ?_)
      simp only [x_build, bp27, List.map_toArray, List.map_cons, List.map_nil, eX, ↓reduceIte, Nat.reduceEqDiff, Int.reduceToNat]
      rw [fill_one rfl clA bdA]
      rw [fill_one rfl clA bdA]
      rw [fill_one rfl clA bdA]
      simp only [fill_nil, orF_some, List.setIfInBounds_toArray, List.set_cons_zero, List.set_cons_succ]
      try simp only [eX, ↓reduceIte, Nat.reduceEqDiff, Int.reduceToNat]
      refine hK _ _ ?_; clear hK K
      refine OW_opS (fun K hK r => ?_)
      simp only [x_callF _ bd22, List.map_toArray, List.map_cons, List.map_nil, eX, ↓reduceIte, Nat.reduceEqDiff, Int.reduceToNat]
      have hA19 := hA.put (hA.fresh hb19) (.cells #[.int .i64 (4 + k)] 3)
      refine (saveL hA19 (al_sm k) (by omega) ⟨4 + k, 1, 0, 0, 0, [4 + k]⟩ (some ⟨b19, 0, none⟩) 1 ⟨rfl, .inr ⟨b19, 0, 1, _, _, _, rfl, upd_same _ _ _, by simp [alM], by simp [alM]⟩⟩ (by simp [alM])).mono ?_
      rintro v21 H21 ⟨rfl, F21, hS21'⟩
      have hS21 : Stn H H21 F21 p (alS (k + 1)) := hS21'.less (le_upd _ _ _ (none_of_le hA.old hb19))
      rw [show ((alS k).saveM ⟨4 + k, 1, 0, 0, 0, [4 + k]⟩).2 = none from al_none (by omega)]
      try simp only [eX, ↓reduceIte, Nat.reduceEqDiff, Int.reduceToNat]
      refine hK _ _ ?_; clear hK K
      refine OW_opS (fun K hK r => ?_)
      simp only [x_bin, g_int, g_bool, g_string, g_pointer, g_slice, g_map, g_func, g_nilFunc, g_err, g_iface, g_nil_iface, g_nil_r, g_nil_l, eX, ↓reduceIte, Nat.reduceEqDiff, Int.reduceToNat]
      first | rw [b_err_neq _ _ Try.underlying32] | (rw [e_neq _ _ _ _ (by simp), q_equal]; first | rw [q_iface_nil _ _ _ Try.underlying32] | rw [q_nil_iface _ _ _ Try.underlying32] | rw [q_nil_nil _ _ _ Try.underlying32])
      try simp only [eX, ↓reduceIte, Nat.reduceEqDiff, Int.reduceToNat]
      refine hK _ _ ?_; clear hK K
      refine OW_nil ?_
      try simp only [Ex.thnH, Ex.inBlockH, ↓reduceIte, Nat.reduceEqDiff]
      refine hK10 _ _ ?_; try clear hK10 K10
      refine CW_cond (fun r => rfl) (fun c22 => ?_) (fun c22 => ?_)
      · exfalso; exact cnA c22
      refine CW_skip ?_
      try simp only [Ex.thnH, Ex.inBlockH, ↓reduceIte, Nat.reduceEqDiff]
      refine hK9 _ _ ?_; try clear hK9 K9
      refine CW_region ?_
      refine OW_mv rfl ?_
      refine OW_opS (fun K hK r => ?_)
      simp (disch := (first | omega | decide)) only [x_bin, g_int, b_add, wrap_i64, wrap_u64, wrap_u32, wrap_u8, eX, ↓reduceIte, Nat.reduceEqDiff, Int.reduceToNat]
      refine hK _ _ ?_; clear hK K
      refine OW_as rfl ?_
      refine OW_nil ?_
      try simp only [Ex.thnH, Ex.inBlockH, ↓reduceIte, Nat.reduceEqDiff]
      exact ⟨2 - (k + 1), by omega, k + 1, F21, by omega, rfl, hS21, rfl, by first | rfl | (show some (Value.int _ _) = some (Value.int _ _); congr 2; omega), trivial⟩
  · first
    | (exfalso; exact cnA c13; done)
    | skip
      (try simp only [decide_eq_true_eq, decide_eq_false_iff_not, Bool.not_eq_true, Bool.not_eq_false, Bool.and_eq_true, Bool.or_eq_true, Bool.or_eq_false_iff, Bool.not_eq_true, Bool.not_eq_eq_eq_not, Bool.not_true, Bool.not_false] at c13)
      obtain rfl : k = 2 := by omega
      refine CW_exit ?_
      try simp only [Ex.thnH, Ex.inBlockH, ↓reduceIte, Nat.reduceEqDiff]
      refine hK5 _ _ ?_; try clear hK5 K5
      refine CW_seq (fun K11 hK11 => ?_)
      refine CW_region ?_
      refine OW_mv rfl ?_
      refine OW_opS (fun K hK r => ?_)
      simp only [x_callF _ bd30, List.map_toArray, List.map_cons, List.map_nil, eX, ↓reduceIte, Nat.reduceEqDiff, Int.reduceToNat]
      refine (loadL hA (al_sm 2) (by omega) (fun k hk => al_byte k hk)).mono ?_
      rintro v25 H25 ⟨l25, x25, rs25, rfl, ho25, hr25⟩
      rw [al_load] at ho25 ⊢
      simp only [List.length_cons, List.length_nil, Nat.zero_add] at ho25
      obtain ⟨xa, xc, rfl⟩ := ho25.holds.form
      have lH25 : Le H H25 := Le.trans hA.old l25
      have hh25 := ho25.holds
      obtain ⟨bw, ow, qw, Tw, Fw, rfl, hbw, hsw, atw⟩ := hh25.at (by decide)
      try have n_bw_b6 : bw ≠ b6 := ne_of_none hbw f6_H
      have e5 : i64s [5] = [.int .i64 5] := rfl
      rw [e5] at atw
      try simp only [eX, ↓reduceIte, Nat.reduceEqDiff, Int.reduceToNat]
      refine hK _ _ ?_; clear hK K
      refine OW_mv rfl ?_
      refine OW_opS (fun K hK r => ?_)
      simp only [x_extract, i_extract, List.getElem?_toArray, List.getElem?_cons_zero, List.getElem?_cons_succ, orF_some, eX, ↓reduceIte, Nat.reduceEqDiff, Int.reduceToNat]
      refine hK _ _ ?_; clear hK K
      refine OW_opS (fun K hK r => ?_)
      simp only [x_extract, i_extract, List.getElem?_toArray, List.getElem?_cons_zero, List.getElem?_cons_succ, orF_some, eX, ↓reduceIte, Nat.reduceEqDiff, Int.reduceToNat]
      refine hK _ _ ?_; clear hK K
      refine OW_opS (fun K hK r => ?_)
      simp only [x_alloc, zr27, orF_some, Value.cells, eX, ↓reduceIte, Nat.reduceEqDiff, Int.reduceToNat]
      intro b4 hb4
      try have n4_b6 : b6 ≠ b4 := ne_of_none hbA hb4
      have f4_H : H b4 = none := none_of_le lhA hb4
      have nw4 : bw ≠ b4 := ne_of_none hbw hb4
      try simp only [eX, ↓reduceIte, Nat.reduceEqDiff, Int.reduceToNat]
      refine hK _ _ ?_; clear hK K
      refine OW_op rfl (lt_none) (fun K hK r => ?_)
      simp only [x_store, eX, ↓reduceIte, Nat.reduceEqDiff, Int.reduceToNat]
      first | refine Lt_storeAll sz27 bdA hbA bdA plA (by decide) ?_ | refine Lt_storeAtA sz27 bdA hbA bdA plA (by decide) ?_
      try simp only [eX, ↓reduceIte, Nat.reduceEqDiff, Int.reduceToNat]
      refine hK _ _ ?_; clear hK K
      refine OW_as rfl ?_
      refine OW_nil ?_
      try simp only [Ex.thnH, Ex.inBlockH, ↓reduceIte, Nat.reduceEqDiff]
      refine hK11 _ _ ?_; try clear hK11 K11
      refine CW_seq (fun K12 hK12 => ?_)
      refine CW_region ?_
      refine OW_mv rfl ?_
      refine OW_opS (fun K hK r => ?_)
      simp only [x_bin, g_int, g_bool, g_string, g_pointer, g_slice, g_map, g_func, g_nilFunc, g_err, g_iface, g_nil_iface, g_nil_r, g_nil_l, eX, ↓reduceIte, Nat.reduceEqDiff, Int.reduceToNat]
      first | rw [b_err_eql _ _ Try.underlying32] | (rw [e_eql _ _ _ _ (by simp), q_equal]; first | rw [q_iface_nil _ _ _ Try.underlying32] | rw [q_nil_iface _ _ _ Try.underlying32] | rw [q_nil_nil _ _ _ Try.underlying32])
      try simp only [eX, ↓reduceIte, Nat.reduceEqDiff, Int.reduceToNat]
      refine hK _ _ ?_; clear hK K
      refine OW_mv rfl ?_
      (first | refine OW_split (d := 30) rfl (fun g30 => ?_) (fun g30 => ?_) | skip)
      all_goals try (exfalso; exact cnA g30)
      all_goals (try simp only [decide_eq_true_eq, decide_eq_false_iff_not, Bool.not_eq_true, Bool.not_eq_false, Bool.and_eq_true, Bool.or_eq_true, Bool.or_eq_false_iff, Bool.not_eq_true, Bool.not_eq_eq_eq_not, Bool.not_true, Bool.not_false] at g30)
      all_goals
        try simp only [eX, ↓reduceIte, Nat.reduceEqDiff, Int.reduceToNat]
        first
        | refine OW_guardT rfl (lt_some (by decide)) rfl (fun K hK r => ?_)
          simp only [x_fieldAddr, fa27_0, add_mk, Nat.reduceAdd, Nat.zero_add, eX, ↓reduceIte, Nat.reduceEqDiff, Int.reduceToNat]
          refine hK _ _ ?_; clear hK K
        | refine OW_guardF rfl (lt_some (by decide)) rfl ?_
          simp only [eX, ↓reduceIte, Nat.reduceEqDiff, Int.reduceToNat]
        first
        | refine OW_guardT rfl (lt_some (by decide)) rfl (fun K hK r => ?_)
          simp only [x_load, eX, ↓reduceIte, Nat.reduceEqDiff, Int.reduceToNat]
          refine Lt_loadAt1 Try.underlying3 rfl hbA ldA ?_
          try simp only [eX, ↓reduceIte, Nat.reduceEqDiff, Int.reduceToNat]
          refine hK _ _ ?_; clear hK K
        | refine OW_guardF rfl (lt_some (by decide)) rfl ?_
          simp only [eX, ↓reduceIte, Nat.reduceEqDiff, Int.reduceToNat]
        first
        | refine OW_guardT rfl (lt_some (by decide)) rfl (fun K hK r => ?_)
          simp (disch := (first | omega | decide)) only [x_bin, g_int, b_eql, dec_lt_t, dec_lt_f, dec_le_t, dec_le_f, dec_eq_t, dec_eq_f, Bool.not_true, Bool.not_false, eX, ↓reduceIte, Nat.reduceEqDiff, Int.reduceToNat]
          refine hK _ _ ?_; clear hK K
        | refine OW_guardF rfl (lt_some (by decide)) rfl ?_
          simp only [eX, ↓reduceIte, Nat.reduceEqDiff, Int.reduceToNat]
        refine OW_opS (fun K hK r => ?_)
        simp only [x_pick, l_asBool, HL.ite_bool, if_true, if_false, Bool.false_eq_true, eX, ↓reduceIte, Nat.reduceEqDiff, Int.reduceToNat]
        refine hK _ _ ?_; clear hK K
        refine OW_mv rfl ?_
        (first | refine OW_split (d := 35) rfl (fun g35 => ?_) (fun g35 => ?_) | skip)
        all_goals try (exfalso; exact cnA g35)
        all_goals (try simp only [decide_eq_true_eq, decide_eq_false_iff_not, Bool.not_eq_true, Bool.not_eq_false, Bool.and_eq_true, Bool.or_eq_true, Bool.or_eq_false_iff, Bool.not_eq_true, Bool.not_eq_eq_eq_not, Bool.not_true, Bool.not_false] at g35)
        all_goals
          try simp only [eX, ↓reduceIte, Nat.reduceEqDiff, Int.reduceToNat]
          first
          | refine OW_guardT rfl (lt_some (by decide)) rfl (fun K hK r => ?_)
            simp only [x_fieldAddr, fa27_5, add_mk, Nat.reduceAdd, Nat.zero_add, eX, ↓reduceIte, Nat.reduceEqDiff, Int.reduceToNat]
            refine hK _ _ ?_; clear hK K
          | refine OW_guardF rfl (lt_some (by decide)) rfl ?_
            simp only [eX, ↓reduceIte, Nat.reduceEqDiff, Int.reduceToNat]
          first
          | refine OW_guardT rfl (lt_some (by decide)) rfl (fun K hK r => ?_)
            simp only [x_load, eX, ↓reduceIte, Nat.reduceEqDiff, Int.reduceToNat]
            refine Lt_loadAt1 Try.underlying22 rfl hbA ldA ?_
            try simp only [eX, ↓reduceIte, Nat.reduceEqDiff, Int.reduceToNat]
            refine hK _ _ ?_; clear hK K
          | refine OW_guardF rfl (lt_some (by decide)) rfl ?_
            simp only [eX, ↓reduceIte, Nat.reduceEqDiff, Int.reduceToNat]
          first
          | refine OW_guardT rfl (lt_some (by decide)) rfl (fun K hK r => ?_)
            simp only [x_builtin, l_len, List.map_toArray, List.map_cons, List.map_nil, i_len_slice _ _ Try.underlying22, eX, ↓reduceIte, Nat.reduceEqDiff, Int.reduceToNat]
            refine hK _ _ ?_; clear hK K
          | refine OW_guardF rfl (lt_some (by decide)) rfl ?_
            simp only [eX, ↓reduceIte, Nat.reduceEqDiff, Int.reduceToNat]
          first
          | refine OW_guardT rfl (lt_some (by decide)) rfl (fun K hK r => ?_)
            simp (disch := (first | omega | decide)) only [x_bin, g_int, b_eql, dec_lt_t, dec_lt_f, dec_le_t, dec_le_f, dec_eq_t, dec_eq_f, Bool.not_true, Bool.not_false, eX, ↓reduceIte, Nat.reduceEqDiff, Int.reduceToNat]
            refine hK _ _ ?_; clear hK K
          | refine OW_guardF rfl (lt_some (by decide)) rfl ?_
            simp only [eX, ↓reduceIte, Nat.reduceEqDiff, Int.reduceToNat]
          refine OW_opS (fun K hK r => ?_)
          simp only [x_pick, l_asBool, HL.ite_bool, if_true, if_false, Bool.false_eq_true, eX, ↓reduceIte, Nat.reduceEqDiff, Int.reduceToNat]
          refine hK _ _ ?_; clear hK K
          refine OW_mv rfl ?_
          (first | refine OW_split (d := 41) rfl (fun g41 => ?_) (fun g41 => ?_) | skip)
          all_goals try (exfalso; exact cnA g41)
          all_goals (try simp only [decide_eq_true_eq, decide_eq_false_iff_not, Bool.not_eq_true, Bool.not_eq_false, Bool.and_eq_true, Bool.or_eq_true, Bool.or_eq_false_iff, Bool.not_eq_true, Bool.not_eq_eq_eq_not, Bool.not_true, Bool.not_false] at g41)
          all_goals
            try simp only [eX, ↓reduceIte, Nat.reduceEqDiff, Int.reduceToNat]
            first
            | refine OW_guardT rfl (lt_some (by decide)) rfl (fun K hK r => ?_)
              simp only [x_fieldAddr, fa27_5, add_mk, Nat.reduceAdd, Nat.zero_add, eX, ↓reduceIte, Nat.reduceEqDiff, Int.reduceToNat]
              refine hK _ _ ?_; clear hK K
            | refine OW_guardF rfl (lt_some (by decide)) rfl ?_
              simp only [eX, ↓reduceIte, Nat.reduceEqDiff, Int.reduceToNat]
            first
            | refine OW_guardT rfl (lt_some (by decide)) rfl (fun K hK r => ?_)
              simp only [x_load, eX, ↓reduceIte, Nat.reduceEqDiff, Int.reduceToNat]
              refine Lt_loadAt1 Try.underlying22 rfl hbA ldA ?_
              try simp only [eX, ↓reduceIte, Nat.reduceEqDiff, Int.reduceToNat]
              refine hK _ _ ?_; clear hK K
            | refine OW_guardF rfl (lt_some (by decide)) rfl ?_
              simp only [eX, ↓reduceIte, Nat.reduceEqDiff, Int.reduceToNat]
            first
            | refine OW_guardT rfl (lt_some (by decide)) rfl (fun K hK r => ?_)
              simp only [x_indexAddr, eX, ↓reduceIte, Nat.reduceEqDiff, Int.reduceToNat]
              refine Lt_indexS Try.underlying22 sz3 ixA ixA ?_
              try simp only [add_mk, Nat.mul_one, Nat.zero_add, Int.reduceToNat]
              try simp only [eX, ↓reduceIte, Nat.reduceEqDiff, Int.reduceToNat]
              refine hK _ _ ?_; clear hK K
            | refine OW_guardF rfl (lt_some (by decide)) rfl ?_
              simp only [eX, ↓reduceIte, Nat.reduceEqDiff, Int.reduceToNat]
            first
            | refine OW_guardT rfl (lt_some (by decide)) rfl (fun K hK r => ?_)
              simp only [x_load, eX, ↓reduceIte, Nat.reduceEqDiff, Int.reduceToNat]
              refine Lt_loadAt1 Try.underlying3 rfl hbA (v := .int .i64 5) (by have := atw 0 (by simp); simpa using this) ?_
              refine hK _ _ ?_; clear hK K
            | refine OW_guardF rfl (lt_some (by decide)) rfl ?_
              simp only [eX, ↓reduceIte, Nat.reduceEqDiff, Int.reduceToNat]
            first
            | refine OW_guardT rfl (lt_some (by decide)) rfl (fun K hK r => ?_)
              simp (disch := (first | omega | decide)) only [x_bin, g_int, b_eql, dec_lt_t, dec_lt_f, dec_le_t, dec_le_f, dec_eq_t, dec_eq_f, Bool.not_true, Bool.not_false, eX, ↓reduceIte, Nat.reduceEqDiff, Int.reduceToNat]
              refine hK _ _ ?_; clear hK K
            | refine OW_guardF rfl (lt_some (by decide)) rfl ?_
              simp only [eX, ↓reduceIte, Nat.reduceEqDiff, Int.reduceToNat]
            refine OW_opS (fun K hK r => ?_)
            simp only [x_pick, l_asBool, HL.ite_bool, if_true, if_false, Bool.false_eq_true, eX, ↓reduceIte, Nat.reduceEqDiff, Int.reduceToNat]
            refine hK _ _ ?_; clear hK K
            refine OW_mv rfl ?_
            (first | refine OW_split (d := 48) rfl (fun g48 => ?_) (fun g48 => ?_) | skip)
            all_goals try (exfalso; exact cnA g48)
            all_goals (try simp only [decide_eq_true_eq, decide_eq_false_iff_not, Bool.not_eq_true, Bool.not_eq_false, Bool.and_eq_true, Bool.or_eq_true, Bool.or_eq_false_iff, Bool.not_eq_true, Bool.not_eq_eq_eq_not, Bool.not_true, Bool.not_false] at g48)
            all_goals
              try simp only [eX, ↓reduceIte, Nat.reduceEqDiff, Int.reduceToNat]
              first
              | refine OW_guardT rfl (lt_some (by decide)) rfl (fun K hK r => ?_)
                simp only [x_move, eX, ↓reduceIte, Nat.reduceEqDiff, Int.reduceToNat]
                refine hK _ _ ?_; clear hK K
              | refine OW_guardF rfl (lt_some (by decide)) rfl ?_
                simp only [eX, ↓reduceIte, Nat.reduceEqDiff, Int.reduceToNat]
              first
              | refine OW_guardT rfl (lt_some (by decide)) rfl (fun K hK r => ?_)
                simp only [x_callF _ bd33, List.map_toArray, List.map_cons, List.map_nil, eX, ↓reduceIte, Nat.reduceEqDiff, Int.reduceToNat]
                refine (stepsL (hA.more (Le.trans l25 (le_upd _ _ _ hb4)))).mono ?_
                rintro v H' ⟨rfl, hq⟩
                have hq := hq.symm
                subst hq
                rw [(al_up 2 (by omega)).2]
                try simp only [eX, ↓reduceIte, Nat.reduceEqDiff, Int.reduceToNat]
                refine hK _ _ ?_; clear hK K
              | refine OW_guardF rfl (lt_some (by decide)) rfl ?_
                simp only [eX, ↓reduceIte, Nat.reduceEqDiff, Int.reduceToNat]
              first
              | refine OW_guardT rfl (lt_some (by decide)) rfl (fun K hK r => ?_)
                simp (disch := (first | omega | decide)) only [x_bin, g_int, b_eql, dec_lt_t, dec_lt_f, dec_le_t, dec_le_f, dec_eq_t, dec_eq_f, Bool.not_true, Bool.not_false, eX, ↓reduceIte, Nat.reduceEqDiff, Int.reduceToNat]
                refine hK _ _ ?_; clear hK K
              | refine OW_guardF rfl (lt_some (by decide)) rfl ?_
                simp only [eX, ↓reduceIte, Nat.reduceEqDiff, Int.reduceToNat]
              refine OW_opS (fun K hK r => ?_)
              simp only [x_pick, l_asBool, HL.ite_bool, if_true, if_false, Bool.false_eq_true, eX, ↓reduceIte, Nat.reduceEqDiff, Int.reduceToNat]
              refine hK _ _ ?_; clear hK K
              refine OW_as rfl ?_
              refine OW_nil ?_
              try simp only [Ex.thnH, Ex.inBlockH, ↓reduceIte, Nat.reduceEqDiff]
              refine hK12 _ _ ?_; try clear hK12 K12
              refine CW_ret ?_
              try simp only [Ex.thnH, Ex.inBlockH, ↓reduceIte, Nat.reduceEqDiff]
              refine ⟨[_], ⟨rfl, trivial⟩, H, lhA, ?_, rfl⟩
              first | rfl | (simp; done)

end Go.Proofs.Ytigofhhonnbkmaa.HL
end
section
namespace Go.Proofs.Ytigofhhonnbkmaa.HL
open Go Go.Proofs
set_option linter.unusedSimpArgs false
set_option linter.unusedVariables false
attribute [local irreducible] Lt Lq CW OW TW CallH

end Go.Proofs.Ytigofhhonnbkmaa.HL
end
section
namespace Go.Proofs.Ytigofhhonnbkmaa.HL
open Go Go.Proofs
set_option linter.unusedSimpArgs false
set_option linter.unusedVariables false
attribute [local irreducible] Lt Lq CW OW TW CallH

set_option maxRecDepth 100000 in
set_option maxHeartbeats 1000000 in
theorem num_Ints (H : Hp) (va vb : Value) (L M : List Int) (ha : Holds H 1 va L.length (i64s L)) (hb : Holds H 1 vb M.length (i64s M)) (hn : L.length ≤ 1000000) : CallH Try.prog 41 #[va, vb] H (fun v H' => v = .bool (decide (L = M)) ∧ H' = H) := by
  refine CallH_enter (l := [_, _]) (rl := [.tmp 4]) (n := 26) Try.func41 rfl rfl rfl rfl rfl ?_
  simp only [envOf, Nat.reduceAdd]
  obtain ⟨aa, ca, rfl⟩ := ha.form
  obtain ⟨ab, cb, rfl⟩ := hb.form
  refine CW_seq (fun K1 hK1 => ?_)
  refine CW_region ?_
  refine OW_as rfl ?_
  refine OW_nil ?_
  try simp only [Ex.thnH, Ex.inBlockH, ↓reduceIte, Nat.reduceEqDiff]
  refine hK1 _ _ ?_; try clear hK1 K1
  refine CW_seq (fun K2 hK2 => ?_)
  refine CW_seq (fun K3 hK3 => ?_)
  refine CW_region ?_
  refine OW_mv rfl ?_
  refine OW_opS (fun K hK r => ?_)
  simp only [x_builtin, l_len, List.map_toArray, List.map_cons, List.map_nil, i_len_slice _ _ Try.underlying22, eX, ↓reduceIte, Nat.reduceEqDiff, Int.reduceToNat]
  refine hK _ _ ?_; clear hK K
  refine OW_mv rfl ?_
  refine OW_opS (fun K hK r => ?_)
  simp only [x_builtin, l_len, List.map_toArray, List.map_cons, List.map_nil, i_len_slice _ _ Try.underlying22, eX, ↓reduceIte, Nat.reduceEqDiff, Int.reduceToNat]
  refine hK _ _ ?_; clear hK K
  refine OW_opS (fun K hK r => ?_)
  simp (disch := (first | omega | decide)) only [x_bin, g_int, b_neq, dec_lt_t, dec_lt_f, dec_le_t, dec_le_f, dec_eq_t, dec_eq_f, Bool.not_true, Bool.not_false, eX, ↓reduceIte, Nat.reduceEqDiff, Int.reduceToNat]
  refine hK _ _ ?_; clear hK K
  refine OW_nil ?_
  try simp only [Ex.thnH, Ex.inBlockH, ↓reduceIte, Nat.reduceEqDiff]
  refine hK3 _ _ ?_; try clear hK3 K3
  refine CW_cond (fun r => rfl) (fun c10 => ?_) (fun c10 => ?_)
  · first
    | (exfalso; exact cnA c10; done)
    | skip
      (try simp only [decide_eq_true_eq, decide_eq_false_iff_not, Bool.not_eq_true, Bool.not_eq_false, Bool.and_eq_true, Bool.or_eq_true, Bool.or_eq_false_iff, Bool.not_eq_true, Bool.not_eq_eq_eq_not, Bool.not_true, Bool.not_false] at c10)
      refine CW_seq (fun K4 hK4 => ?_)
      refine CW_region ?_
      refine OW_as rfl ?_
      refine OW_nil ?_
      try simp only [Ex.thnH, Ex.inBlockH, ↓reduceIte, Nat.reduceEqDiff]
      refine hK4 _ _ ?_; try clear hK4 K4
      refine CW_ret ?_
      try simp only [Ex.thnH, Ex.inBlockH, ↓reduceIte, Nat.reduceEqDiff]
      refine ⟨[_], ⟨rfl, trivial⟩, _, Le.refl _, ?_, rfl⟩
      show Value.bool _ = _
      rw [decide_eq_false (fun h => by subst h; simp at c10)]
  · first
    | (exfalso; exact cnA c10; done)
    | skip
      (try simp only [decide_eq_true_eq, decide_eq_false_iff_not, Bool.not_eq_true, Bool.not_eq_false, Bool.and_eq_true, Bool.or_eq_true, Bool.or_eq_false_iff, Bool.not_eq_true, Bool.not_eq_eq_eq_not, Bool.not_true, Bool.not_false] at c10)
      have hln : L.length = M.length := by omega
      refine CW_skip ?_
      try simp only [Ex.thnH, Ex.inBlockH, ↓reduceIte, Nat.reduceEqDiff]
      refine hK2 _ _ ?_; try clear hK2 K2
      refine CW_seq (fun K5 hK5 => ?_)
      refine CW_seq (fun K6 hK6 => ?_)
      refine CW_region ?_
      refine OW_mv rfl ?_
      refine OW_opS (fun K hK r => ?_)
      simp only [x_builtin, l_len, List.map_toArray, List.map_cons, List.map_nil, i_len_slice _ _ Try.underlying22, eX, ↓reduceIte, Nat.reduceEqDiff, Int.reduceToNat]
      refine hK _ _ ?_; clear hK K
      refine OW_mv rfl ?_
      refine OW_nil ?_
      try simp only [Ex.thnH, Ex.inBlockH, ↓reduceIte, Nat.reduceEqDiff]
      refine hK6 _ _ ?_; try clear hK6 K6
      refine CW_block ?_
      refine CW_loop (fun m e H_ => ∃ k : Nat, k ≤ L.length ∧ m = L.length - k ∧ L.take k = M.take k ∧ Env.has [(0, .slice aa L.length ca), (1, .slice ab M.length cb), (12, .int .i64 L.length), (13, .int .i64 k)] e ∧ H_ = H) (L.length) ?_ ?_
      · skip
        exact ⟨0, by omega, by omega, rfl, ⟨rfl, rfl, rfl, rfl, trivial⟩, rfl⟩
      intro m_ e_ H_ hI_
      obtain ⟨k, hk, rfl, htk, he, rfl⟩ := hI_
      refine CW_env he.sub ?_; clear he e_
      refine CW_seq (fun K7 hK7 => ?_)
      refine CW_region ?_
      refine OW_opS (fun K hK r => ?_)
      simp (disch := (first | omega | decide)) only [x_bin, g_int, b_lss, dec_lt_t, dec_lt_f, dec_le_t, dec_le_f, dec_eq_t, dec_eq_f, Bool.not_true, Bool.not_false, eX, ↓reduceIte, Nat.reduceEqDiff, Int.reduceToNat]
      refine hK _ _ ?_; clear hK K
      refine OW_nil ?_
      try simp only [Ex.thnH, Ex.inBlockH, ↓reduceIte, Nat.reduceEqDiff]
      refine hK7 _ _ ?_; try clear hK7 K7
      refine CW_seq (fun K8 hK8 => ?_)
      refine CW_cond (fun r => rfl) (fun c14 => ?_) (fun c14 => ?_)
      · first
        | (exfalso; exact cnA c14; done)
        | skip
          (try simp only [decide_eq_true_eq, decide_eq_false_iff_not, Bool.not_eq_true, Bool.not_eq_false, Bool.and_eq_true, Bool.or_eq_true, Bool.or_eq_false_iff, Bool.not_eq_true, Bool.not_eq_eq_eq_not, Bool.not_true, Bool.not_false] at c14)
          obtain ⟨ba, oa, qa, Ta, Fa, rfl, hba, hsa, ata⟩ := ha.at (by omega)
          obtain ⟨bb, ob, qb, Tb, Fb, rfl, hbb, hsb, atb⟩ := hb.at (by omega)
          refine CW_skip ?_
          try simp only [Ex.thnH, Ex.inBlockH, ↓reduceIte, Nat.reduceEqDiff]
          refine hK8 _ _ ?_; try clear hK8 K8
          refine CW_seq (fun K9 hK9 => ?_)
          refine CW_block ?_
          refine CW_seq (fun K10 hK10 => ?_)
          refine CW_region ?_
          refine OW_mv rfl ?_
          refine OW_as rfl ?_
          refine OW_nil ?_
          try simp only [Ex.thnH, Ex.inBlockH, ↓reduceIte, Nat.reduceEqDiff]
          refine hK10 _ _ ?_; try clear hK10 K10
          refine CW_seq (fun K11 hK11 => ?_)
          refine CW_drawE [0, 0, 0, 1, 0, 0, 0, 1, 0] [0, 1, 2, 3, 4, 5, 6, 7, 8] (by kernel_rfl) (by kernel_rfl) (fun R6 hR6 => ?_)
          apply TW_pure rfl (lt_some (by decide)) rfl
          · intro r
            simp only [x_move, eX, ↓reduceIte, Nat.reduceEqDiff]
            exact ⟨rfl, Le.refl _⟩
          simp only [eX, ↓reduceIte, Nat.reduceEqDiff, Int.reduceToNat]
          apply TW_pure rfl (lt_some (by decide)) rfl
          · intro r
            simp only [x_move, eX, ↓reduceIte, Nat.reduceEqDiff]
            exact ⟨rfl, Le.refl _⟩
          simp only [eX, ↓reduceIte, Nat.reduceEqDiff, Int.reduceToNat]
          apply TW_pure rfl (lt_some (by decide)) rfl
          · intro r
            simp only [x_indexAddr, eX, ↓reduceIte, Nat.reduceEqDiff]
            refine Lt_indexS Try.underlying22 sz3 ixA ixA ?_
            try simp only [add_mk, Nat.mul_one, Nat.zero_add, Int.reduceToNat]
            exact ⟨rfl, Le.refl _⟩
          simp only [eX, ↓reduceIte, Nat.reduceEqDiff, Int.reduceToNat]
          apply TW_look rfl (lt_some (by decide)) rfl
          · intro r
            simp only [x_load, eX, ↓reduceIte, Nat.reduceEqDiff]
            refine Lt_loadAt1 Try.underlying3 rfl hbA (v := .int .i64 (L.getD k 0)) (by first | exact ints_at ata rfl _ (by omega) | (simp only [Int.toNat_natCast, Nat.mul_one]; exact ints_at ata rfl _ (by omega))) ?_
            exact ⟨rfl, Le.refl _⟩
          simp only [eX, ↓reduceIte, Nat.reduceEqDiff, Int.reduceToNat]
          apply TW_pure rfl (lt_some (by decide)) rfl
          · intro r
            simp only [x_move, eX, ↓reduceIte, Nat.reduceEqDiff]
            exact ⟨rfl, Le.refl _⟩
          simp only [eX, ↓reduceIte, Nat.reduceEqDiff, Int.reduceToNat]
          apply TW_pure rfl (lt_some (by decide)) rfl
          · intro r
            simp only [x_move, eX, ↓reduceIte, Nat.reduceEqDiff]
            exact ⟨rfl, Le.refl _⟩
          simp only [eX, ↓reduceIte, Nat.reduceEqDiff, Int.reduceToNat]
          apply TW_pure rfl (lt_some (by decide)) rfl
          · intro r
            simp only [x_indexAddr, eX, ↓reduceIte, Nat.reduceEqDiff]
            refine Lt_indexS Try.underlying22 sz3 ixA ixA ?_
            try simp only [add_mk, Nat.mul_one, Nat.zero_add, Int.reduceToNat]
            exact ⟨rfl, Le.refl _⟩
          simp only [eX, ↓reduceIte, Nat.reduceEqDiff, Int.reduceToNat]
          apply TW_look rfl (lt_some (by decide)) rfl
          · intro r
            simp only [x_load, eX, ↓reduceIte, Nat.reduceEqDiff]
            refine Lt_loadAt1 Try.underlying3 rfl hbA (v := .int .i64 (M.getD k 0)) (by first | exact ints_at atb rfl _ (by omega) | (simp only [Int.toNat_natCast, Nat.mul_one]; exact ints_at atb rfl _ (by omega))) ?_
            exact ⟨rfl, Le.refl _⟩
          simp only [eX, ↓reduceIte, Nat.reduceEqDiff, Int.reduceToNat]
          apply TW_pure rfl (lt_some (by decide)) rfl
          · intro r
            simp (disch := (first | omega | decide)) only [x_bin, g_int, b_neq, dec_lt_t, dec_lt_f, dec_le_t, dec_le_f, dec_eq_t, dec_eq_f, Bool.not_true, Bool.not_false, eX, ↓reduceIte, Nat.reduceEqDiff]
            exact ⟨rfl, Le.refl _⟩
          simp only [eX, ↓reduceIte, Nat.reduceEqDiff, Int.reduceToNat]
          refine TW_nil ?_
          try simp only [Ex.thnH, Ex.inBlockH, ↓reduceIte, Nat.reduceEqDiff]
          refine hK11 _ _ ?_; try clear hK11 K11
          refine CW_cond (fun r => rfl) (fun c24 => ?_) (fun c24 => ?_)
          · first
            | (exfalso; exact cnA c24; done)
            | skip
              (try simp only [decide_eq_true_eq, decide_eq_false_iff_not, Bool.not_eq_true, Bool.not_eq_false, Bool.and_eq_true, Bool.or_eq_true, Bool.or_eq_false_iff, Bool.not_eq_true, Bool.not_eq_eq_eq_not, Bool.not_true, Bool.not_false] at c24)
              refine CW_seq (fun K12 hK12 => ?_)
              refine CW_region ?_
              refine OW_as rfl ?_
              refine OW_nil ?_
              try simp only [Ex.thnH, Ex.inBlockH, ↓reduceIte, Nat.reduceEqDiff]
              refine hK12 _ _ ?_; try clear hK12 K12
              refine CW_ret ?_
              try simp only [Ex.thnH, Ex.inBlockH, ↓reduceIte, Nat.reduceEqDiff]
              refine ⟨[_], ⟨rfl, trivial⟩, _, Le.refl _, ?_, rfl⟩
              show Value.bool _ = _
              rw [decide_eq_false (fun h => by subst h; simp at c24)]
          · first
            | (exfalso; exact cnA c24; done)
            | skip
              (try simp only [decide_eq_true_eq, decide_eq_false_iff_not, Bool.not_eq_true, Bool.not_eq_false, Bool.and_eq_true, Bool.or_eq_true, Bool.or_eq_false_iff, Bool.not_eq_true, Bool.not_eq_eq_eq_not, Bool.not_true, Bool.not_false] at c24)
              refine CW_skip ?_
              try simp only [Ex.thnH, Ex.inBlockH, ↓reduceIte, Nat.reduceEqDiff]
              refine hK9 _ _ ?_; try clear hK9 K9
              refine CW_region ?_
              refine OW_opS (fun K hK r => ?_)
              simp (disch := (first | omega | decide)) only [x_bin, g_int, b_add, wrap_i64, wrap_u64, wrap_u32, wrap_u8, eX, ↓reduceIte, Nat.reduceEqDiff, Int.reduceToNat]
              refine hK _ _ ?_; clear hK K
              refine OW_mv rfl ?_
              refine OW_nil ?_
              try simp only [Ex.thnH, Ex.inBlockH, ↓reduceIte, Nat.reduceEqDiff]
              refine ⟨L.length - (k + 1), by omega, k + 1, by omega, rfl, ?_, ⟨rfl, rfl, rfl, rfl, trivial⟩, rfA⟩
              refine take_eq_step htk (by omega) (by omega) ?_
              simpa using c24
      · first
        | (exfalso; exact cnA c14; done)
        | skip
          (try simp only [decide_eq_true_eq, decide_eq_false_iff_not, Bool.not_eq_true, Bool.not_eq_false, Bool.and_eq_true, Bool.or_eq_true, Bool.or_eq_false_iff, Bool.not_eq_true, Bool.not_eq_eq_eq_not, Bool.not_true, Bool.not_false] at c14)
          refine CW_exit ?_
          try simp only [Ex.thnH, Ex.inBlockH, ↓reduceIte, Nat.reduceEqDiff]
          refine hK5 _ _ ?_; try clear hK5 K5
          refine CW_seq (fun K13 hK13 => ?_)
          refine CW_region ?_
          refine OW_as rfl ?_
          refine OW_nil ?_
          try simp only [Ex.thnH, Ex.inBlockH, ↓reduceIte, Nat.reduceEqDiff]
          refine hK13 _ _ ?_; try clear hK13 K13
          refine CW_ret ?_
          try simp only [Ex.thnH, Ex.inBlockH, ↓reduceIte, Nat.reduceEqDiff]
          refine ⟨[_], ⟨rfl, trivial⟩, _, Le.refl _, ?_, rfl⟩
          show Value.bool _ = _
          have ek : k = L.length := by omega
          subst ek
          rw [List.take_length, hln, List.take_length] at htk
          rw [decide_eq_true htk]

set_option maxRecDepth 100000 in
set_option maxHeartbeats 1000000 in
theorem large_ok (H : Hp) (m : Mf) (ma : Option Addr) (mc : Nat) (hm : Holds H 1 (.slice ma m.hd.length mc) m.hd.length (i64s m.hd)) (hm0 : m.hd.length ≤ 9223372036854775807) : CallH Try.prog 8 #[.agg #[.int .i64 m.gen, .int .i64 m.ep, .int .i64 m.ba, .int .i64 m.ar, .int .i64 m.ln, .slice ma m.hd.length mc]] H (fun v H' => v = .bool (decide ((m.hd.length : Int) > 20)) ∧ H' = H) := by
  refine CallH_enter (l := [_]) (rl := [.tmp 2]) (n := 7) Try.func8 rfl rfl rfl rfl rfl ?_
  simp only [envOf, Nat.reduceAdd]
  refine CW_seq (fun K1 hK1 => ?_)
  refine CW_region ?_
  refine OW_opS (fun K hK r => ?_)
  simp only [x_box, Value.cells, eX, ↓reduceIte, Nat.reduceEqDiff, Int.reduceToNat]
  intro b1 hb1
  have f1_H : H b1 = none := none_of_le lhA hb1
  try simp only [eX, ↓reduceIte, Nat.reduceEqDiff, Int.reduceToNat]
  refine hK _ _ ?_; clear hK K
  refine OW_as rfl ?_
  refine OW_nil ?_
  try simp only [Ex.thnH, Ex.inBlockH, ↓reduceIte, Nat.reduceEqDiff]
  refine hK1 _ _ ?_; try clear hK1 K1
  refine CW_seq (fun K2 hK2 => ?_)
  refine CW_region ?_
  refine OW_opS (fun K hK r => ?_)
  simp only [x_fieldAddr, fa24_5, add_mk, Nat.reduceAdd, Nat.zero_add, eX, ↓reduceIte, Nat.reduceEqDiff, Int.reduceToNat]
  refine hK _ _ ?_; clear hK K
  refine OW_opS (fun K hK r => ?_)
  simp only [x_load, eX, ↓reduceIte, Nat.reduceEqDiff, Int.reduceToNat]
  refine Lt_loadAt1 Try.underlying22 rfl hbA ldA ?_
  try simp only [eX, ↓reduceIte, Nat.reduceEqDiff, Int.reduceToNat]
  refine hK _ _ ?_; clear hK K
  refine OW_opS (fun K hK r => ?_)
  simp only [x_builtin, l_len, List.map_toArray, List.map_cons, List.map_nil, i_len_slice _ _ Try.underlying22, eX, ↓reduceIte, Nat.reduceEqDiff, Int.reduceToNat]
  refine hK _ _ ?_; clear hK K
  refine OW_opS (fun K hK r => ?_)
  simp (disch := (first | omega | decide)) only [x_bin, g_int, b_gtr, dec_lt_t, dec_lt_f, dec_le_t, dec_le_f, dec_eq_t, dec_eq_f, Bool.not_true, Bool.not_false, eX, ↓reduceIte, Nat.reduceEqDiff, Int.reduceToNat]
  refine hK _ _ ?_; clear hK K
  refine OW_as rfl ?_
  refine OW_nil ?_
  try simp only [Ex.thnH, Ex.inBlockH, ↓reduceIte, Nat.reduceEqDiff]
  refine hK2 _ _ ?_; try clear hK2 K2
  refine CW_ret ?_
  try simp only [Ex.thnH, Ex.inBlockH, ↓reduceIte, Nat.reduceEqDiff]
  exact ⟨[_], ⟨rfl, trivial⟩, H, lhA, rfl, rfl⟩

set_option maxRecDepth 100000 in
set_option maxHeartbeats 1000000 in
theorem program_ok (H : Hp) (m : Mf) (ma : Option Addr) (mc : Nat) (hm : Holds H 1 (.slice ma m.hd.length mc) m.hd.length (i64s m.hd)) (hml : m.hd.length ≤ 1000000) : CallH Try.prog 9 #[.agg #[.int .i64 m.gen, .int .i64 m.ep, .int .i64 m.ba, .int .i64 m.ar, .int .i64 m.ln, .slice ma m.hd.length mc]] H (fun v H' => Le H H' ∧ ∃ xa xc rs, v = .agg #[.int .i64 m.gen, .int .i64 m.ep, .int .i64 m.ba, .int .i64 m.ar, .int .i64 m.ln, .slice xa m.hd.length xc] ∧ OwnS H' 3 1 (.slice xa m.hd.length xc) m.hd.length (i64s m.hd) rs ∧ ∀ r, rs = some r → H r = none) := by
  refine CallH_enter (l := [_]) (rl := [.cell 2 27]) (n := 11) Try.func9 rfl rfl rfl rfl rfl ?_
  simp only [envOf, Nat.reduceAdd]
  refine CW_seq (fun K1 hK1 => ?_)
  refine CW_region ?_
  refine OW_opS (fun K hK r => ?_)
  simp only [x_box, Value.cells, eX, ↓reduceIte, Nat.reduceEqDiff, Int.reduceToNat]
  intro b1 hb1
  have f1_H : H b1 = none := none_of_le lhA hb1
  try simp only [eX, ↓reduceIte, Nat.reduceEqDiff, Int.reduceToNat]
  refine hK _ _ ?_; clear hK K
  refine OW_opS (fun K hK r => ?_)
  simp only [x_alloc, zr27, orF_some, Value.cells, eX, ↓reduceIte, Nat.reduceEqDiff, Int.reduceToNat]
  intro b2 hb2
  try have n2_b1 : b1 ≠ b2 := ne_of_none hbA hb2
  have f2_H : H b2 = none := none_of_le lhA hb2
  try simp only [eX, ↓reduceIte, Nat.reduceEqDiff, Int.reduceToNat]
  refine hK _ _ ?_; clear hK K
  refine OW_nil ?_
  try simp only [Ex.thnH, Ex.inBlockH, ↓reduceIte, Nat.reduceEqDiff]
  refine hK1 _ _ ?_; try clear hK1 K1
  refine CW_seq (fun K2 hK2 => ?_)
  refine CW_region ?_
  refine OW_opS (fun K hK r => ?_)
  simp only [x_load, eX, ↓reduceIte, Nat.reduceEqDiff, Int.reduceToNat]
  first | refine Lt_loadAll Try.underlying24 rfl sz24 hbA bdA ?_ | refine Lt_loadAtA Try.underlying24 rfl sz24 hbA bdA ?_
  try simp only [List.extract_toArray, List.extract_eq_take_drop, Nat.zero_add, Nat.reduceAdd, Nat.reduceSub, Nat.sub_zero, List.drop_succ_cons, List.drop_zero, List.take_succ_cons, List.take_zero, List.take_nil, List.drop_nil]
  try simp only [eX, ↓reduceIte, Nat.reduceEqDiff, Int.reduceToNat]
  refine hK _ _ ?_; clear hK K
  refine OW_opS (fun K hK r => ?_)
  simp only [x_alloc, zr27, orF_some, Value.cells, eX, ↓reduceIte, Nat.reduceEqDiff, Int.reduceToNat]
  intro b3 hb3
  try have n3_b1 : b1 ≠ b3 := ne_of_none hbA hb3
  try have n3_b2 : b2 ≠ b3 := ne_of_none hbA hb3
  have f3_H : H b3 = none := none_of_le lhA hb3
  try simp only [eX, ↓reduceIte, Nat.reduceEqDiff, Int.reduceToNat]
  refine hK _ _ ?_; clear hK K
  refine OW_op rfl (lt_none) (fun K hK r => ?_)
  simp only [x_store, eX, ↓reduceIte, Nat.reduceEqDiff, Int.reduceToNat]
  first | refine Lt_storeAll sz27 bdA hbA bdA plA (by decide) ?_ | refine Lt_storeAtA sz27 bdA hbA bdA plA (by decide) ?_
  try simp only [eX, ↓reduceIte, Nat.reduceEqDiff, Int.reduceToNat]
  refine hK _ _ ?_; clear hK K
  refine OW_nil ?_
  try simp only [Ex.thnH, Ex.inBlockH, ↓reduceIte, Nat.reduceEqDiff]
  refine hK2 _ _ ?_; try clear hK2 K2
  refine CW_seq (fun K3 hK3 => ?_)
  refine CW_region ?_
  refine OW_opS (fun K hK r => ?_)
  simp only [x_buildSlice, List.map_toArray, List.map_cons, List.map_nil, eX, ↓reduceIte, Nat.reduceEqDiff, Int.reduceToNat]
  refine Lt_buildSlice (vs := []) Try.underlying22 sz3 zr3 rfl bsA (by first | decide | (simp; done)) ?_
  simp only [List.flatMap_cons, List.flatMap_nil, Value.cells, List.append_nil, List.cons_append, List.nil_append, List.length_cons, List.length_nil, Nat.zero_add, Nat.reduceAdd]
  intro b5 hb5
  try have n5_b1 : b1 ≠ b5 := ne_of_none hbA hb5
  try have n5_b2 : b2 ≠ b5 := ne_of_none hbA hb5
  try have n5_b3 : b3 ≠ b5 := ne_of_none hbA hb5
  have f5_H : H b5 = none := none_of_le lhA hb5
  try simp only [eX, ↓reduceIte, Nat.reduceEqDiff, Int.reduceToNat]
  refine hK _ _ ?_; clear hK K
  refine OW_opS (fun K hK r => ?_)
  simp only [x_fieldAddr, fa24_5, add_mk, Nat.reduceAdd, Nat.zero_add, eX, ↓reduceIte, Nat.reduceEqDiff, Int.reduceToNat]
  refine hK _ _ ?_; clear hK K
  refine OW_opS (fun K hK r => ?_)
  simp only [x_load, eX, ↓reduceIte, Nat.reduceEqDiff, Int.reduceToNat]
  refine Lt_loadAt1 Try.underlying22 rfl hbA ldA ?_
  try simp only [eX, ↓reduceIte, Nat.reduceEqDiff, Int.reduceToNat]
  refine hK _ _ ?_; clear hK K
  refine OW_opS (fun K hK r => ?_)
  simp only [x_builtin, l_append, List.map_toArray, List.map_cons, List.map_nil, eX, ↓reduceIte, Nat.reduceEqDiff, Int.reduceToNat]
  refine Lt_appendNew Try.underlying22 sz3 by3 (by decide) zr3 rfl _ hbA (hm.le lhA) (PlainL.ints _ _) (by omega) ?_
  intro v8 H8 rs8 hg8 ho8 hr8
  have lH8_H : Le H H8 := hg8.le (H0 := H) lhA (fun r hr => by cases hr; exact f5_H)
  have hx1 := hg8.known b1 _ hbA (fun e => by cases e; exact absurd rfl n5_b1)
  have hx2 := hg8.known b2 _ hbA (fun e => by cases e; exact absurd rfl n5_b2)
  have hx3 := hg8.known b3 _ hbA (fun e => by cases e; exact absurd rfl n5_b3)
  have ne2 : rs8 ≠ some b2 := fun e => by
    rcases hr8 _ e with h | h
    · exact n5_b2 h
    · rw [upd_ne _ _ n5_b2, upd_ne _ _ n3_b2, upd_same] at h; cases h
  have ne3 : rs8 ≠ some b3 := fun e => by
    rcases hr8 _ e with h | h
    · exact n5_b3 h
    · rw [upd_ne _ _ n5_b3, upd_same] at h; cases h
  obtain ⟨a8, c8, rfl⟩ := ho8.holds.form
  refine hK _ _ ?_; clear hK K
  refine OW_opS (fun K hK r => ?_)
  simp only [x_fieldAddr, fa27_5, add_mk, Nat.reduceAdd, Nat.zero_add, eX, ↓reduceIte, Nat.reduceEqDiff, Int.reduceToNat]
  refine hK _ _ ?_; clear hK K
  refine OW_op rfl (lt_none) (fun K hK r => ?_)
  simp only [x_store, eX, ↓reduceIte, Nat.reduceEqDiff, Int.reduceToNat]
  refine Lt_storeAt1 sz22 hbA bdA plA fzA ?_
  try simp only [setL0, setL1, setL2, setL3, setL4, setL5, setL6, setL7, setL8, setL9]
  try simp only [eX, ↓reduceIte, Nat.reduceEqDiff, Int.reduceToNat]
  refine hK _ _ ?_; clear hK K
  refine OW_nil ?_
  try simp only [Ex.thnH, Ex.inBlockH, ↓reduceIte, Nat.reduceEqDiff]
  refine hK3 _ _ ?_; try clear hK3 K3
  refine CW_seq (fun K4 hK4 => ?_)
  refine CW_region ?_
  refine OW_opS (fun K hK r => ?_)
  simp only [x_load, eX, ↓reduceIte, Nat.reduceEqDiff, Int.reduceToNat]
  first | refine Lt_loadAll Try.underlying27 rfl sz27 hbA bdA ?_ | refine Lt_loadAtA Try.underlying27 rfl sz27 hbA bdA ?_
  try simp only [List.extract_toArray, List.extract_eq_take_drop, Nat.zero_add, Nat.reduceAdd, Nat.reduceSub, Nat.sub_zero, List.drop_succ_cons, List.drop_zero, List.take_succ_cons, List.take_zero, List.take_nil, List.drop_nil]
  try simp only [eX, ↓reduceIte, Nat.reduceEqDiff, Int.reduceToNat]
  refine hK _ _ ?_; clear hK K
  refine OW_op rfl (lt_none) (fun K hK r => ?_)
  simp only [x_store, eX, ↓reduceIte, Nat.reduceEqDiff, Int.reduceToNat]
  first | refine Lt_storeAll sz27 bdA hbA bdA plA (by decide) ?_ | refine Lt_storeAtA sz27 bdA hbA bdA plA (by decide) ?_
  try simp only [eX, ↓reduceIte, Nat.reduceEqDiff, Int.reduceToNat]
  refine hK _ _ ?_; clear hK K
  refine OW_nil ?_
  try simp only [Ex.thnH, Ex.inBlockH, ↓reduceIte, Nat.reduceEqDiff]
  refine hK4 _ _ ?_; try clear hK4 K4
  refine CW_ret ?_
  try simp only [Ex.thnH, Ex.inBlockH, ↓reduceIte, Nat.reduceEqDiff]
  refine ⟨[_], ⟨⟨_, rfl, Lq_loadAll Try.underlying27 rfl sz27 hbA bdA⟩, trivial⟩, _, Le.refl _, ?_, a8, c8, rs8, rfl, ?_, ?_⟩
  · exact lhA
  · exact (ho8.upd ne3).upd ne2
  · intro r hr
    rcases hr8 r hr with rfl | h
    · exact f5_H
    · exact none_of_le lhA h


theorem Mf.eq_iff (m n : Mf) : decide (m = n) = (decide (m.gen = n.gen) && decide (m.ep = n.ep) && decide (m.ba = n.ba) && decide (m.ar = n.ar) && decide (m.ln = n.ln) && decide (m.hd = n.hd)) := by
  rw [Bool.eq_iff_iff]
  simp only [Bool.and_eq_true, decide_eq_true_eq]
  constructor
  · rintro rfl; simp
  · rintro ⟨⟨⟨⟨⟨h1, h2⟩, h3⟩, h4⟩, h5⟩, h6⟩
    cases m; cases n
    simp only at *
    subst h1 h2 h3 h4 h5 h6; rfl

set_option maxRecDepth 100000 in
set_option maxHeartbeats 4000000 in
theorem same_ok (H : Hp) (m : Mf) (ma : Option Addr) (mc : Nat) (hm : Holds H 1 (.slice ma m.hd.length mc) m.hd.length (i64s m.hd)) (n : Mf) (na : Option Addr) (nc : Nat) (hn : Holds H 1 (.slice na n.hd.length nc) n.hd.length (i64s n.hd)) (hml : m.hd.length ≤ 1000000) : CallH Try.prog 13 #[.agg #[.int .i64 m.gen, .int .i64 m.ep, .int .i64 m.ba, .int .i64 m.ar, .int .i64 m.ln, .slice ma m.hd.length mc], .agg #[.int .i64 n.gen, .int .i64 n.ep, .int .i64 n.ba, .int .i64 n.ar, .int .i64 n.ln, .slice na n.hd.length nc]] H (fun v H' => v = .bool (decide (m = n)) ∧ H' = H) := by
  refine CallH_enter (l := [_, _]) (rl := [.tmp 4]) (n := 45) Try.func13 rfl rfl rfl rfl rfl ?_
  simp only [envOf, Nat.reduceAdd]
  refine CW_seq (fun K1 hK1 => ?_)
  refine CW_region ?_
  refine OW_opS (fun K hK r => ?_)
  simp only [x_box, Value.cells, eX, ↓reduceIte, Nat.reduceEqDiff, Int.reduceToNat]
  intro b2 hb2
  have f2_H : H b2 = none := none_of_le lhA hb2
  try simp only [eX, ↓reduceIte, Nat.reduceEqDiff, Int.reduceToNat]
  refine hK _ _ ?_; clear hK K
  refine OW_opS (fun K hK r => ?_)
  simp only [x_box, Value.cells, eX, ↓reduceIte, Nat.reduceEqDiff, Int.reduceToNat]
  intro b3 hb3
  try have n3_b2 : b2 ≠ b3 := ne_of_none hbA hb3
  have f3_H : H b3 = none := none_of_le lhA hb3
  try simp only [eX, ↓reduceIte, Nat.reduceEqDiff, Int.reduceToNat]
  refine hK _ _ ?_; clear hK K
  refine OW_as rfl ?_
  refine OW_nil ?_
  try simp only [Ex.thnH, Ex.inBlockH, ↓reduceIte, Nat.reduceEqDiff]
  refine hK1 _ _ ?_; try clear hK1 K1
  refine CW_seq (fun K2 hK2 => ?_)
  refine CW_region ?_
  refine OW_opS (fun K hK r => ?_)
  simp only [x_fieldAddr, fa27_0, add_mk, Nat.reduceAdd, Nat.zero_add, eX, ↓reduceIte, Nat.reduceEqDiff, Int.reduceToNat]
  refine hK _ _ ?_; clear hK K
  refine OW_opS (fun K hK r => ?_)
  simp only [x_load, eX, ↓reduceIte, Nat.reduceEqDiff, Int.reduceToNat]
  refine Lt_loadAt1 Try.underlying3 rfl hbA ldA ?_
  try simp only [eX, ↓reduceIte, Nat.reduceEqDiff, Int.reduceToNat]
  refine hK _ _ ?_; clear hK K
  refine OW_opS (fun K hK r => ?_)
  simp only [x_fieldAddr, fa24_0, add_mk, Nat.reduceAdd, Nat.zero_add, eX, ↓reduceIte, Nat.reduceEqDiff, Int.reduceToNat]
  refine hK _ _ ?_; clear hK K
  refine OW_opS (fun K hK r => ?_)
  simp only [x_load, eX, ↓reduceIte, Nat.reduceEqDiff, Int.reduceToNat]
  refine Lt_loadAt1 Try.underlying3 rfl hbA ldA ?_
  try simp only [eX, ↓reduceIte, Nat.reduceEqDiff, Int.reduceToNat]
  refine hK _ _ ?_; clear hK K
  refine OW_opS (fun K hK r => ?_)
  simp (disch := (first | omega | decide)) only [x_bin, g_int, b_eql, dec_lt_t, dec_lt_f, dec_le_t, dec_le_f, dec_eq_t, dec_eq_f, Bool.not_true, Bool.not_false, eX, ↓reduceIte, Nat.reduceEqDiff, Int.reduceToNat]
  refine hK _ _ ?_; clear hK K
  refine OW_mv rfl ?_
  (first | refine OW_split (d := 10) rfl (fun g10 => ?_) (fun g10 => ?_) | skip)
  all_goals try (exfalso; exact cnA g10)
  all_goals (try simp only [decide_eq_true_eq, decide_eq_false_iff_not, Bool.not_eq_true, Bool.not_eq_false, Bool.and_eq_true, Bool.or_eq_true, Bool.or_eq_false_iff, Bool.not_eq_true, Bool.not_eq_eq_eq_not, Bool.not_true, Bool.not_false] at g10)
  all_goals
    try simp only [eX, ↓reduceIte, Nat.reduceEqDiff, Int.reduceToNat]
    first
    | refine OW_guardT rfl (lt_some (by decide)) rfl (fun K hK r => ?_)
      simp only [x_fieldAddr, fa27_1, add_mk, Nat.reduceAdd, Nat.zero_add, eX, ↓reduceIte, Nat.reduceEqDiff, Int.reduceToNat]
      refine hK _ _ ?_; clear hK K
    | refine OW_guardF rfl (lt_some (by decide)) rfl ?_
      simp only [eX, ↓reduceIte, Nat.reduceEqDiff, Int.reduceToNat]
    first
    | refine OW_guardT rfl (lt_some (by decide)) rfl (fun K hK r => ?_)
      simp only [x_load, eX, ↓reduceIte, Nat.reduceEqDiff, Int.reduceToNat]
      refine Lt_loadAt1 Try.underlying3 rfl hbA ldA ?_
      try simp only [eX, ↓reduceIte, Nat.reduceEqDiff, Int.reduceToNat]
      refine hK _ _ ?_; clear hK K
    | refine OW_guardF rfl (lt_some (by decide)) rfl ?_
      simp only [eX, ↓reduceIte, Nat.reduceEqDiff, Int.reduceToNat]
    first
    | refine OW_guardT rfl (lt_some (by decide)) rfl (fun K hK r => ?_)
      simp only [x_fieldAddr, fa24_1, add_mk, Nat.reduceAdd, Nat.zero_add, eX, ↓reduceIte, Nat.reduceEqDiff, Int.reduceToNat]
      refine hK _ _ ?_; clear hK K
    | refine OW_guardF rfl (lt_some (by decide)) rfl ?_
      simp only [eX, ↓reduceIte, Nat.reduceEqDiff, Int.reduceToNat]
    first
    | refine OW_guardT rfl (lt_some (by decide)) rfl (fun K hK r => ?_)
      simp only [x_load, eX, ↓reduceIte, Nat.reduceEqDiff, Int.reduceToNat]
      refine Lt_loadAt1 Try.underlying3 rfl hbA ldA ?_
      try simp only [eX, ↓reduceIte, Nat.reduceEqDiff, Int.reduceToNat]
      refine hK _ _ ?_; clear hK K
    | refine OW_guardF rfl (lt_some (by decide)) rfl ?_
      simp only [eX, ↓reduceIte, Nat.reduceEqDiff, Int.reduceToNat]
    first
    | refine OW_guardT rfl (lt_some (by decide)) rfl (fun K hK r => ?_)
      simp (disch := (first | omega | decide)) only [x_bin, g_int, b_eql, dec_lt_t, dec_lt_f, dec_le_t, dec_le_f, dec_eq_t, dec_eq_f, Bool.not_true, Bool.not_false, eX, ↓reduceIte, Nat.reduceEqDiff, Int.reduceToNat]
      refine hK _ _ ?_; clear hK K
    | refine OW_guardF rfl (lt_some (by decide)) rfl ?_
      simp only [eX, ↓reduceIte, Nat.reduceEqDiff, Int.reduceToNat]
    refine OW_opS (fun K hK r => ?_)
    simp only [x_pick, l_asBool, HL.ite_bool, if_true, if_false, Bool.false_eq_true, eX, ↓reduceIte, Nat.reduceEqDiff, Int.reduceToNat]
    refine hK _ _ ?_; clear hK K
    refine OW_mv rfl ?_
    (first | refine OW_split (d := 17) rfl (fun g17 => ?_) (fun g17 => ?_) | skip)
    all_goals try (exfalso; exact cnA g17)
    all_goals (try simp only [decide_eq_true_eq, decide_eq_false_iff_not, Bool.not_eq_true, Bool.not_eq_false, Bool.and_eq_true, Bool.or_eq_true, Bool.or_eq_false_iff, Bool.not_eq_true, Bool.not_eq_eq_eq_not, Bool.not_true, Bool.not_false] at g17)
    all_goals
      try simp only [eX, ↓reduceIte, Nat.reduceEqDiff, Int.reduceToNat]
      first
      | refine OW_guardT rfl (lt_some (by decide)) rfl (fun K hK r => ?_)
        simp only [x_fieldAddr, fa27_2, add_mk, Nat.reduceAdd, Nat.zero_add, eX, ↓reduceIte, Nat.reduceEqDiff, Int.reduceToNat]
        refine hK _ _ ?_; clear hK K
      | refine OW_guardF rfl (lt_some (by decide)) rfl ?_
        simp only [eX, ↓reduceIte, Nat.reduceEqDiff, Int.reduceToNat]
      first
      | refine OW_guardT rfl (lt_some (by decide)) rfl (fun K hK r => ?_)
        simp only [x_load, eX, ↓reduceIte, Nat.reduceEqDiff, Int.reduceToNat]
        refine Lt_loadAt1 Try.underlying3 rfl hbA ldA ?_
        try simp only [eX, ↓reduceIte, Nat.reduceEqDiff, Int.reduceToNat]
        refine hK _ _ ?_; clear hK K
      | refine OW_guardF rfl (lt_some (by decide)) rfl ?_
        simp only [eX, ↓reduceIte, Nat.reduceEqDiff, Int.reduceToNat]
      first
      | refine OW_guardT rfl (lt_some (by decide)) rfl (fun K hK r => ?_)
        simp only [x_fieldAddr, fa24_2, add_mk, Nat.reduceAdd, Nat.zero_add, eX, ↓reduceIte, Nat.reduceEqDiff, Int.reduceToNat]
        refine hK _ _ ?_; clear hK K
      | refine OW_guardF rfl (lt_some (by decide)) rfl ?_
        simp only [eX, ↓reduceIte, Nat.reduceEqDiff, Int.reduceToNat]
      first
      | refine OW_guardT rfl (lt_some (by decide)) rfl (fun K hK r => ?_)
        simp only [x_load, eX, ↓reduceIte, Nat.reduceEqDiff, Int.reduceToNat]
        refine Lt_loadAt1 Try.underlying3 rfl hbA ldA ?_
        try simp only [eX, ↓reduceIte, Nat.reduceEqDiff, Int.reduceToNat]
        refine hK _ _ ?_; clear hK K
      | refine OW_guardF rfl (lt_some (by decide)) rfl ?_
        simp only [eX, ↓reduceIte, Nat.reduceEqDiff, Int.reduceToNat]
      first
      | refine OW_guardT rfl (lt_some (by decide)) rfl (fun K hK r => ?_)
        simp (disch := (first | omega | decide)) only [x_bin, g_int, b_eql, dec_lt_t, dec_lt_f, dec_le_t, dec_le_f, dec_eq_t, dec_eq_f, Bool.not_true, Bool.not_false, eX, ↓reduceIte, Nat.reduceEqDiff, Int.reduceToNat]
        refine hK _ _ ?_; clear hK K
      | refine OW_guardF rfl (lt_some (by decide)) rfl ?_
        simp only [eX, ↓reduceIte, Nat.reduceEqDiff, Int.reduceToNat]
      refine OW_opS (fun K hK r => ?_)
      simp only [x_pick, l_asBool, HL.ite_bool, if_true, if_false, Bool.false_eq_true, eX, ↓reduceIte, Nat.reduceEqDiff, Int.reduceToNat]
      refine hK _ _ ?_; clear hK K
      refine OW_mv rfl ?_
      (first | refine OW_split (d := 24) rfl (fun g24 => ?_) (fun g24 => ?_) | skip)
      all_goals try (exfalso; exact cnA g24)
      all_goals (try simp only [decide_eq_true_eq, decide_eq_false_iff_not, Bool.not_eq_true, Bool.not_eq_false, Bool.and_eq_true, Bool.or_eq_true, Bool.or_eq_false_iff, Bool.not_eq_true, Bool.not_eq_eq_eq_not, Bool.not_true, Bool.not_false] at g24)
      all_goals
        try simp only [eX, ↓reduceIte, Nat.reduceEqDiff, Int.reduceToNat]
        first
        | refine OW_guardT rfl (lt_some (by decide)) rfl (fun K hK r => ?_)
          simp only [x_fieldAddr, fa27_3, add_mk, Nat.reduceAdd, Nat.zero_add, eX, ↓reduceIte, Nat.reduceEqDiff, Int.reduceToNat]
          refine hK _ _ ?_; clear hK K
        | refine OW_guardF rfl (lt_some (by decide)) rfl ?_
          simp only [eX, ↓reduceIte, Nat.reduceEqDiff, Int.reduceToNat]
        first
        | refine OW_guardT rfl (lt_some (by decide)) rfl (fun K hK r => ?_)
          simp only [x_load, eX, ↓reduceIte, Nat.reduceEqDiff, Int.reduceToNat]
          refine Lt_loadAt1 Try.underlying3 rfl hbA ldA ?_
          try simp only [eX, ↓reduceIte, Nat.reduceEqDiff, Int.reduceToNat]
          refine hK _ _ ?_; clear hK K
        | refine OW_guardF rfl (lt_some (by decide)) rfl ?_
          simp only [eX, ↓reduceIte, Nat.reduceEqDiff, Int.reduceToNat]
        first
        | refine OW_guardT rfl (lt_some (by decide)) rfl (fun K hK r => ?_)
          simp only [x_fieldAddr, fa24_3, add_mk, Nat.reduceAdd, Nat.zero_add, eX, ↓reduceIte, Nat.reduceEqDiff, Int.reduceToNat]
          refine hK _ _ ?_; clear hK K
        | refine OW_guardF rfl (lt_some (by decide)) rfl ?_
          simp only [eX, ↓reduceIte, Nat.reduceEqDiff, Int.reduceToNat]
        first
        | refine OW_guardT rfl (lt_some (by decide)) rfl (fun K hK r => ?_)
          simp only [x_load, eX, ↓reduceIte, Nat.reduceEqDiff, Int.reduceToNat]
          refine Lt_loadAt1 Try.underlying3 rfl hbA ldA ?_
          try simp only [eX, ↓reduceIte, Nat.reduceEqDiff, Int.reduceToNat]
          refine hK _ _ ?_; clear hK K
        | refine OW_guardF rfl (lt_some (by decide)) rfl ?_
          simp only [eX, ↓reduceIte, Nat.reduceEqDiff, Int.reduceToNat]
        first
        | refine OW_guardT rfl (lt_some (by decide)) rfl (fun K hK r => ?_)
          simp (disch := (first | omega | decide)) only [x_bin, g_int, b_eql, dec_lt_t, dec_lt_f, dec_le_t, dec_le_f, dec_eq_t, dec_eq_f, Bool.not_true, Bool.not_false, eX, ↓reduceIte, Nat.reduceEqDiff, Int.reduceToNat]
          refine hK _ _ ?_; clear hK K
        | refine OW_guardF rfl (lt_some (by decide)) rfl ?_
          simp only [eX, ↓reduceIte, Nat.reduceEqDiff, Int.reduceToNat]
        refine OW_opS (fun K hK r => ?_)
        simp only [x_pick, l_asBool, HL.ite_bool, if_true, if_false, Bool.false_eq_true, eX, ↓reduceIte, Nat.reduceEqDiff, Int.reduceToNat]
        refine hK _ _ ?_; clear hK K
        refine OW_mv rfl ?_
        (first | refine OW_split (d := 31) rfl (fun g31 => ?_) (fun g31 => ?_) | skip)
        all_goals try (exfalso; exact cnA g31)
        all_goals (try simp only [decide_eq_true_eq, decide_eq_false_iff_not, Bool.not_eq_true, Bool.not_eq_false, Bool.and_eq_true, Bool.or_eq_true, Bool.or_eq_false_iff, Bool.not_eq_true, Bool.not_eq_eq_eq_not, Bool.not_true, Bool.not_false] at g31)
        all_goals
          try simp only [eX, ↓reduceIte, Nat.reduceEqDiff, Int.reduceToNat]
          first
          | refine OW_guardT rfl (lt_some (by decide)) rfl (fun K hK r => ?_)
            simp only [x_fieldAddr, fa27_4, add_mk, Nat.reduceAdd, Nat.zero_add, eX, ↓reduceIte, Nat.reduceEqDiff, Int.reduceToNat]
            refine hK _ _ ?_; clear hK K
          | refine OW_guardF rfl (lt_some (by decide)) rfl ?_
            simp only [eX, ↓reduceIte, Nat.reduceEqDiff, Int.reduceToNat]
          first
          | refine OW_guardT rfl (lt_some (by decide)) rfl (fun K hK r => ?_)
            simp only [x_load, eX, ↓reduceIte, Nat.reduceEqDiff, Int.reduceToNat]
            refine Lt_loadAt1 Try.underlying3 rfl hbA ldA ?_
            try simp only [eX, ↓reduceIte, Nat.reduceEqDiff, Int.reduceToNat]
            refine hK _ _ ?_; clear hK K
          | refine OW_guardF rfl (lt_some (by decide)) rfl ?_
            simp only [eX, ↓reduceIte, Nat.reduceEqDiff, Int.reduceToNat]
          first
          | refine OW_guardT rfl (lt_some (by decide)) rfl (fun K hK r => ?_)
            simp only [x_fieldAddr, fa24_4, add_mk, Nat.reduceAdd, Nat.zero_add, eX, ↓reduceIte, Nat.reduceEqDiff, Int.reduceToNat]
            refine hK _ _ ?_; clear hK K
          | refine OW_guardF rfl (lt_some (by decide)) rfl ?_
            simp only [eX, ↓reduceIte, Nat.reduceEqDiff, Int.reduceToNat]
          first
          | refine OW_guardT rfl (lt_some (by decide)) rfl (fun K hK r => ?_)
            simp only [x_load, eX, ↓reduceIte, Nat.reduceEqDiff, Int.reduceToNat]
            refine Lt_loadAt1 Try.underlying3 rfl hbA ldA ?_
            try simp only [eX, ↓reduceIte, Nat.reduceEqDiff, Int.reduceToNat]
            refine hK _ _ ?_; clear hK K
          | refine OW_guardF rfl (lt_some (by decide)) rfl ?_
            simp only [eX, ↓reduceIte, Nat.reduceEqDiff, Int.reduceToNat]
          first
          | refine OW_guardT rfl (lt_some (by decide)) rfl (fun K hK r => ?_)
            simp (disch := (first | omega | decide)) only [x_bin, g_int, b_eql, dec_lt_t, dec_lt_f, dec_le_t, dec_le_f, dec_eq_t, dec_eq_f, Bool.not_true, Bool.not_false, eX, ↓reduceIte, Nat.reduceEqDiff, Int.reduceToNat]
            refine hK _ _ ?_; clear hK K
          | refine OW_guardF rfl (lt_some (by decide)) rfl ?_
            simp only [eX, ↓reduceIte, Nat.reduceEqDiff, Int.reduceToNat]
          refine OW_opS (fun K hK r => ?_)
          simp only [x_pick, l_asBool, HL.ite_bool, if_true, if_false, Bool.false_eq_true, eX, ↓reduceIte, Nat.reduceEqDiff, Int.reduceToNat]
          refine hK _ _ ?_; clear hK K
          refine OW_mv rfl ?_
          (first | refine OW_split (d := 38) rfl (fun g38 => ?_) (fun g38 => ?_) | skip)
          all_goals try (exfalso; exact cnA g38)
          all_goals (try simp only [decide_eq_true_eq, decide_eq_false_iff_not, Bool.not_eq_true, Bool.not_eq_false, Bool.and_eq_true, Bool.or_eq_true, Bool.or_eq_false_iff, Bool.not_eq_true, Bool.not_eq_eq_eq_not, Bool.not_true, Bool.not_false] at g38)
          all_goals
            try simp only [eX, ↓reduceIte, Nat.reduceEqDiff, Int.reduceToNat]
            first
            | refine OW_guardT rfl (lt_some (by decide)) rfl (fun K hK r => ?_)
              simp only [x_fieldAddr, fa27_5, add_mk, Nat.reduceAdd, Nat.zero_add, eX, ↓reduceIte, Nat.reduceEqDiff, Int.reduceToNat]
              refine hK _ _ ?_; clear hK K
            | refine OW_guardF rfl (lt_some (by decide)) rfl ?_
              simp only [eX, ↓reduceIte, Nat.reduceEqDiff, Int.reduceToNat]
            first
            | refine OW_guardT rfl (lt_some (by decide)) rfl (fun K hK r => ?_)
              simp only [x_load, eX, ↓reduceIte, Nat.reduceEqDiff, Int.reduceToNat]
              refine Lt_loadAt1 Try.underlying22 rfl hbA ldA ?_
              try simp only [eX, ↓reduceIte, Nat.reduceEqDiff, Int.reduceToNat]
              refine hK _ _ ?_; clear hK K
            | refine OW_guardF rfl (lt_some (by decide)) rfl ?_
              simp only [eX, ↓reduceIte, Nat.reduceEqDiff, Int.reduceToNat]
            first
            | refine OW_guardT rfl (lt_some (by decide)) rfl (fun K hK r => ?_)
              simp only [x_fieldAddr, fa24_5, add_mk, Nat.reduceAdd, Nat.zero_add, eX, ↓reduceIte, Nat.reduceEqDiff, Int.reduceToNat]
              refine hK _ _ ?_; clear hK K
            | refine OW_guardF rfl (lt_some (by decide)) rfl ?_
              simp only [eX, ↓reduceIte, Nat.reduceEqDiff, Int.reduceToNat]
            first
            | refine OW_guardT rfl (lt_some (by decide)) rfl (fun K hK r => ?_)
              simp only [x_load, eX, ↓reduceIte, Nat.reduceEqDiff, Int.reduceToNat]
              refine Lt_loadAt1 Try.underlying22 rfl hbA ldA ?_
              try simp only [eX, ↓reduceIte, Nat.reduceEqDiff, Int.reduceToNat]
              refine hK _ _ ?_; clear hK K
            | refine OW_guardF rfl (lt_some (by decide)) rfl ?_
              simp only [eX, ↓reduceIte, Nat.reduceEqDiff, Int.reduceToNat]
            first
            | refine OW_guardT rfl (lt_some (by decide)) rfl (fun K hK r => ?_)
              simp only [x_callF _ bd41, List.map_toArray, List.map_cons, List.map_nil, eX, ↓reduceIte, Nat.reduceEqDiff, Int.reduceToNat]
              refine (num_Ints _ _ _ m.hd n.hd (hm.le lhA) (hn.le lhA) hml).mono ?_
              rintro v H' ⟨rfl, hq⟩
              have hq := hq.symm
              subst hq
              try simp only [eX, ↓reduceIte, Nat.reduceEqDiff, Int.reduceToNat]
              refine hK _ _ ?_; clear hK K
            | refine OW_guardF rfl (lt_some (by decide)) rfl ?_
              simp only [eX, ↓reduceIte, Nat.reduceEqDiff, Int.reduceToNat]
            refine OW_opS (fun K hK r => ?_)
            simp only [x_pick, l_asBool, HL.ite_bool, if_true, if_false, Bool.false_eq_true, eX, ↓reduceIte, Nat.reduceEqDiff, Int.reduceToNat]
            refine hK _ _ ?_; clear hK K
            refine OW_as rfl ?_
            refine OW_nil ?_
            try simp only [Ex.thnH, Ex.inBlockH, ↓reduceIte, Nat.reduceEqDiff]
            refine hK2 _ _ ?_; try clear hK2 K2
            refine CW_ret ?_
            try simp only [Ex.thnH, Ex.inBlockH, ↓reduceIte, Nat.reduceEqDiff]
            refine ⟨[_], ⟨rfl, trivial⟩, H, lhA, ?_, rfl⟩
            show Value.bool _ = Value.bool _
            rw [Mf.eq_iff]
            simp_all

end Go.Proofs.Ytigofhhonnbkmaa.HL
end
section
namespace Go.Proofs.Ytigofhhonnbkmaa.HL
open Go Go.Proofs
set_option linter.unusedSimpArgs false
set_option linter.unusedVariables false
attribute [local irreducible] Lt Lq CW OW TW CallH

end Go.Proofs.Ytigofhhonnbkmaa.HL
end
section
namespace Go.Proofs.Ytigofhhonnbkmaa.HL
open Go Go.Proofs
set_option linter.unusedSimpArgs false
set_option linter.unusedVariables false
attribute [local irreducible] Lt Lq CW OW TW CallH


def KeepBut (H : Hp) (p : Nat) (H' : Hp) : Prop := ∀ b o, H b = some o → b ≠ p → H' b = some o
theorem KeepBut.refl (H : Hp) (p : Nat) : KeepBut H p H := fun _ _ h _ => h
theorem KeepBut.trans {H H1 H2 : Hp} {p : Nat} (h : KeepBut H p H1) (k : KeepBut H1 p H2) : KeepBut H p H2 := fun b o hb hn => k b o (h b o hb hn) hn
theorem KeepBut.upd (H : Hp) (p : Nat) (o : Obj) : KeepBut H p (H.upd p o) := fun b o' hb hn => by rw [upd_ne _ _ hn]; exact hb
theorem KeepBut.of_le {H H' : Hp} (p : Nat) (h : Le H H') : KeepBut H p H' := fun b o hb _ => h b o hb
theorem KeepBut.le {H0 H H' : Hp} {p : Nat} (h : KeepBut H p H') (hl : Le H0 H) (hp : H0 p = none) : Le H0 H' := fun b o hb => h b o (hl b o hb) (fun e => by rw [e, hp] at hb; cases hb)
/-- The document's reader at p: what it has not read, whether it is bad. -/
def RM (H0 H : Hp) (p : Nat) (l : List Int) (bad : Bool) : Prop := ∃ a cap, H p = some (.cells #[.slice a l.length cap, .bool bad] 107) ∧ l.length ≤ cap ∧ Holds H0 1 (.slice a l.length cap) l.length (u8s l) ∧ (bad = true → l = [])
theorem RM.bad (H0 H : Hp) (p : Nat) : RM H0 (H.upd p (.cells #[.slice none 0 0, .bool true] 107)) p [] true := ⟨none, 0, upd_same _ _ _, Nat.le_refl _, ⟨rfl, .inl ⟨_, _, rfl, rfl⟩⟩, fun _ => rfl⟩
theorem RM.of {H0 H : Hp} {p : Nat} {a : Option Addr} {n cap : Nat} {l' : List Int} (hu : H p = some (.cells #[.slice a n cap, .bool false] 107)) (hn : n = l'.length) (hc : n ≤ cap) (hh : Holds H0 1 (.slice a n cap) n (u8s l')) : RM H0 H p l' false := by
  subst hn; exact ⟨a, cap, hu, hc, hh, fun h => by cases h⟩
theorem RM.keep {H0 H H' : Hp} {p : Nat} {l : List Int} {bad : Bool} (h : RM H0 H p l bad) (k : ∀ o, H p = some o → H' p = some o) : RM H0 H' p l bad := by
  obtain ⟨a, cap, h1, h2⟩ := h; exact ⟨a, cap, k _ h1, h2⟩

end Go.Proofs.Ytigofhhonnbkmaa.HL
end
section
namespace Go.Proofs.Ytigofhhonnbkmaa.HL
open Go Go.Proofs
set_option linter.unusedSimpArgs false
set_option linter.unusedVariables false
attribute [local irreducible] Lt Lq CW OW TW CallH


/-- a byte: what is read, what is left, whether it is bad then -/
def byV (l : List Int) : Int := l.getD 0 0
def byL (l : List Int) : List Int := l.drop 1
def byB (l : List Int) : Bool := decide (l = [])
/-- a flag -/
def flV (l : List Int) : Bool := decide (l.getD 0 0 = 1)
def flL (l : List Int) : List Int := if l.getD 0 0 > 1 then [] else l.drop 1
def flB (l : List Int) : Bool := decide (l = []) || decide (l.getD 0 0 > 1)
/-- bytes, behind a count -/
def bsV (r : Option (Nat × List Int)) : List Int := match r with | some (u, l) => if u ≤ l.length then l.take u else [] | none => []
def bsL (r : Option (Nat × List Int)) : List Int := match r with | some (u, l) => if u ≤ l.length then l.drop u else [] | none => []
def bsB (r : Option (Nat × List Int)) : Bool := match r with | some (u, l) => !decide (u ≤ l.length) | none => true

end Go.Proofs.Ytigofhhonnbkmaa.HL
end
section
namespace Go.Proofs.Ytigofhhonnbkmaa.HL
open Go Go.Proofs
set_option linter.unusedSimpArgs false
set_option linter.unusedVariables false
attribute [local irreducible] Lt Lq CW OW TW CallH

end Go.Proofs.Ytigofhhonnbkmaa.HL
end
section
namespace Go.Proofs.Ytigofhhonnbkmaa.HL
open Go Go.Proofs
set_option linter.unusedSimpArgs false
set_option linter.unusedVariables false
attribute [local irreducible] Lt Lq CW OW TW CallH

end Go.Proofs.Ytigofhhonnbkmaa.HL
end
section
namespace Go.Proofs.Ytigofhhonnbkmaa.HL
open Go Go.Proofs
set_option linter.unusedSimpArgs false
set_option linter.unusedVariables false
attribute [local irreducible] Lt Lq CW OW TW CallH


def cvN (u : Nat) : Int := if u > 1125899906842624 then -1 else (u : Int)
theorem cvN_pos {u : Nat} (h : 0 ≤ cvN u) : cvN u = u := by unfold cvN at *; split at h <;> simp_all
/-- all that has been read of a slab's data -/
def FH (d l : List Int) (bad : Bool) (x : Mf) (n : Int) : Prop := bad = false → ∃ (u1 u2 u3 u4 u5 : Nat) (us : List Nat), x.ep = cvN u1 ∧ x.ba = cvN u2 ∧ x.ar = cvN u3 ∧ x.ln = cvN u4 ∧ n = cvN u5 ∧ x.hd = us.map cvN ∧ d = cnt u1 ++ (cnt u2 ++ (cnt u3 ++ (cnt u4 ++ (cnt u5 ++ (us.flatMap cnt ++ l)))))
theorem RCb.val {bad : Bool} {l : List Int} {r : Option (Nat × List Int)} (h : RCb bad l r) (hn : r.isNone = false) : ∃ u, bad = false ∧ cN r = cvN u ∧ l = cnt u ++ rcL r := by
  cases r with
  | none => cases hn
  | some x =>
    obtain ⟨u, l'⟩ := x
    cases bad with
    | true => have := h.1 rfl; cases this
    | false => exact ⟨u, rfl, rfl, (h.2 rfl).1⟩
theorem FH.start {d : List Int} {st : Int} {r1 r2 r3 r4 r5 : Option (Nat × List Int)} (h1 : RCb false d r1) (h2 : RCb r1.isNone (rcL r1) r2) (h3 : RCb r2.isNone (rcL r2) r3) (h4 : RCb r3.isNone (rcL r3) r4) (h5 : RCb r4.isNone (rcL r4) r5) : FH d (rcL r5) r5.isNone ⟨st, cN r1, cN r2, cN r3, cN r4, []⟩ (cN r5) := fun hb => by
  obtain ⟨u5, b4, e5, l5⟩ := h5.val hb
  obtain ⟨u4, b3, e4, l4⟩ := h4.val b4
  obtain ⟨u3, b2, e3, l3⟩ := h3.val b3
  obtain ⟨u2, b1, e2, l2⟩ := h2.val b2
  obtain ⟨u1, _, e1, l1⟩ := h1.val b1
  exact ⟨u1, u2, u3, u4, u5, [], e1, e2, e3, e4, e5, rfl, by rw [l1, l2, l3, l4, l5]; simp⟩
theorem FH.next {d l : List Int} {bad : Bool} {x : Mf} {n : Int} (h : FH d l bad x n) {r : Option (Nat × List Int)} (hr : RCb bad l r) : FH d (rcL r) r.isNone { x with hd := x.hd ++ [cN r] } n := fun hb => by
  obtain ⟨u, b0, e, el⟩ := hr.val hb
  obtain ⟨u1, u2, u3, u4, u5, us, h1, h2, h3, h4, h5, h6, h7⟩ := h b0
  exact ⟨u1, u2, u3, u4, u5, us ++ [u], h1, h2, h3, h4, h5, by simp [h6, e], by rw [h7, el]; simp⟩
theorem FH.end {L l : List Int} {bad : Bool} {x : Mf} {n : Int} (h : FH (opD L) l bad x n) (ho : (opE L).isNone = true) (hk : opK L = 3) (hs : x.gen = opS L) (hb : bad = false) (hl : l = [77]) (hx : ¬ (x.hd.length : Int) < n) (hle : (x.hd.length : Int) ≤ max n 0) (hg : x.good = true) : opM L = some x := by
  have hok := Mf.good_iff.1 hg
  obtain ⟨u1, u2, u3, u4, u5, us, h1, h2, h3, h4, h5, h6, h7⟩ := h hb
  have he := hok.e; have hbb := hok.b; have ha := hok.a; have hln := hok.l; have hn := hok.n
  have e1 := cvN_pos (u := u1) (by omega)
  have e2 := cvN_pos (u := u2) (by omega)
  have e3 := cvN_pos (u := u3) (by omega)
  have e4 := cvN_pos (u := u4) (by omega)
  have e5 := cvN_pos (u := u5) (by omega)
  have eus : us.flatMap cnt = cnts x.hd := by
    rw [h6]
    unfold cnts
    rw [List.flatMap_map]
    have : ∀ u ∈ us, cnt u = cnt (cvN u).toNat := fun u hu => by
      have hm : cvN u ∈ x.hd := by rw [h6]; exact List.mem_map_of_mem hu
      rw [cvN_pos (hok.h _ hm).1]; rfl
    clear h6 h7
    induction us with
    | nil => rfl
    | cons u us ih => simp only [List.flatMap_cons]; rw [ih (fun v hv => this v (by simp [hv])), this u (by simp)]
  have hd : opD L = x.by_ := by
    rw [x.by_eq, h7, hl, eus]
    rw [show u1 = x.ep.toNat by omega, show u2 = x.ba.toNat by omega, show u3 = x.ar.toNat by omega, show u4 = x.ln.toNat by omega, show u5 = x.hd.length by omega]
  obtain ⟨q1, q2⟩ := open_again ho
  refine opM_some hok ?_
  rw [← q2, hk, ← hs, hd]
  unfold Mf.sealB
  rw [if_pos hg]
end Go.Proofs.Ytigofhhonnbkmaa.HL
end
section
namespace Go.Proofs.Ytigofhhonnbkmaa.HL
open Go Go.Proofs
set_option linter.unusedSimpArgs false
set_option linter.unusedVariables false
attribute [local irreducible] Lt Lq CW OW TW CallH

set_option maxRecDepth 100000 in
set_option maxHeartbeats 4000000 in
theorem rGood_ok (H : Hp) (m : Mf) (ma : Option Addr) (mc : Nat) (hm : Holds H 1 (.slice ma m.hd.length mc) m.hd.length (i64s m.hd)) (hm0 : m.hd.length ≤ 9223372036854775807) : CallH Try.prog 11 #[.agg #[.int .i64 m.gen, .int .i64 m.ep, .int .i64 m.ba, .int .i64 m.ar, .int .i64 m.ln, .slice ma m.hd.length mc]] H (fun v H' => v = .bool m.good ∧ H' = H) := by
  refine CallH_enter (l := [_]) (rl := [.tmp 2]) (n := 85) Try.func11 rfl rfl rfl rfl rfl ?_
  simp only [envOf, Nat.reduceAdd]
  refine CW_seq (fun K1 hK1 => ?_)
  refine CW_region ?_
  refine OW_opS (fun K hK r => ?_)
  simp only [x_box, Value.cells, eX, ↓reduceIte, Nat.reduceEqDiff, Int.reduceToNat]
  intro b1 hb1
  have f1_H : H b1 = none := none_of_le lhA hb1
  try simp only [eX, ↓reduceIte, Nat.reduceEqDiff, Int.reduceToNat]
  refine hK _ _ ?_; clear hK K
  refine OW_as rfl ?_
  refine OW_nil ?_
  try simp only [Ex.thnH, Ex.inBlockH, ↓reduceIte, Nat.reduceEqDiff]
  refine hK1 _ _ ?_; try clear hK1 K1
  refine CW_seq (fun K2 hK2 => ?_)
  refine CW_seq (fun K3 hK3 => ?_)
  refine CW_region ?_
  refine OW_opS (fun K hK r => ?_)
  simp only [x_fieldAddr, fa24_0, add_mk, Nat.reduceAdd, Nat.zero_add, eX, ↓reduceIte, Nat.reduceEqDiff, Int.reduceToNat]
  refine hK _ _ ?_; clear hK K
  refine OW_opS (fun K hK r => ?_)
  simp only [x_load, eX, ↓reduceIte, Nat.reduceEqDiff, Int.reduceToNat]
  refine Lt_loadAt1 Try.underlying3 rfl hbA ldA ?_
  try simp only [eX, ↓reduceIte, Nat.reduceEqDiff, Int.reduceToNat]
  refine hK _ _ ?_; clear hK K
  refine OW_opS (fun K hK r => ?_)
  simp (disch := (first | omega | decide)) only [x_bin, g_int, b_lss, dec_lt_t, dec_lt_f, dec_le_t, dec_le_f, dec_eq_t, dec_eq_f, Bool.not_true, Bool.not_false, eX, ↓reduceIte, Nat.reduceEqDiff, Int.reduceToNat]
  refine hK _ _ ?_; clear hK K
  refine OW_mv rfl ?_
  (first | refine OW_split (d := 7) rfl (fun g7 => ?_) (fun g7 => ?_) | skip)
  all_goals try (exfalso; exact cnA g7)
  all_goals (try simp only [decide_eq_true_eq, decide_eq_false_iff_not, Bool.not_eq_true, Bool.not_eq_false, Bool.and_eq_true, Bool.or_eq_true, Bool.or_eq_false_iff, Bool.not_eq_true, Bool.not_eq_eq_eq_not, Bool.not_true, Bool.not_false] at g7)
  all_goals
    try simp only [eX, ↓reduceIte, Nat.reduceEqDiff, Int.reduceToNat]
    first
    | refine OW_guardT rfl (lt_some (by decide)) rfl (fun K hK r => ?_)
      simp only [x_fieldAddr, fa24_0, add_mk, Nat.reduceAdd, Nat.zero_add, eX, ↓reduceIte, Nat.reduceEqDiff, Int.reduceToNat]
      refine hK _ _ ?_; clear hK K
    | refine OW_guardF rfl (lt_some (by decide)) rfl ?_
      simp only [eX, ↓reduceIte, Nat.reduceEqDiff, Int.reduceToNat]
    first
    | refine OW_guardT rfl (lt_some (by decide)) rfl (fun K hK r => ?_)
      simp only [x_load, eX, ↓reduceIte, Nat.reduceEqDiff, Int.reduceToNat]
      refine Lt_loadAt1 Try.underlying3 rfl hbA ldA ?_
      try simp only [eX, ↓reduceIte, Nat.reduceEqDiff, Int.reduceToNat]
      refine hK _ _ ?_; clear hK K
    | refine OW_guardF rfl (lt_some (by decide)) rfl ?_
      simp only [eX, ↓reduceIte, Nat.reduceEqDiff, Int.reduceToNat]
    first
    | refine OW_guardT rfl (lt_some (by decide)) rfl (fun K hK r => ?_)
      simp (disch := (first | omega | decide)) only [x_bin, g_int, b_gtr, dec_lt_t, dec_lt_f, dec_le_t, dec_le_f, dec_eq_t, dec_eq_f, Bool.not_true, Bool.not_false, eX, ↓reduceIte, Nat.reduceEqDiff, Int.reduceToNat]
      refine hK _ _ ?_; clear hK K
    | refine OW_guardF rfl (lt_some (by decide)) rfl ?_
      simp only [eX, ↓reduceIte, Nat.reduceEqDiff, Int.reduceToNat]
    refine OW_opS (fun K hK r => ?_)
    simp only [x_pick, l_asBool, HL.ite_bool, if_true, if_false, Bool.false_eq_true, eX, ↓reduceIte, Nat.reduceEqDiff, Int.reduceToNat]
    refine hK _ _ ?_; clear hK K
    refine OW_mv rfl ?_
    (first | refine OW_split (d := 12) rfl (fun g12 => ?_) (fun g12 => ?_) | skip)
    all_goals try (exfalso; exact cnA g12)
    all_goals (try simp only [decide_eq_true_eq, decide_eq_false_iff_not, Bool.not_eq_true, Bool.not_eq_false, Bool.and_eq_true, Bool.or_eq_true, Bool.or_eq_false_iff, Bool.not_eq_true, Bool.not_eq_eq_eq_not, Bool.not_true, Bool.not_false] at g12)
    all_goals
      try simp only [eX, ↓reduceIte, Nat.reduceEqDiff, Int.reduceToNat]
      first
      | refine OW_guardT rfl (lt_some (by decide)) rfl (fun K hK r => ?_)
        simp only [x_fieldAddr, fa24_1, add_mk, Nat.reduceAdd, Nat.zero_add, eX, ↓reduceIte, Nat.reduceEqDiff, Int.reduceToNat]
        refine hK _ _ ?_; clear hK K
      | refine OW_guardF rfl (lt_some (by decide)) rfl ?_
        simp only [eX, ↓reduceIte, Nat.reduceEqDiff, Int.reduceToNat]
      first
      | refine OW_guardT rfl (lt_some (by decide)) rfl (fun K hK r => ?_)
        simp only [x_load, eX, ↓reduceIte, Nat.reduceEqDiff, Int.reduceToNat]
        refine Lt_loadAt1 Try.underlying3 rfl hbA ldA ?_
        try simp only [eX, ↓reduceIte, Nat.reduceEqDiff, Int.reduceToNat]
        refine hK _ _ ?_; clear hK K
      | refine OW_guardF rfl (lt_some (by decide)) rfl ?_
        simp only [eX, ↓reduceIte, Nat.reduceEqDiff, Int.reduceToNat]
      first
      | refine OW_guardT rfl (lt_some (by decide)) rfl (fun K hK r => ?_)
        simp (disch := (first | omega | decide)) only [x_bin, g_int, b_lss, dec_lt_t, dec_lt_f, dec_le_t, dec_le_f, dec_eq_t, dec_eq_f, Bool.not_true, Bool.not_false, eX, ↓reduceIte, Nat.reduceEqDiff, Int.reduceToNat]
        refine hK _ _ ?_; clear hK K
      | refine OW_guardF rfl (lt_some (by decide)) rfl ?_
        simp only [eX, ↓reduceIte, Nat.reduceEqDiff, Int.reduceToNat]
      refine OW_opS (fun K hK r => ?_)
      simp only [x_pick, l_asBool, HL.ite_bool, if_true, if_false, Bool.false_eq_true, eX, ↓reduceIte, Nat.reduceEqDiff, Int.reduceToNat]
      refine hK _ _ ?_; clear hK K
      refine OW_mv rfl ?_
      (first | refine OW_split (d := 17) rfl (fun g17 => ?_) (fun g17 => ?_) | skip)
      all_goals try (exfalso; exact cnA g17)
      all_goals (try simp only [decide_eq_true_eq, decide_eq_false_iff_not, Bool.not_eq_true, Bool.not_eq_false, Bool.and_eq_true, Bool.or_eq_true, Bool.or_eq_false_iff, Bool.not_eq_true, Bool.not_eq_eq_eq_not, Bool.not_true, Bool.not_false] at g17)
      all_goals
        try simp only [eX, ↓reduceIte, Nat.reduceEqDiff, Int.reduceToNat]
        first
        | refine OW_guardT rfl (lt_some (by decide)) rfl (fun K hK r => ?_)
          simp only [x_fieldAddr, fa24_1, add_mk, Nat.reduceAdd, Nat.zero_add, eX, ↓reduceIte, Nat.reduceEqDiff, Int.reduceToNat]
          refine hK _ _ ?_; clear hK K
        | refine OW_guardF rfl (lt_some (by decide)) rfl ?_
          simp only [eX, ↓reduceIte, Nat.reduceEqDiff, Int.reduceToNat]
        first
        | refine OW_guardT rfl (lt_some (by decide)) rfl (fun K hK r => ?_)
          simp only [x_load, eX, ↓reduceIte, Nat.reduceEqDiff, Int.reduceToNat]
          refine Lt_loadAt1 Try.underlying3 rfl hbA ldA ?_
          try simp only [eX, ↓reduceIte, Nat.reduceEqDiff, Int.reduceToNat]
          refine hK _ _ ?_; clear hK K
        | refine OW_guardF rfl (lt_some (by decide)) rfl ?_
          simp only [eX, ↓reduceIte, Nat.reduceEqDiff, Int.reduceToNat]
        first
        | refine OW_guardT rfl (lt_some (by decide)) rfl (fun K hK r => ?_)
          simp (disch := (first | omega | decide)) only [x_bin, g_int, b_gtr, dec_lt_t, dec_lt_f, dec_le_t, dec_le_f, dec_eq_t, dec_eq_f, Bool.not_true, Bool.not_false, eX, ↓reduceIte, Nat.reduceEqDiff, Int.reduceToNat]
          refine hK _ _ ?_; clear hK K
        | refine OW_guardF rfl (lt_some (by decide)) rfl ?_
          simp only [eX, ↓reduceIte, Nat.reduceEqDiff, Int.reduceToNat]
        refine OW_opS (fun K hK r => ?_)
        simp only [x_pick, l_asBool, HL.ite_bool, if_true, if_false, Bool.false_eq_true, eX, ↓reduceIte, Nat.reduceEqDiff, Int.reduceToNat]
        refine hK _ _ ?_; clear hK K
        refine OW_mv rfl ?_
        (first | refine OW_split (d := 22) rfl (fun g22 => ?_) (fun g22 => ?_) | skip)
        all_goals try (exfalso; exact cnA g22)
        all_goals (try simp only [decide_eq_true_eq, decide_eq_false_iff_not, Bool.not_eq_true, Bool.not_eq_false, Bool.and_eq_true, Bool.or_eq_true, Bool.or_eq_false_iff, Bool.not_eq_true, Bool.not_eq_eq_eq_not, Bool.not_true, Bool.not_false] at g22)
        all_goals
          try simp only [eX, ↓reduceIte, Nat.reduceEqDiff, Int.reduceToNat]
          first
          | refine OW_guardT rfl (lt_some (by decide)) rfl (fun K hK r => ?_)
            simp only [x_fieldAddr, fa24_2, add_mk, Nat.reduceAdd, Nat.zero_add, eX, ↓reduceIte, Nat.reduceEqDiff, Int.reduceToNat]
            refine hK _ _ ?_; clear hK K
          | refine OW_guardF rfl (lt_some (by decide)) rfl ?_
            simp only [eX, ↓reduceIte, Nat.reduceEqDiff, Int.reduceToNat]
          first
          | refine OW_guardT rfl (lt_some (by decide)) rfl (fun K hK r => ?_)
            simp only [x_load, eX, ↓reduceIte, Nat.reduceEqDiff, Int.reduceToNat]
            refine Lt_loadAt1 Try.underlying3 rfl hbA ldA ?_
            try simp only [eX, ↓reduceIte, Nat.reduceEqDiff, Int.reduceToNat]
            refine hK _ _ ?_; clear hK K
          | refine OW_guardF rfl (lt_some (by decide)) rfl ?_
            simp only [eX, ↓reduceIte, Nat.reduceEqDiff, Int.reduceToNat]
          first
          | refine OW_guardT rfl (lt_some (by decide)) rfl (fun K hK r => ?_)
            simp (disch := (first | omega | decide)) only [x_bin, g_int, b_lss, dec_lt_t, dec_lt_f, dec_le_t, dec_le_f, dec_eq_t, dec_eq_f, Bool.not_true, Bool.not_false, eX, ↓reduceIte, Nat.reduceEqDiff, Int.reduceToNat]
            refine hK _ _ ?_; clear hK K
          | refine OW_guardF rfl (lt_some (by decide)) rfl ?_
            simp only [eX, ↓reduceIte, Nat.reduceEqDiff, Int.reduceToNat]
          refine OW_opS (fun K hK r => ?_)
          simp only [x_pick, l_asBool, HL.ite_bool, if_true, if_false, Bool.false_eq_true, eX, ↓reduceIte, Nat.reduceEqDiff, Int.reduceToNat]
          refine hK _ _ ?_; clear hK K
          refine OW_mv rfl ?_
          (first | refine OW_split (d := 27) rfl (fun g27 => ?_) (fun g27 => ?_) | skip)
          all_goals try (exfalso; exact cnA g27)
          all_goals (try simp only [decide_eq_true_eq, decide_eq_false_iff_not, Bool.not_eq_true, Bool.not_eq_false, Bool.and_eq_true, Bool.or_eq_true, Bool.or_eq_false_iff, Bool.not_eq_true, Bool.not_eq_eq_eq_not, Bool.not_true, Bool.not_false] at g27)
          all_goals
            try simp only [eX, ↓reduceIte, Nat.reduceEqDiff, Int.reduceToNat]
            first
            | refine OW_guardT rfl (lt_some (by decide)) rfl (fun K hK r => ?_)
              simp only [x_fieldAddr, fa24_2, add_mk, Nat.reduceAdd, Nat.zero_add, eX, ↓reduceIte, Nat.reduceEqDiff, Int.reduceToNat]
              refine hK _ _ ?_; clear hK K
            | refine OW_guardF rfl (lt_some (by decide)) rfl ?_
              simp only [eX, ↓reduceIte, Nat.reduceEqDiff, Int.reduceToNat]
            first
            | refine OW_guardT rfl (lt_some (by decide)) rfl (fun K hK r => ?_)
              simp only [x_load, eX, ↓reduceIte, Nat.reduceEqDiff, Int.reduceToNat]
              refine Lt_loadAt1 Try.underlying3 rfl hbA ldA ?_
              try simp only [eX, ↓reduceIte, Nat.reduceEqDiff, Int.reduceToNat]
              refine hK _ _ ?_; clear hK K
            | refine OW_guardF rfl (lt_some (by decide)) rfl ?_
              simp only [eX, ↓reduceIte, Nat.reduceEqDiff, Int.reduceToNat]
            first
            | refine OW_guardT rfl (lt_some (by decide)) rfl (fun K hK r => ?_)
              simp (disch := (first | omega | decide)) only [x_bin, g_int, b_gtr, dec_lt_t, dec_lt_f, dec_le_t, dec_le_f, dec_eq_t, dec_eq_f, Bool.not_true, Bool.not_false, eX, ↓reduceIte, Nat.reduceEqDiff, Int.reduceToNat]
              refine hK _ _ ?_; clear hK K
            | refine OW_guardF rfl (lt_some (by decide)) rfl ?_
              simp only [eX, ↓reduceIte, Nat.reduceEqDiff, Int.reduceToNat]
            refine OW_opS (fun K hK r => ?_)
            simp only [x_pick, l_asBool, HL.ite_bool, if_true, if_false, Bool.false_eq_true, eX, ↓reduceIte, Nat.reduceEqDiff, Int.reduceToNat]
            refine hK _ _ ?_; clear hK K
            refine OW_mv rfl ?_
            (first | refine OW_split (d := 32) rfl (fun g32 => ?_) (fun g32 => ?_) | skip)
            all_goals try (exfalso; exact cnA g32)
            all_goals (try simp only [decide_eq_true_eq, decide_eq_false_iff_not, Bool.not_eq_true, Bool.not_eq_false, Bool.and_eq_true, Bool.or_eq_true, Bool.or_eq_false_iff, Bool.not_eq_true, Bool.not_eq_eq_eq_not, Bool.not_true, Bool.not_false] at g32)
            all_goals
              try simp only [eX, ↓reduceIte, Nat.reduceEqDiff, Int.reduceToNat]
              first
              | refine OW_guardT rfl (lt_some (by decide)) rfl (fun K hK r => ?_)
                simp only [x_fieldAddr, fa24_3, add_mk, Nat.reduceAdd, Nat.zero_add, eX, ↓reduceIte, Nat.reduceEqDiff, Int.reduceToNat]
                refine hK _ _ ?_; clear hK K
              | refine OW_guardF rfl (lt_some (by decide)) rfl ?_
                simp only [eX, ↓reduceIte, Nat.reduceEqDiff, Int.reduceToNat]
              first
              | refine OW_guardT rfl (lt_some (by decide)) rfl (fun K hK r => ?_)
                simp only [x_load, eX, ↓reduceIte, Nat.reduceEqDiff, Int.reduceToNat]
                refine Lt_loadAt1 Try.underlying3 rfl hbA ldA ?_
                try simp only [eX, ↓reduceIte, Nat.reduceEqDiff, Int.reduceToNat]
                refine hK _ _ ?_; clear hK K
              | refine OW_guardF rfl (lt_some (by decide)) rfl ?_
                simp only [eX, ↓reduceIte, Nat.reduceEqDiff, Int.reduceToNat]
              first
              | refine OW_guardT rfl (lt_some (by decide)) rfl (fun K hK r => ?_)
                simp (disch := (first | omega | decide)) only [x_bin, g_int, b_lss, dec_lt_t, dec_lt_f, dec_le_t, dec_le_f, dec_eq_t, dec_eq_f, Bool.not_true, Bool.not_false, eX, ↓reduceIte, Nat.reduceEqDiff, Int.reduceToNat]
                refine hK _ _ ?_; clear hK K
              | refine OW_guardF rfl (lt_some (by decide)) rfl ?_
                simp only [eX, ↓reduceIte, Nat.reduceEqDiff, Int.reduceToNat]
              refine OW_opS (fun K hK r => ?_)
              simp only [x_pick, l_asBool, HL.ite_bool, if_true, if_false, Bool.false_eq_true, eX, ↓reduceIte, Nat.reduceEqDiff, Int.reduceToNat]
              refine hK _ _ ?_; clear hK K
              refine OW_mv rfl ?_
              (first | refine OW_split (d := 37) rfl (fun g37 => ?_) (fun g37 => ?_) | skip)
              all_goals try (exfalso; exact cnA g37)
              all_goals (try simp only [decide_eq_true_eq, decide_eq_false_iff_not, Bool.not_eq_true, Bool.not_eq_false, Bool.and_eq_true, Bool.or_eq_true, Bool.or_eq_false_iff, Bool.not_eq_true, Bool.not_eq_eq_eq_not, Bool.not_true, Bool.not_false] at g37)
              all_goals
                try simp only [eX, ↓reduceIte, Nat.reduceEqDiff, Int.reduceToNat]
                first
                | refine OW_guardT rfl (lt_some (by decide)) rfl (fun K hK r => ?_)
                  simp only [x_fieldAddr, fa24_3, add_mk, Nat.reduceAdd, Nat.zero_add, eX, ↓reduceIte, Nat.reduceEqDiff, Int.reduceToNat]
                  refine hK _ _ ?_; clear hK K
                | refine OW_guardF rfl (lt_some (by decide)) rfl ?_
                  simp only [eX, ↓reduceIte, Nat.reduceEqDiff, Int.reduceToNat]
                first
                | refine OW_guardT rfl (lt_some (by decide)) rfl (fun K hK r => ?_)
                  simp only [x_load, eX, ↓reduceIte, Nat.reduceEqDiff, Int.reduceToNat]
                  refine Lt_loadAt1 Try.underlying3 rfl hbA ldA ?_
                  try simp only [eX, ↓reduceIte, Nat.reduceEqDiff, Int.reduceToNat]
                  refine hK _ _ ?_; clear hK K
                | refine OW_guardF rfl (lt_some (by decide)) rfl ?_
                  simp only [eX, ↓reduceIte, Nat.reduceEqDiff, Int.reduceToNat]
                first
                | refine OW_guardT rfl (lt_some (by decide)) rfl (fun K hK r => ?_)
                  simp (disch := (first | omega | decide)) only [x_bin, g_int, b_gtr, dec_lt_t, dec_lt_f, dec_le_t, dec_le_f, dec_eq_t, dec_eq_f, Bool.not_true, Bool.not_false, eX, ↓reduceIte, Nat.reduceEqDiff, Int.reduceToNat]
                  refine hK _ _ ?_; clear hK K
                | refine OW_guardF rfl (lt_some (by decide)) rfl ?_
                  simp only [eX, ↓reduceIte, Nat.reduceEqDiff, Int.reduceToNat]
                refine OW_opS (fun K hK r => ?_)
                simp only [x_pick, l_asBool, HL.ite_bool, if_true, if_false, Bool.false_eq_true, eX, ↓reduceIte, Nat.reduceEqDiff, Int.reduceToNat]
                refine hK _ _ ?_; clear hK K
                refine OW_mv rfl ?_
                (first | refine OW_split (d := 42) rfl (fun g42 => ?_) (fun g42 => ?_) | skip)
                all_goals try (exfalso; exact cnA g42)
                all_goals (try simp only [decide_eq_true_eq, decide_eq_false_iff_not, Bool.not_eq_true, Bool.not_eq_false, Bool.and_eq_true, Bool.or_eq_true, Bool.or_eq_false_iff, Bool.not_eq_true, Bool.not_eq_eq_eq_not, Bool.not_true, Bool.not_false] at g42)
                all_goals
                  try simp only [eX, ↓reduceIte, Nat.reduceEqDiff, Int.reduceToNat]
                  first
                  | refine OW_guardT rfl (lt_some (by decide)) rfl (fun K hK r => ?_)
                    simp only [x_fieldAddr, fa24_4, add_mk, Nat.reduceAdd, Nat.zero_add, eX, ↓reduceIte, Nat.reduceEqDiff, Int.reduceToNat]
                    refine hK _ _ ?_; clear hK K
                  | refine OW_guardF rfl (lt_some (by decide)) rfl ?_
                    simp only [eX, ↓reduceIte, Nat.reduceEqDiff, Int.reduceToNat]
                  first
                  | refine OW_guardT rfl (lt_some (by decide)) rfl (fun K hK r => ?_)
                    simp only [x_load, eX, ↓reduceIte, Nat.reduceEqDiff, Int.reduceToNat]
                    refine Lt_loadAt1 Try.underlying3 rfl hbA ldA ?_
                    try simp only [eX, ↓reduceIte, Nat.reduceEqDiff, Int.reduceToNat]
                    refine hK _ _ ?_; clear hK K
                  | refine OW_guardF rfl (lt_some (by decide)) rfl ?_
                    simp only [eX, ↓reduceIte, Nat.reduceEqDiff, Int.reduceToNat]
                  first
                  | refine OW_guardT rfl (lt_some (by decide)) rfl (fun K hK r => ?_)
                    simp (disch := (first | omega | decide)) only [x_bin, g_int, b_lss, dec_lt_t, dec_lt_f, dec_le_t, dec_le_f, dec_eq_t, dec_eq_f, Bool.not_true, Bool.not_false, eX, ↓reduceIte, Nat.reduceEqDiff, Int.reduceToNat]
                    refine hK _ _ ?_; clear hK K
                  | refine OW_guardF rfl (lt_some (by decide)) rfl ?_
                    simp only [eX, ↓reduceIte, Nat.reduceEqDiff, Int.reduceToNat]
                  refine OW_opS (fun K hK r => ?_)
                  simp only [x_pick, l_asBool, HL.ite_bool, if_true, if_false, Bool.false_eq_true, eX, ↓reduceIte, Nat.reduceEqDiff, Int.reduceToNat]
                  refine hK _ _ ?_; clear hK K
                  refine OW_mv rfl ?_
                  (first | refine OW_split (d := 47) rfl (fun g47 => ?_) (fun g47 => ?_) | skip)
                  all_goals try (exfalso; exact cnA g47)
                  all_goals (try simp only [decide_eq_true_eq, decide_eq_false_iff_not, Bool.not_eq_true, Bool.not_eq_false, Bool.and_eq_true, Bool.or_eq_true, Bool.or_eq_false_iff, Bool.not_eq_true, Bool.not_eq_eq_eq_not, Bool.not_true, Bool.not_false] at g47)
                  all_goals
                    try simp only [eX, ↓reduceIte, Nat.reduceEqDiff, Int.reduceToNat]
                    first
                    | refine OW_guardT rfl (lt_some (by decide)) rfl (fun K hK r => ?_)
                      simp only [x_fieldAddr, fa24_4, add_mk, Nat.reduceAdd, Nat.zero_add, eX, ↓reduceIte, Nat.reduceEqDiff, Int.reduceToNat]
                      refine hK _ _ ?_; clear hK K
                    | refine OW_guardF rfl (lt_some (by decide)) rfl ?_
                      simp only [eX, ↓reduceIte, Nat.reduceEqDiff, Int.reduceToNat]
                    first
                    | refine OW_guardT rfl (lt_some (by decide)) rfl (fun K hK r => ?_)
                      simp only [x_load, eX, ↓reduceIte, Nat.reduceEqDiff, Int.reduceToNat]
                      refine Lt_loadAt1 Try.underlying3 rfl hbA ldA ?_
                      try simp only [eX, ↓reduceIte, Nat.reduceEqDiff, Int.reduceToNat]
                      refine hK _ _ ?_; clear hK K
                    | refine OW_guardF rfl (lt_some (by decide)) rfl ?_
                      simp only [eX, ↓reduceIte, Nat.reduceEqDiff, Int.reduceToNat]
                    first
                    | refine OW_guardT rfl (lt_some (by decide)) rfl (fun K hK r => ?_)
                      simp (disch := (first | omega | decide)) only [x_bin, g_int, b_gtr, dec_lt_t, dec_lt_f, dec_le_t, dec_le_f, dec_eq_t, dec_eq_f, Bool.not_true, Bool.not_false, eX, ↓reduceIte, Nat.reduceEqDiff, Int.reduceToNat]
                      refine hK _ _ ?_; clear hK K
                    | refine OW_guardF rfl (lt_some (by decide)) rfl ?_
                      simp only [eX, ↓reduceIte, Nat.reduceEqDiff, Int.reduceToNat]
                    refine OW_opS (fun K hK r => ?_)
                    simp only [x_pick, l_asBool, HL.ite_bool, if_true, if_false, Bool.false_eq_true, eX, ↓reduceIte, Nat.reduceEqDiff, Int.reduceToNat]
                    refine hK _ _ ?_; clear hK K
                    refine OW_mv rfl ?_
                    (first | refine OW_split (d := 52) rfl (fun g52 => ?_) (fun g52 => ?_) | skip)
                    all_goals try (exfalso; exact cnA g52)
                    all_goals (try simp only [decide_eq_true_eq, decide_eq_false_iff_not, Bool.not_eq_true, Bool.not_eq_false, Bool.and_eq_true, Bool.or_eq_true, Bool.or_eq_false_iff, Bool.not_eq_true, Bool.not_eq_eq_eq_not, Bool.not_true, Bool.not_false] at g52)
                    all_goals
                      try simp only [eX, ↓reduceIte, Nat.reduceEqDiff, Int.reduceToNat]
                      first
                      | refine OW_guardT rfl (lt_some (by decide)) rfl (fun K hK r => ?_)
                        simp only [x_fieldAddr, fa24_5, add_mk, Nat.reduceAdd, Nat.zero_add, eX, ↓reduceIte, Nat.reduceEqDiff, Int.reduceToNat]
                        refine hK _ _ ?_; clear hK K
                      | refine OW_guardF rfl (lt_some (by decide)) rfl ?_
                        simp only [eX, ↓reduceIte, Nat.reduceEqDiff, Int.reduceToNat]
                      first
                      | refine OW_guardT rfl (lt_some (by decide)) rfl (fun K hK r => ?_)
                        simp only [x_load, eX, ↓reduceIte, Nat.reduceEqDiff, Int.reduceToNat]
                        refine Lt_loadAt1 Try.underlying22 rfl hbA ldA ?_
                        try simp only [eX, ↓reduceIte, Nat.reduceEqDiff, Int.reduceToNat]
                        refine hK _ _ ?_; clear hK K
                      | refine OW_guardF rfl (lt_some (by decide)) rfl ?_
                        simp only [eX, ↓reduceIte, Nat.reduceEqDiff, Int.reduceToNat]
                      first
                      | refine OW_guardT rfl (lt_some (by decide)) rfl (fun K hK r => ?_)
                        simp only [x_builtin, l_len, List.map_toArray, List.map_cons, List.map_nil, i_len_slice _ _ Try.underlying22, eX, ↓reduceIte, Nat.reduceEqDiff, Int.reduceToNat]
                        refine hK _ _ ?_; clear hK K
                      | refine OW_guardF rfl (lt_some (by decide)) rfl ?_
                        simp only [eX, ↓reduceIte, Nat.reduceEqDiff, Int.reduceToNat]
                      first
                      | refine OW_guardT rfl (lt_some (by decide)) rfl (fun K hK r => ?_)
                        simp (disch := (first | omega | decide)) only [x_bin, g_int, b_lss, dec_lt_t, dec_lt_f, dec_le_t, dec_le_f, dec_eq_t, dec_eq_f, Bool.not_true, Bool.not_false, eX, ↓reduceIte, Nat.reduceEqDiff, Int.reduceToNat]
                        refine hK _ _ ?_; clear hK K
                      | refine OW_guardF rfl (lt_some (by decide)) rfl ?_
                        simp only [eX, ↓reduceIte, Nat.reduceEqDiff, Int.reduceToNat]
                      refine OW_opS (fun K hK r => ?_)
                      simp only [x_pick, l_asBool, HL.ite_bool, if_true, if_false, Bool.false_eq_true, eX, ↓reduceIte, Nat.reduceEqDiff, Int.reduceToNat]
                      refine hK _ _ ?_; clear hK K
                      refine OW_mv rfl ?_
                      (first | refine OW_split (d := 58) rfl (fun g58 => ?_) (fun g58 => ?_) | skip)
                      all_goals try (exfalso; exact cnA g58)
                      all_goals (try simp only [decide_eq_true_eq, decide_eq_false_iff_not, Bool.not_eq_true, Bool.not_eq_false, Bool.and_eq_true, Bool.or_eq_true, Bool.or_eq_false_iff, Bool.not_eq_true, Bool.not_eq_eq_eq_not, Bool.not_true, Bool.not_false] at g58)
                      all_goals
                        try simp only [eX, ↓reduceIte, Nat.reduceEqDiff, Int.reduceToNat]
                        first
                        | refine OW_guardT rfl (lt_some (by decide)) rfl (fun K hK r => ?_)
                          simp only [x_fieldAddr, fa24_5, add_mk, Nat.reduceAdd, Nat.zero_add, eX, ↓reduceIte, Nat.reduceEqDiff, Int.reduceToNat]
                          refine hK _ _ ?_; clear hK K
                        | refine OW_guardF rfl (lt_some (by decide)) rfl ?_
                          simp only [eX, ↓reduceIte, Nat.reduceEqDiff, Int.reduceToNat]
                        first
                        | refine OW_guardT rfl (lt_some (by decide)) rfl (fun K hK r => ?_)
                          simp only [x_load, eX, ↓reduceIte, Nat.reduceEqDiff, Int.reduceToNat]
                          refine Lt_loadAt1 Try.underlying22 rfl hbA ldA ?_
                          try simp only [eX, ↓reduceIte, Nat.reduceEqDiff, Int.reduceToNat]
                          refine hK _ _ ?_; clear hK K
                        | refine OW_guardF rfl (lt_some (by decide)) rfl ?_
                          simp only [eX, ↓reduceIte, Nat.reduceEqDiff, Int.reduceToNat]
                        first
                        | refine OW_guardT rfl (lt_some (by decide)) rfl (fun K hK r => ?_)
                          simp only [x_builtin, l_len, List.map_toArray, List.map_cons, List.map_nil, i_len_slice _ _ Try.underlying22, eX, ↓reduceIte, Nat.reduceEqDiff, Int.reduceToNat]
                          refine hK _ _ ?_; clear hK K
                        | refine OW_guardF rfl (lt_some (by decide)) rfl ?_
                          simp only [eX, ↓reduceIte, Nat.reduceEqDiff, Int.reduceToNat]
                        first
                        | refine OW_guardT rfl (lt_some (by decide)) rfl (fun K hK r => ?_)
                          simp (disch := (first | omega | decide)) only [x_bin, g_int, b_gtr, dec_lt_t, dec_lt_f, dec_le_t, dec_le_f, dec_eq_t, dec_eq_f, Bool.not_true, Bool.not_false, eX, ↓reduceIte, Nat.reduceEqDiff, Int.reduceToNat]
                          refine hK _ _ ?_; clear hK K
                        | refine OW_guardF rfl (lt_some (by decide)) rfl ?_
                          simp only [eX, ↓reduceIte, Nat.reduceEqDiff, Int.reduceToNat]
                        refine OW_opS (fun K hK r => ?_)
                        simp only [x_pick, l_asBool, HL.ite_bool, if_true, if_false, Bool.false_eq_true, eX, ↓reduceIte, Nat.reduceEqDiff, Int.reduceToNat]
                        refine hK _ _ ?_; clear hK K
                        refine OW_nil ?_
                        try simp only [Ex.thnH, Ex.inBlockH, ↓reduceIte, Nat.reduceEqDiff]
                        refine hK3 _ _ ?_; try clear hK3 K3
                        refine CW_cond (fun r => rfl) (fun c63 => ?_) (fun c63 => ?_)
                        · first
                          | (exfalso; exact cnA c63; done)
                          | skip
                            skip
                            refine CW_seq (fun K4 hK4 => ?_)
                            refine CW_region ?_
                            refine OW_as rfl ?_
                            refine OW_nil ?_
                            try simp only [Ex.thnH, Ex.inBlockH, ↓reduceIte, Nat.reduceEqDiff]
                            refine hK4 _ _ ?_; try clear hK4 K4
                            refine CW_ret ?_
                            try simp only [Ex.thnH, Ex.inBlockH, ↓reduceIte, Nat.reduceEqDiff]
                            have hb : m.good = false := by
                              cases hg : m.good with
                              | false => rfl
                              | true =>
                                exfalso
                                obtain ⟨h1, h2, h3, h4, h5, h6, _⟩ := Mf.good_iff.1 hg
                                first
                                | omega
                                | (simp only [decide_eq_true_eq] at c63; omega)
                            rw [hb]
                            exact ⟨[_], ⟨rfl, trivial⟩, H, lhA, rfl, rfl⟩
                        · first
                          | (exfalso; exact cnA c63; done)
                          | skip
                            have hrg : (1 ≤ m.gen ∧ m.gen ≤ 17179869183) ∧ (1 ≤ m.ep ∧ m.ep ≤ 65535) ∧ (0 ≤ m.ba ∧ m.ba ≤ 281474976710655) ∧ (0 ≤ m.ar ∧ m.ar ≤ 1) ∧ (0 ≤ m.ln ∧ m.ln ≤ 1048576) ∧ 1 ≤ m.hd.length ∧ m.hd.length ≤ 4 := by first | omega | (cases c63; done) | (simp only [decide_eq_false_iff_not] at c63; omega)
                            clear c63
                            refine CW_skip ?_
                            try simp only [Ex.thnH, Ex.inBlockH, ↓reduceIte, Nat.reduceEqDiff]
                            refine hK2 _ _ ?_; try clear hK2 K2
                            refine CW_seq (fun K5 hK5 => ?_)
                            refine CW_seq (fun K6 hK6 => ?_)
                            refine CW_region ?_
                            refine OW_as rfl ?_
                            refine OW_nil ?_
                            try simp only [Ex.thnH, Ex.inBlockH, ↓reduceIte, Nat.reduceEqDiff]
                            refine hK6 _ _ ?_; try clear hK6 K6
                            refine CW_block ?_
                            refine CW_loop (fun m_ e H_ => ∃ k : Nat, k ≤ m.hd.length ∧ m_ = m.hd.length - k ∧ (∀ x ∈ m.hd.take k, 0 ≤ x ∧ x ≤ 4294967294) ∧ Le (H.upd b1 (.cells #[.int .i64 m.gen, .int .i64 m.ep, .int .i64 m.ba, .int .i64 m.ar, .int .i64 m.ln, .slice ma m.hd.length mc] 24)) H_ ∧ Env.has [(1, .pointer (some ⟨b1, 0, none⟩)), (3, .int .i64 k)] e) (m.hd.length) ?_ ?_
                            · skip
                              exact ⟨0, by omega, by omega, (fun x hx => by simp at hx), Le.refl _, rfl, rfl, trivial⟩
                            intro m_ e_ H_ hI_
                            obtain ⟨k, hk, rfl, hall, hlH, he⟩ := hI_
                            refine CW_env he.sub ?_; clear he e_
                            have k1 := hlH b1 _ (upd_same _ _ _)
                            have hHH : Le H H_ := Le.trans (le_upd _ _ _ hb1) hlH
                            refine CW_seq (fun K7 hK7 => ?_)
                            refine CW_seq (fun K8 hK8 => ?_)
                            refine CW_region ?_
                            refine OW_mv rfl ?_
                            refine OW_opS (fun K hK r => ?_)
                            simp only [x_fieldAddr, fa24_5, add_mk, Nat.reduceAdd, Nat.zero_add, eX, ↓reduceIte, Nat.reduceEqDiff, Int.reduceToNat]
                            refine hK _ _ ?_; clear hK K
                            refine OW_opS (fun K hK r => ?_)
                            simp only [x_load, eX, ↓reduceIte, Nat.reduceEqDiff, Int.reduceToNat]
                            refine Lt_loadAt1 Try.underlying22 rfl hbA ldA ?_
                            try simp only [eX, ↓reduceIte, Nat.reduceEqDiff, Int.reduceToNat]
                            refine hK _ _ ?_; clear hK K
                            refine OW_opS (fun K hK r => ?_)
                            simp only [x_builtin, l_len, List.map_toArray, List.map_cons, List.map_nil, i_len_slice _ _ Try.underlying22, eX, ↓reduceIte, Nat.reduceEqDiff, Int.reduceToNat]
                            refine hK _ _ ?_; clear hK K
                            refine OW_opS (fun K hK r => ?_)
                            simp (disch := (first | omega | decide)) only [x_bin, g_int, b_lss, dec_lt_t, dec_lt_f, dec_le_t, dec_le_f, dec_eq_t, dec_eq_f, Bool.not_true, Bool.not_false, eX, ↓reduceIte, Nat.reduceEqDiff, Int.reduceToNat]
                            refine hK _ _ ?_; clear hK K
                            refine OW_nil ?_
                            try simp only [Ex.thnH, Ex.inBlockH, ↓reduceIte, Nat.reduceEqDiff]
                            refine hK8 _ _ ?_; try clear hK8 K8
                            refine CW_cond (fun r => rfl) (fun c68 => ?_) (fun c68 => ?_)
                            · first
                              | (exfalso; exact cnA c68; done)
                              | skip
                                (try simp only [decide_eq_true_eq, decide_eq_false_iff_not, Bool.not_eq_true, Bool.not_eq_false, Bool.and_eq_true, Bool.or_eq_true, Bool.or_eq_false_iff, Bool.not_eq_true, Bool.not_eq_eq_eq_not, Bool.not_true, Bool.not_false] at c68)
                                obtain ⟨bw, ow, qw, Tw, Fw, rfl, hbw, hsw, atw⟩ := (hm.le (Le.trans (le_upd _ _ _ hb1) hlH)).at (by omega)
                                try have n_bw_b1 : bw ≠ b1 := ne_of_none hbw f1_H
                                refine CW_skip ?_
                                try simp only [Ex.thnH, Ex.inBlockH, ↓reduceIte, Nat.reduceEqDiff]
                                refine hK7 _ _ ?_; try clear hK7 K7
                                refine CW_seq (fun K9 hK9 => ?_)
                                refine CW_block ?_
                                refine CW_seq (fun K10 hK10 => ?_)
                                refine CW_region ?_
                                refine OW_opS (fun K hK r => ?_)
                                simp only [x_fieldAddr, fa24_5, add_mk, Nat.reduceAdd, Nat.zero_add, eX, ↓reduceIte, Nat.reduceEqDiff, Int.reduceToNat]
                                refine hK _ _ ?_; clear hK K
                                refine OW_opS (fun K hK r => ?_)
                                simp only [x_load, eX, ↓reduceIte, Nat.reduceEqDiff, Int.reduceToNat]
                                refine Lt_loadAt1 Try.underlying22 rfl hbA ldA ?_
                                try simp only [eX, ↓reduceIte, Nat.reduceEqDiff, Int.reduceToNat]
                                refine hK _ _ ?_; clear hK K
                                refine OW_mv rfl ?_
                                refine OW_opS (fun K hK r => ?_)
                                simp only [x_indexAddr, eX, ↓reduceIte, Nat.reduceEqDiff, Int.reduceToNat]
                                refine Lt_indexS Try.underlying22 sz3 ixA ixA ?_
                                try simp only [add_mk, Nat.mul_one, Nat.zero_add, Int.reduceToNat]
                                try simp only [eX, ↓reduceIte, Nat.reduceEqDiff, Int.reduceToNat]
                                refine hK _ _ ?_; clear hK K
                                refine OW_opS (fun K hK r => ?_)
                                simp only [x_load, eX, ↓reduceIte, Nat.reduceEqDiff, Int.reduceToNat]
                                refine Lt_loadAt1 Try.underlying3 rfl hbA (v := .int .i64 (m.hd.getD k 0)) (by first | exact ints_at atw rfl _ (by omega) | (simp only [Int.toNat_natCast, Nat.mul_one]; exact ints_at atw rfl _ (by omega))) ?_
                                refine hK _ _ ?_; clear hK K
                                refine OW_opS (fun K hK r => ?_)
                                simp (disch := (first | omega | decide)) only [x_bin, g_int, b_lss, dec_lt_t, dec_lt_f, dec_le_t, dec_le_f, dec_eq_t, dec_eq_f, Bool.not_true, Bool.not_false, eX, ↓reduceIte, Nat.reduceEqDiff, Int.reduceToNat]
                                refine hK _ _ ?_; clear hK K
                                refine OW_mv rfl ?_
                                (first | refine OW_split (d := 77) rfl (fun g77 => ?_) (fun g77 => ?_) | skip)
                                all_goals try (exfalso; exact cnA g77)
                                all_goals (try simp only [decide_eq_true_eq, decide_eq_false_iff_not, Bool.not_eq_true, Bool.not_eq_false, Bool.and_eq_true, Bool.or_eq_true, Bool.or_eq_false_iff, Bool.not_eq_true, Bool.not_eq_eq_eq_not, Bool.not_true, Bool.not_false] at g77)
                                all_goals
                                  try simp only [eX, ↓reduceIte, Nat.reduceEqDiff, Int.reduceToNat]
                                  first
                                  | refine OW_guardT rfl (lt_some (by decide)) rfl (fun K hK r => ?_)
                                    simp only [x_fieldAddr, fa24_5, add_mk, Nat.reduceAdd, Nat.zero_add, eX, ↓reduceIte, Nat.reduceEqDiff, Int.reduceToNat]
                                    refine hK _ _ ?_; clear hK K
                                  | refine OW_guardF rfl (lt_some (by decide)) rfl ?_
                                    simp only [eX, ↓reduceIte, Nat.reduceEqDiff, Int.reduceToNat]
                                  first
                                  | refine OW_guardT rfl (lt_some (by decide)) rfl (fun K hK r => ?_)
                                    simp only [x_load, eX, ↓reduceIte, Nat.reduceEqDiff, Int.reduceToNat]
                                    refine Lt_loadAt1 Try.underlying22 rfl hbA ldA ?_
                                    try simp only [eX, ↓reduceIte, Nat.reduceEqDiff, Int.reduceToNat]
                                    refine hK _ _ ?_; clear hK K
                                  | refine OW_guardF rfl (lt_some (by decide)) rfl ?_
                                    simp only [eX, ↓reduceIte, Nat.reduceEqDiff, Int.reduceToNat]
                                  first
                                  | refine OW_guardT rfl (lt_some (by decide)) rfl (fun K hK r => ?_)
                                    simp only [x_move, eX, ↓reduceIte, Nat.reduceEqDiff, Int.reduceToNat]
                                    refine hK _ _ ?_; clear hK K
                                  | refine OW_guardF rfl (lt_some (by decide)) rfl ?_
                                    simp only [eX, ↓reduceIte, Nat.reduceEqDiff, Int.reduceToNat]
                                  first
                                  | refine OW_guardT rfl (lt_some (by decide)) rfl (fun K hK r => ?_)
                                    simp only [x_indexAddr, eX, ↓reduceIte, Nat.reduceEqDiff, Int.reduceToNat]
                                    refine Lt_indexS Try.underlying22 sz3 ixA ixA ?_
                                    try simp only [add_mk, Nat.mul_one, Nat.zero_add, Int.reduceToNat]
                                    try simp only [eX, ↓reduceIte, Nat.reduceEqDiff, Int.reduceToNat]
                                    refine hK _ _ ?_; clear hK K
                                  | refine OW_guardF rfl (lt_some (by decide)) rfl ?_
                                    simp only [eX, ↓reduceIte, Nat.reduceEqDiff, Int.reduceToNat]
                                  first
                                  | refine OW_guardT rfl (lt_some (by decide)) rfl (fun K hK r => ?_)
                                    simp only [x_load, eX, ↓reduceIte, Nat.reduceEqDiff, Int.reduceToNat]
                                    refine Lt_loadAt1 Try.underlying3 rfl hbA (v := .int .i64 (m.hd.getD k 0)) (by first | exact ints_at atw rfl _ (by omega) | (simp only [Int.toNat_natCast, Nat.mul_one]; exact ints_at atw rfl _ (by omega))) ?_
                                    refine hK _ _ ?_; clear hK K
                                  | refine OW_guardF rfl (lt_some (by decide)) rfl ?_
                                    simp only [eX, ↓reduceIte, Nat.reduceEqDiff, Int.reduceToNat]
                                  first
                                  | refine OW_guardT rfl (lt_some (by decide)) rfl (fun K hK r => ?_)
                                    simp (disch := (first | omega | decide)) only [x_bin, g_int, b_gtr, dec_lt_t, dec_lt_f, dec_le_t, dec_le_f, dec_eq_t, dec_eq_f, Bool.not_true, Bool.not_false, eX, ↓reduceIte, Nat.reduceEqDiff, Int.reduceToNat]
                                    refine hK _ _ ?_; clear hK K
                                  | refine OW_guardF rfl (lt_some (by decide)) rfl ?_
                                    simp only [eX, ↓reduceIte, Nat.reduceEqDiff, Int.reduceToNat]
                                  refine OW_opS (fun K hK r => ?_)
                                  simp only [x_pick, l_asBool, HL.ite_bool, if_true, if_false, Bool.false_eq_true, eX, ↓reduceIte, Nat.reduceEqDiff, Int.reduceToNat]
                                  refine hK _ _ ?_; clear hK K
                                  refine OW_nil ?_
                                  try simp only [Ex.thnH, Ex.inBlockH, ↓reduceIte, Nat.reduceEqDiff]
                                  refine hK10 _ _ ?_; try clear hK10 K10
                                  refine CW_cond (fun r => rfl) (fun c84 => ?_) (fun c84 => ?_)
                                  · first
                                    | (exfalso; exact cnA c84; done)
                                    | skip
                                      have hex : ¬ (0 ≤ m.hd.getD k 0 ∧ m.hd.getD k 0 ≤ 4294967294) := by first | omega | (simp only [decide_eq_true_eq] at c84; omega)
                                      refine CW_seq (fun K11 hK11 => ?_)
                                      refine CW_region ?_
                                      refine OW_as rfl ?_
                                      refine OW_nil ?_
                                      try simp only [Ex.thnH, Ex.inBlockH, ↓reduceIte, Nat.reduceEqDiff]
                                      refine hK11 _ _ ?_; try clear hK11 K11
                                      refine CW_ret ?_
                                      try simp only [Ex.thnH, Ex.inBlockH, ↓reduceIte, Nat.reduceEqDiff]
                                      have hb : m.good = false := by
                                        cases hg : m.good with
                                        | false => rfl
                                        | true =>
                                          exfalso
                                          have hh := (Mf.good_iff.1 hg).h (m.hd.getD k 0) (by rw [List.getD_eq_getElem?_getD, List.getElem?_eq_getElem (by omega)]; exact List.getElem_mem _)
                                          exact hex hh
                                      rw [hb]
                                      exact ⟨[_], ⟨rfl, trivial⟩, H, lhA, rfl, rfl⟩
                                  · first
                                    | (exfalso; exact cnA c84; done)
                                    | skip
                                      have hin : 0 ≤ m.hd.getD k 0 ∧ m.hd.getD k 0 ≤ 4294967294 := by first | omega | (cases c84; done) | (simp only [decide_eq_false_iff_not] at c84; omega)
                                      refine CW_skip ?_
                                      try simp only [Ex.thnH, Ex.inBlockH, ↓reduceIte, Nat.reduceEqDiff]
                                      refine hK9 _ _ ?_; try clear hK9 K9
                                      refine CW_region ?_
                                      refine OW_mv rfl ?_
                                      refine OW_opS (fun K hK r => ?_)
                                      simp (disch := (first | omega | decide)) only [x_bin, g_int, b_add, wrap_i64, wrap_u64, wrap_u32, wrap_u8, eX, ↓reduceIte, Nat.reduceEqDiff, Int.reduceToNat]
                                      refine hK _ _ ?_; clear hK K
                                      refine OW_as rfl ?_
                                      refine OW_nil ?_
                                      try simp only [Ex.thnH, Ex.inBlockH, ↓reduceIte, Nat.reduceEqDiff]
                                      refine ⟨m.hd.length - (k + 1), by omega, k + 1, by omega, rfl, ?_, hlH, rfl, rfl, trivial⟩
                                      intro x hx
                                      rw [take_snoc (by omega)] at hx
                                      rcases List.mem_append.1 hx with h | h
                                      · exact hall x h
                                      · simp only [List.mem_singleton] at h
                                        subst h
                                        omega
                            · first
                              | (exfalso; exact cnA c68; done)
                              | skip
                                (try simp only [decide_eq_true_eq, decide_eq_false_iff_not, Bool.not_eq_true, Bool.not_eq_false, Bool.and_eq_true, Bool.or_eq_true, Bool.or_eq_false_iff, Bool.not_eq_true, Bool.not_eq_eq_eq_not, Bool.not_true, Bool.not_false] at c68)
                                obtain rfl : k = m.hd.length := by omega
                                rw [List.take_length] at hall
                                refine CW_exit ?_
                                try simp only [Ex.thnH, Ex.inBlockH, ↓reduceIte, Nat.reduceEqDiff]
                                refine hK5 _ _ ?_; try clear hK5 K5
                                refine CW_seq (fun K12 hK12 => ?_)
                                refine CW_region ?_
                                refine OW_as rfl ?_
                                refine OW_nil ?_
                                try simp only [Ex.thnH, Ex.inBlockH, ↓reduceIte, Nat.reduceEqDiff]
                                refine hK12 _ _ ?_; try clear hK12 K12
                                refine CW_ret ?_
                                try simp only [Ex.thnH, Ex.inBlockH, ↓reduceIte, Nat.reduceEqDiff]
                                have hg : m.good = true := Mf.good_iff.2 ⟨hrg.1, hrg.2.1, hrg.2.2.1, hrg.2.2.2.1, hrg.2.2.2.2.1, hrg.2.2.2.2.2, hall⟩
                                rw [hg]
                                exact ⟨[_], ⟨rfl, trivial⟩, H, lhA, rfl, rfl⟩

end Go.Proofs.Ytigofhhonnbkmaa.HL
end
section
namespace Go.Proofs.Ytigofhhonnbkmaa.HL
open Go Go.Proofs
set_option linter.unusedSimpArgs false
set_option linter.unusedVariables false
attribute [local irreducible] Lt Lq CW OW TW CallH

theorem OwnS.cap {H : Hp} {E : TypeId} {w n m c : Nat} {a : Option Addr} {cs : List Value} {rs : Option Nat} (h : OwnS H E w (.slice a m c) n cs rs) : n ≤ c := by
  obtain ⟨_, ⟨h1, h2, _⟩ | ⟨r, cap, d, h1, _, h3, _⟩⟩ := h
  · omega
  · injection h1 with _ _ e; omega


end Go.Proofs.Ytigofhhonnbkmaa.HL
end
section
namespace Go.Proofs.Ytigofhhonnbkmaa.HL
open Go Go.Proofs
set_option linter.unusedSimpArgs false
set_option linter.unusedVariables false
attribute [local irreducible] Lt Lq CW OW TW CallH

end Go.Proofs.Ytigofhhonnbkmaa.HL
end
section
namespace Go.Proofs.Ytigofhhonnbkmaa.HL
open Go Go.Proofs
set_option linter.unusedSimpArgs false
set_option linter.unusedVariables false
attribute [local irreducible] Lt Lq CW OW TW CallH

end Go.Proofs.Ytigofhhonnbkmaa.HL
end
section
namespace Go.Proofs.Ytigofhhonnbkmaa.HL
open Go Go.Proofs
set_option linter.unusedSimpArgs false
set_option linter.unusedVariables false
attribute [local irreducible] Lt Lq CW OW TW CallH


theorem rd_byte {s : St} (h : ∀ z, ByteL (s.r0 z).b) (i : Int) : ByteL (s.rd 0 i).1.b := by
  unfold St.rd
  split
  · exact zero_byte
  split
  · exact h i
  · exact zero_byte

/-- the first device's sectors hold bytes -/
structure BS (s : St) : Prop where
  su : ∀ z, ByteL ((s.dv.getD 0 default).sure z).b
  wa : ∀ w ∈ (s.dv.getD 0 default).wait, ByteL w.x.b
theorem lastW_mem {ws : List Wt} {i : Int} {x : Sec} : lastW ws i = some x → ∃ w ∈ ws, w.x = x := by
  induction ws with
  | nil => intro h; cases h
  | cons v r ih =>
    intro h
    have h' : (match lastW r i with | some x => some x | none => if v.at_ = i then some v.x else none) = some x := h
    cases hr : lastW r i with
    | some y =>
      rw [hr] at h'
      obtain ⟨w, h1, h2⟩ := ih (by rw [hr]; exact h')
      exact ⟨w, List.mem_cons_of_mem _ h1, h2⟩
    | none =>
      rw [hr] at h'
      by_cases e : v.at_ = i
      · simp only [if_pos e] at h'
        exact ⟨v, by simp, by injection h'⟩
      · simp only [if_neg e] at h'
        cases h'
theorem BS.rd {s : St} (h : BS s) (z : Int) : ByteL (s.rd 0 z).1.b := rd_byte (fun z => by
  unfold St.r0 Dv.read
  cases hl : lastW (s.dv.getD 0 default).wait z with
  | none => exact h.su z
  | some x =>
    obtain ⟨w, h1, h2⟩ := lastW_mem hl
    rw [Option.getD_some, ← h2]
    exact h.wa w h1) z
theorem BS.congr {s t : St} (h : BS s) (e : t.dv = s.dv) : BS t := ⟨by rw [e]; exact h.su, by rw [e]; exact h.wa⟩
theorem BS.dev {s t : St} (h : BS s) {d : Dv} (e : t.dv = s.dv.set 0 d) (h1 : ∀ z, ByteL (d.sure z).b) (h2 : ∀ w ∈ d.wait, ByteL w.x.b) : BS t := by
  by_cases hl : 0 < s.dv.length
  · have hd : t.dv.getD 0 default = d := by rw [e, getD_set, if_pos ⟨rfl, hl⟩]
    exact ⟨by rw [hd]; exact h1, by rw [hd]; exact h2⟩
  · have hd : t.dv.getD 0 default = s.dv.getD 0 default := by rw [e, getD_set, if_neg (fun hh => hl hh.2)]
    exact ⟨by rw [hd]; exact h.su, by rw [hd]; exact h.wa⟩
theorem BS.wr {s : St} (h : BS s) (z : Int) {x : Sec} (hx : ByteL x.b) : BS (s.wr 0 z x).1 := by
  rcases wr_cases s 0 z x with ⟨e, _⟩ | ⟨e, _⟩ | ⟨e, _⟩
  · rw [e]; exact h
  · rw [e]; exact h.congr (step_dv s)
  · rw [e]
    refine h.dev (d := (s.dv.getD 0 default).put ⟨z, x⟩) rfl h.su (fun w hw => ?_)
    rcases List.mem_append.1 hw with hm | hm
    · exact h.wa w hm
    · simp at hm; subst hm; exact hx
theorem torn_bytes {x old : Sec} {t : Int} (h1 : ByteL x.b) (h2 : ByteL old.b) : ByteL (torn x old t).b := by
  unfold torn
  split
  · intro b hb
    rcases List.mem_append.1 hb with hb | hb
    · exact h1 b (List.mem_of_mem_take hb)
    · exact h2 b (List.mem_of_mem_drop hb)
  · exact h1
theorem BS.stN {ws : List Wt} {s0 : Int → Sec} (h1 : ∀ z, ByteL (s0 z).b) (h2 : ∀ w ∈ ws, ByteL w.x.b) (kept : Nat → Option Int) : ∀ n, n ≤ ws.length → ∀ z, ByteL (Go.Proofs.Ytigofhhonnbkmaa.HL.stN kept ws s0 n z).b
  | 0, _, z => h1 z
  | n + 1, hn, z => by
    have ih := BS.stN h1 h2 kept n (by omega)
    have hm : ws.getD n default ∈ ws := by
      rw [List.getD_eq_getElem?_getD, List.getElem?_eq_getElem (by omega)]; exact List.getElem_mem _
    show ByteL ((match kept n with | none => Go.Proofs.Ytigofhhonnbkmaa.HL.stN kept ws s0 n | some t => _) z).b
    cases hk : kept n with
    | none => exact ih z
    | some t =>
      simp only
      split
      · exact torn_bytes (h2 _ hm) (ih _)
      · exact ih z
theorem BS.fl {s : St} (h : BS s) : BS (s.fl 0).1 := by
  rcases fl_cases s 0 with ⟨e, _⟩ | ⟨e, _⟩ | ⟨e, _⟩
  · rw [e]; exact h
  · rw [e]; exact h.congr (step_dv s)
  · rw [e]
    exact h.dev (d := (s.dv.getD 0 default).settle (fun _ => some 0)) rfl (fun z => BS.stN h.su h.wa _ _ (Nat.le_refl _) z) (fun w hw => by simp [Dv.settle] at hw)
theorem BS.cr {s : St} (h : BS s) (l : List Kp) (hl : 0 < s.dv.length) : BS (s.cr l) := by
  have hd : (s.cr l).dv.getD 0 default = (s.dv.getD 0 default).settle (fun n => keepOf l (0 : Nat) n) := by
    simp [St.cr, List.getD_eq_getElem?_getD, List.getElem?_mapIdx, List.getElem?_eq_getElem hl]
  exact ⟨by rw [hd]; exact fun z => BS.stN h.su h.wa _ _ (Nat.le_refl _) z, by rw [hd]; exact fun w hw => by simp [Dv.settle] at hw⟩

theorem BS.newL (l : List Int) : BS (newSt l) := by
  have : (newSt l).dv.getD 0 default = newDv (l.getD 0 0) ∨ (newSt l).dv.getD 0 default = default := by
    cases l with
    | nil => exact .inr rfl
    | cons x r => exact .inl rfl
  rcases this with e | e
  · exact ⟨by rw [e]; exact fun z => zero_byte, by rw [e]; exact fun w hw => by simp [newDv] at hw⟩
  · exact ⟨by rw [e]; exact fun z => zero_byte, by rw [e]; exact fun w hw => by cases hw⟩
theorem BS.saveM {s : St} (h : BS s) (m : Mf) : BS (s.saveM m).1 := by
  rcases s.saveM_cases m with e | e | e | e <;> rw [e]
  · exact h
  · exact h
  · exact h.wr _ m.seal_byte
  · exact (h.wr _ m.seal_byte).fl
end Go.Proofs.Ytigofhhonnbkmaa.HL
end
section
namespace Go.Proofs.Ytigofhhonnbkmaa.HL
open Go Go.Proofs
set_option linter.unusedSimpArgs false
set_option linter.unusedVariables false
attribute [local irreducible] Lt Lq CW OW TW CallH


theorem Kp.plain (k : Kp) : PlainL k.c := PlainL.cons (plain_int _ _) (PlainL.cons (plain_int _ _) (PlainL.cons (plain_int _ _) PlainL.nil))
theorem take_next {l : List Kp} {k : Nat} (hk : k < l.length) : kps (l.take (k + 1)) = kps (l.take k) ++ (l.getD k default).c := by
  rw [List.take_add_one, List.getElem?_eq_getElem hk, List.getD_eq_getElem?_getD, List.getElem?_eq_getElem hk]
  simp only [kps, List.flatMap_append, Option.toList_some, List.flatMap_cons, List.flatMap_nil, List.append_nil, Option.getD_some]

set_option maxRecDepth 100000 in
set_option maxHeartbeats 4000000 in
theorem keeps_ok (H : Hp) (a : Option Addr) (cap : Nat) (l : List Kp) (hv : Holds H 3 (.slice a l.length cap) l.length (kps l)) (hl : l.length ≤ 1000) : CallH Try.prog 27 #[.slice a l.length cap] H (fun v H' => Le H H' ∧ ∃ rs, OwnS H' 140 3 v l.length (kps l) rs ∧ ∀ r, rs = some r → H r = none) := by
  refine CallH_enter (l := [_]) (rl := [.tmp 2]) (n := 19) Try.func27 rfl rfl rfl rfl rfl ?_
  simp only [envOf, Nat.reduceAdd]
  refine CW_seq (fun K1 hK1 => ?_)
  refine CW_region ?_
  refine OW_as rfl ?_
  refine OW_nil ?_
  try simp only [Ex.thnH, Ex.inBlockH, ↓reduceIte, Nat.reduceEqDiff]
  refine hK1 _ _ ?_; try clear hK1 K1
  refine CW_seq (fun K2 hK2 => ?_)
  refine CW_region ?_
  refine OW_opS (fun K hK r => ?_)
  simp only [x_buildSlice, List.map_toArray, List.map_cons, List.map_nil, eX, ↓reduceIte, Nat.reduceEqDiff, Int.reduceToNat]
  refine Lt_buildSlice (vs := []) Try.underlying69 sz140 zr140 rfl bsA (by first | decide | (simp; done)) ?_
  simp only [List.flatMap_cons, List.flatMap_nil, Value.cells, List.append_nil, List.cons_append, List.nil_append, List.length_cons, List.length_nil, Nat.zero_add, Nat.reduceAdd]
  intro b6 hb6
  have f6_H : H b6 = none := none_of_le lhA hb6
  try simp only [eX, ↓reduceIte, Nat.reduceEqDiff, Int.reduceToNat]
  refine hK _ _ ?_; clear hK K
  refine OW_as rfl ?_
  refine OW_nil ?_
  try simp only [Ex.thnH, Ex.inBlockH, ↓reduceIte, Nat.reduceEqDiff]
  refine hK2 _ _ ?_; try clear hK2 K2
  refine CW_seq (fun K3 hK3 => ?_)
  refine CW_seq (fun K4 hK4 => ?_)
  refine CW_region ?_
  refine OW_mv rfl ?_
  refine OW_opS (fun K hK r => ?_)
  simp only [x_builtin, l_len, List.map_toArray, List.map_cons, List.map_nil, i_len_slice _ _ Try.underlying56, eX, ↓reduceIte, Nat.reduceEqDiff, Int.reduceToNat]
  refine hK _ _ ?_; clear hK K
  refine OW_mv rfl ?_
  refine OW_nil ?_
  try simp only [Ex.thnH, Ex.inBlockH, ↓reduceIte, Nat.reduceEqDiff]
  refine hK4 _ _ ?_; try clear hK4 K4
  refine CW_block ?_
  refine CW_loop (fun m e H_ => ∃ (k : Nat) (v : Value) (rs : Option Nat), k ≤ l.length ∧ m = l.length - k ∧ Le H H_ ∧ OwnS H_ 140 3 v k (kps (l.take k)) rs ∧ (∀ r, rs = some r → H r = none) ∧ Env.has [(3, v), (7, .slice a l.length cap), (8, .int .i64 l.length), (9, .int .i64 k)] e) (l.length) ?_ ?_
  · skip
    exact ⟨0, _, some b6, by omega, by omega, lhA, ⟨by simp, .inr ⟨b6, 0, #[], rfl, upd_same _ _ _, Nat.le_refl _, by simp, by simp, rfl⟩⟩, (fun r hr => by cases hr; exact f6_H), rfl, rfl, rfl, rfl, trivial⟩
  intro m_ e_ H_ hI_
  obtain ⟨k, v, rs, hk, rfl, hlH, hO, hrs, he⟩ := hI_
  refine CW_env he.sub ?_; clear he e_
  obtain ⟨va, vc, rfl⟩ := hO.holds.form
  refine CW_seq (fun K5 hK5 => ?_)
  refine CW_region ?_
  refine OW_opS (fun K hK r => ?_)
  simp (disch := (first | omega | decide)) only [x_bin, g_int, b_lss, dec_lt_t, dec_lt_f, dec_le_t, dec_le_f, dec_eq_t, dec_eq_f, Bool.not_true, Bool.not_false, eX, ↓reduceIte, Nat.reduceEqDiff, Int.reduceToNat]
  refine hK _ _ ?_; clear hK K
  refine OW_nil ?_
  try simp only [Ex.thnH, Ex.inBlockH, ↓reduceIte, Nat.reduceEqDiff]
  refine hK5 _ _ ?_; try clear hK5 K5
  refine CW_seq (fun K6 hK6 => ?_)
  refine CW_cond (fun r => rfl) (fun c10 => ?_) (fun c10 => ?_)
  · first
    | (exfalso; exact cnA c10; done)
    | skip
      (try simp only [decide_eq_true_eq, decide_eq_false_iff_not, Bool.not_eq_true, Bool.not_eq_false, Bool.and_eq_true, Bool.or_eq_true, Bool.or_eq_false_iff, Bool.not_eq_true, Bool.not_eq_eq_eq_not, Bool.not_true, Bool.not_false] at c10)
      obtain ⟨bw, ow, cw, Tw, Fw, ew, hbw, hsw, atw⟩ := hv.at (by omega)
      have mm := Nat.mul_le_mul_right 3 (show k + 1 ≤ l.length by omega)
      refine CW_skip ?_
      try simp only [Ex.thnH, Ex.inBlockH, ↓reduceIte, Nat.reduceEqDiff]
      refine hK6 _ _ ?_; try clear hK6 K6
      refine CW_seq (fun K7 hK7 => ?_)
      refine CW_block ?_
      refine CW_seq (fun K8 hK8 => ?_)
      refine CW_region ?_
      refine OW_opS (fun K hK r => ?_)
      simp only [x_indexAddr, eX, ↓reduceIte, Nat.reduceEqDiff, Int.reduceToNat]
      refine Lt_indexSof Try.underlying56 sz143 ew ixA ixA ?_
      try simp only [Int.toNat_natCast]
      refine hK _ _ ?_; clear hK K
      refine OW_opS (fun K hK r => ?_)
      simp only [x_load, eX, ↓reduceIte, Nat.reduceEqDiff, Int.reduceToNat]
      refine Lt_loadAtA Try.underlying143 rfl sz143 (hlH _ _ hbw) (by omega) ?_
      rw [ext_at Kp.len atw rfl k (by omega) hsw]
      refine hK _ _ ?_; clear hK K
      refine OW_opS (fun K hK r => ?_)
      simp only [x_alloc, zr143, orF_some, Value.cells, eX, ↓reduceIte, Nat.reduceEqDiff, Int.reduceToNat]
      intro b5 hb5
      try have n5_b6 : b6 ≠ b5 := ne_of_none hbA hb5
      have f5_H : H b5 = none := none_of_le lhA hb5
      try simp only [eX, ↓reduceIte, Nat.reduceEqDiff, Int.reduceToNat]
      refine hK _ _ ?_; clear hK K
      refine OW_op rfl (lt_none) (fun K hK r => ?_)
      simp only [x_store, eX, ↓reduceIte, Nat.reduceEqDiff, Int.reduceToNat]
      first | refine Lt_storeAll sz143 bdA hbA bdA plA (by decide) ?_ | refine Lt_storeAtA sz143 bdA hbA bdA plA (by decide) ?_
      try simp only [eX, ↓reduceIte, Nat.reduceEqDiff, Int.reduceToNat]
      refine hK _ _ ?_; clear hK K
      refine OW_nil ?_
      try simp only [Ex.thnH, Ex.inBlockH, ↓reduceIte, Nat.reduceEqDiff]
      refine hK8 _ _ ?_; try clear hK8 K8
      refine CW_region ?_
      refine OW_mv rfl ?_
      refine OW_opS (fun K hK r => ?_)
      simp only [x_load, eX, ↓reduceIte, Nat.reduceEqDiff, Int.reduceToNat]
      first | refine Lt_loadAll Try.underlying143 rfl sz143 hbA bdA ?_ | refine Lt_loadAtA Try.underlying143 rfl sz143 hbA bdA ?_
      try simp only [List.extract_toArray, List.extract_eq_take_drop, Nat.zero_add, Nat.reduceAdd, Nat.reduceSub, Nat.sub_zero, List.drop_succ_cons, List.drop_zero, List.take_succ_cons, List.take_zero, List.take_nil, List.drop_nil]
      try simp only [eX, ↓reduceIte, Nat.reduceEqDiff, Int.reduceToNat]
      refine hK _ _ ?_; clear hK K
      refine OW_opS (fun K hK r => ?_)
      simp only [x_buildSlice, List.map_toArray, List.map_cons, List.map_nil, eX, ↓reduceIte, Nat.reduceEqDiff, Int.reduceToNat]
      refine Lt_buildSlice (vs := [_]) Try.underlying69 sz140 zr140 rfl bsA (by first | decide | (simp; done)) ?_
      simp only [List.flatMap_cons, List.flatMap_nil, Value.cells, List.append_nil, List.cons_append, List.nil_append, List.length_cons, List.length_nil, Nat.zero_add, Nat.reduceAdd]
      intro b15 hb15
      try have n15_b6 : b6 ≠ b15 := ne_of_none hbA hb15
      try have n15_b5 : b5 ≠ b15 := ne_of_none hbA hb15
      have f15_H : H b15 = none := none_of_le lhA hb15
      try simp only [eX, ↓reduceIte, Nat.reduceEqDiff, Int.reduceToNat]
      refine hK _ _ ?_; clear hK K
      refine OW_opS (fun K hK r => ?_)
      simp only [x_builtin, l_append, List.map_toArray, List.map_cons, List.map_nil, eX, ↓reduceIte, Nat.reduceEqDiff, Int.reduceToNat]
      have h5 : H_ b5 = none := hb5
      have n515 : b5 ≠ b15 := ne_of_none hbA hb15
      have h15 : H_ b15 = none := none_of_le (le_upd _ _ _ h5) hb15
      refine Lt_append Try.underlying69 Try.underlying69 (by simp) sz140 by140 (by decide) zr140 rfl _ (n := k) (m := 1) (ds := (l.getD k default).c) ((hO.make h5).make hb15) (fun Kx => len_slice _ _ _ Kx) (fun Kx => first_slice (w := 3) (n := 1) (cs := (l.getD k default).c) ⟨rfl, .inr ⟨b15, 0, 1, _, _, _, rfl, hbA, by simp, by simp⟩⟩ Kx) rfl (Kp.plain _) (by omega) ?_
      intro v16 H16 rs16 hg16 ho16 hr16
      obtain ⟨wa16, wc16, rfl⟩ := ho16.holds.form
      rw [← take_next (by omega)] at ho16
      have l16 : Le H H16 := fun z o hz => hg16.known z o ((upd_ne _ _ (ne_of_none (hlH _ _ hz) h15)).trans ((upd_ne _ _ (ne_of_none (hlH _ _ hz) h5)).trans (hlH _ _ hz))) (fun e => by rw [hrs z e] at hz; cases hz)
      have hrs16 : ∀ r, rs16 = some r → H r = none := fun r e => (hr16 r e).elim (hrs r) (fun hn => none_of_le hlH (upd_none (upd_none hn)))
      refine hK _ _ ?_; clear hK K
      refine OW_as rfl ?_
      refine OW_nil ?_
      try simp only [Ex.thnH, Ex.inBlockH, ↓reduceIte, Nat.reduceEqDiff]
      refine hK7 _ _ ?_; try clear hK7 K7
      refine CW_region ?_
      refine OW_opS (fun K hK r => ?_)
      simp (disch := (first | omega | decide)) only [x_bin, g_int, b_add, wrap_i64, wrap_u64, wrap_u32, wrap_u8, eX, ↓reduceIte, Nat.reduceEqDiff, Int.reduceToNat]
      refine hK _ _ ?_; clear hK K
      refine OW_mv rfl ?_
      refine OW_nil ?_
      try simp only [Ex.thnH, Ex.inBlockH, ↓reduceIte, Nat.reduceEqDiff]
      exact ⟨l.length - (k + 1), by omega, k + 1, _, rs16, by omega, rfl, l16, ho16, hrs16, rfl, rfl, rfl, rfl, trivial⟩
  · first
    | (exfalso; exact cnA c10; done)
    | skip
      (try simp only [decide_eq_true_eq, decide_eq_false_iff_not, Bool.not_eq_true, Bool.not_eq_false, Bool.and_eq_true, Bool.or_eq_true, Bool.or_eq_false_iff, Bool.not_eq_true, Bool.not_eq_eq_eq_not, Bool.not_true, Bool.not_false] at c10)
      have hkn : k = l.length := by omega
      refine CW_exit ?_
      try simp only [Ex.thnH, Ex.inBlockH, ↓reduceIte, Nat.reduceEqDiff]
      refine hK3 _ _ ?_; try clear hK3 K3
      refine CW_seq (fun K9 hK9 => ?_)
      refine CW_region ?_
      refine OW_mv rfl ?_
      refine OW_as rfl ?_
      refine OW_nil ?_
      try simp only [Ex.thnH, Ex.inBlockH, ↓reduceIte, Nat.reduceEqDiff]
      refine hK9 _ _ ?_; try clear hK9 K9
      refine CW_ret ?_
      try simp only [Ex.thnH, Ex.inBlockH, ↓reduceIte, Nat.reduceEqDiff]
      subst hkn
      rw [List.take_of_length_le (Nat.le_refl _)] at hO
      exact ⟨[_], ⟨rfl, trivial⟩, _, Le.refl _, hlH, rs, hO, hrs⟩

end Go.Proofs.Ytigofhhonnbkmaa.HL
end
