/- Parts of the proof, one behind the other: D51, D52, D53, HLClone, D54, D55, D56. -/
import Derived.Test.YtkmjncmdhinlgaaX5
set_option linter.unusedSimpArgs false
set_option linter.unusedVariables false
section
namespace Go.Proofs.Ytkmjncmdhinlgaa.HL
open Go Go.Proofs
set_option linter.unusedSimpArgs false
set_option linter.unusedVariables false
attribute [local irreducible] Lt Lq CW OW TW CallH


section
variable {k : Nat} {s : St} {m : RSt} {X : List RDX}
theorem PR.at (h : PR k s m) (hm : m.dv = rdv X) {i : Nat} (hi : i < X.length) : RlD (s.dv.getD i default) (X.getD i default).d ∧ i < s.dv.length := by
  have hlen : m.dv.length = X.length := by rw [hm]; simp
  have := h.rl.dv i (by omega)
  rw [hm, rdv_at] at this
  exact ⟨this, by rw [h.rl.len]; omega⟩
theorem PR.su (h : PR k s m) (hm : m.dv = rdv X) {i : Nat} (hi : i < X.length) (z : Int) : s.su i z = if 0 ≤ z ∧ z < (X.getD i default).d.sec.length then (X.getD i default).d.sec.getD z.toNat default else Sec.zero := by
  obtain ⟨h1, h2⟩ := h.at hm hi
  unfold St.su
  rw [if_pos (by omega), Int.toNat_natCast, h1.su]
theorem PR.szE (h : PR k s m) (hm : m.dv = rdv X) {i : Nat} (hi : i < X.length) : s.sz i = (X.getD i default).d.sec.length := by
  obtain ⟨h1, h2⟩ := h.at hm hi
  unfold St.sz
  rw [if_pos (by omega), Int.toNat_natCast, h1.sz]
theorem PR.waE (h : PR k s m) (hm : m.dv = rdv X) {i : Nat} (hi : i < X.length) : s.wa i = (X.getD i default).d.wait.length := by
  obtain ⟨h1, h2⟩ := h.at hm hi
  unfold St.wa
  rw [if_pos (by omega), Int.toNat_natCast, h1.wa]
theorem PR.rdE (h : PR k s m) (hm : m.dv = rdv X) {i j : Nat} (hi : i < X.length) (hj : j < (X.getD i default).d.sec.length) (hg : m.gone = false) : (s.rd i j).2 = none := by
  obtain ⟨h1, h2⟩ := h.at hm hi
  unfold St.rd
  rw [if_neg (by rw [h.rl.go, hg]; simp), if_pos]
  unfold St.has
  rw [Bool.and_eq_true, decide_eq_true_eq, decide_eq_true_eq, Int.toNat_natCast, h1.sz]
  omega
theorem PR.out (h : PR k s m) (hm : m.dv = rdv X) (z i : Int) (hz : ¬ (0 ≤ z ∧ z < X.length)) : s.su z i = Sec.zero ∧ s.sz z = 0 ∧ s.wa z = 0 := by
  have hlen : m.dv.length = X.length := by rw [hm]; simp
  have := h.rl.len
  unfold St.su St.sz St.wa
  rw [if_neg (by omega), if_neg (by omega), if_neg (by omega)]
  exact ⟨rfl, rfl, rfl⟩
end

set_option maxRecDepth 100000 in
set_option maxHeartbeats 16000000 in
theorem stands_ok (Q H F : Hp) (p : Nat) (s : St) (hA : Stn Q H F p s) (a : Option Addr) (cap : Nat) (X : List RDX) (hX : RX Q a cap X) (m : RSt) (hm : m.dv = rdv X) (k : Nat) (hP : PR k s m) (hk : k ≤ 1000) : CallH Try.prog 26 #[.pointer (some ⟨p, 0, none⟩), m.v (.slice a X.length cap)] H (fun v H' => v = .bool true ∧ H' = H) := by
  refine CallH_enter (l := [_, _]) (rl := [.tmp 4]) (n := 140) Try.func26 rfl rfl rfl rfl rfl ?_
  simp only [envOf, Nat.reduceAdd]
  obtain ⟨hl5, hsl⟩ := hP.len hm
  refine CW_seq (fun K1 hK1 => ?_)
  refine CW_region ?_
  refine OW_opS (fun K hK r => ?_)
  simp only [x_box, Value.cells, eX, ↓reduceIte, Nat.reduceEqDiff, Int.reduceToNat]
  intro b3 hb3
  have f3_H : H b3 = none := none_of_le lhA hb3
  have hA3 := hA.put (hA.fresh hb3) (.cells (m.c (.slice a X.length cap)).toArray 59)
  try simp only [eX, ↓reduceIte, Nat.reduceEqDiff, Int.reduceToNat]
  refine hK _ _ ?_; clear hK K
  refine OW_as rfl ?_
  refine OW_nil ?_
  try simp only [Ex.thnH, Ex.inBlockH, ↓reduceIte, Nat.reduceEqDiff]
  refine hK1 _ _ ?_; try clear hK1 K1
  refine CW_seq (fun K2 hK2 => ?_)
  refine CW_seq (fun K3 hK3 => ?_)
  refine CW_region ?_
  refine OW_opS (fun K hK r => ?_)
  simp only [x_fieldAddr, fa59_0, add_mk, Nat.reduceAdd, Nat.zero_add, eX, ↓reduceIte, Nat.reduceEqDiff, Int.reduceToNat]
  refine hK _ _ ?_; clear hK K
  refine OW_opS (fun K hK r => ?_)
  simp only [x_load, eX, ↓reduceIte, Nat.reduceEqDiff, Int.reduceToNat]
  refine Lt_loadAt1 Try.underlying57 rfl hbA ldA ?_
  try simp only [eX, ↓reduceIte, Nat.reduceEqDiff, Int.reduceToNat]
  refine hK _ _ ?_; clear hK K
  refine OW_opS (fun K hK r => ?_)
  simp only [x_builtin, l_len, List.map_toArray, List.map_cons, List.map_nil, i_len_slice _ _ Try.underlying57, eX, ↓reduceIte, Nat.reduceEqDiff, Int.reduceToNat]
  refine hK _ _ ?_; clear hK K
  refine OW_mv rfl ?_
  refine OW_nil ?_
  try simp only [Ex.thnH, Ex.inBlockH, ↓reduceIte, Nat.reduceEqDiff]
  refine hK3 _ _ ?_; try clear hK3 K3
  refine CW_block ?_
  refine CW_loop (fun m_ e H_ => ∃ i : Nat, i ≤ X.length ∧ m_ = X.length - i ∧ Le (H.upd b3 (.cells (m.c (.slice a X.length cap)).toArray 59)) H_ ∧ Env.has [(0, .pointer (some ⟨p, 0, none⟩)), (3, .pointer (some ⟨b3, 0, none⟩)), (15, .slice a X.length cap), (16, .int .i64 X.length), (17, .int .i64 i)] e) (X.length) ?_ ?_
  · skip
    exact ⟨0, by omega, by omega, Le.refl _, rfl, rfl, rfl, rfl, rfl, trivial⟩
  intro m_ e_ H_ hI_
  obtain ⟨i, hi, rfl, hl3, he⟩ := hI_
  refine CW_env he.sub ?_; clear he e_
  obtain ⟨HA, hHA⟩ : ∃ G : Hp, G = H_ := ⟨_, rfl⟩
  subst hHA
  have kb3 := hl3 b3 _ (upd_same _ _ _)
  have hHA3 : Le H HA := Le.trans (le_upd _ _ _ hb3) hl3
  have hSA := hA3.more hl3
  refine CW_seq (fun K4 hK4 => ?_)
  refine CW_region ?_
  refine OW_opS (fun K hK r => ?_)
  simp (disch := (first | omega | decide)) only [x_bin, g_int, b_lss, dec_lt_t, dec_lt_f, dec_le_t, dec_le_f, dec_eq_t, dec_eq_f, Bool.not_true, Bool.not_false, eX, ↓reduceIte, Nat.reduceEqDiff, Int.reduceToNat]
  refine hK _ _ ?_; clear hK K
  refine OW_nil ?_
  try simp only [Ex.thnH, Ex.inBlockH, ↓reduceIte, Nat.reduceEqDiff]
  refine hK4 _ _ ?_; try clear hK4 K4
  refine CW_seq (fun K5 hK5 => ?_)
  refine CW_cond (fun r => rfl) (fun c18 => ?_) (fun c18 => ?_)
  · first
    | (exfalso; exact cnA c18; done)
    | skip
      (try simp only [decide_eq_true_eq, decide_eq_false_iff_not, Bool.not_eq_true, Bool.not_eq_false, Bool.and_eq_true, Bool.or_eq_true, Bool.or_eq_false_iff, Bool.not_eq_true, Bool.not_eq_eq_eq_not, Bool.not_true, Bool.not_false] at c18)
      obtain ⟨bw, ow, cw, Tw, Fw, ew, hbw, hsw, atw⟩ := hX.h.at (by omega)
      have hxok := hX.ok _ (getD_mem' (show i < X.length by omega))
      have hxsz := (hP.rg hm i (by omega)).hi
      have mi := Nat.mul_le_mul_right 2 (show i + 1 ≤ X.length by omega)
      have hQ3 : Le Q HA := Le.trans hA.old hHA3
      refine CW_skip ?_
      try simp only [Ex.thnH, Ex.inBlockH, ↓reduceIte, Nat.reduceEqDiff]
      refine hK5 _ _ ?_; try clear hK5 K5
      refine CW_seq (fun K6 hK6 => ?_)
      refine CW_block ?_
      refine CW_seq (fun K7 hK7 => ?_)
      refine CW_region ?_
      refine OW_mv rfl ?_
      refine OW_opS (fun K hK r => ?_)
      simp only [x_indexAddr, eX, ↓reduceIte, Nat.reduceEqDiff, Int.reduceToNat]
      refine Lt_indexSof Try.underlying57 sz98 ew ixA ixA ?_
      try simp only [Int.toNat_natCast]
      refine hK _ _ ?_; clear hK K
      refine OW_opS (fun K hK r => ?_)
      simp only [x_load, eX, ↓reduceIte, Nat.reduceEqDiff, Int.reduceToNat]
      refine Lt_loadAtA Try.underlying98 rfl sz98 (hQ3 _ _ hbw) (by omega) ?_
      rw [ext_at RDX.len atw rfl i (by omega) hsw]
      refine hK _ _ ?_; clear hK K
      refine OW_opS (fun K hK r => ?_)
      simp only [x_alloc, zr98, orF_some, Value.cells, eX, ↓reduceIte, Nat.reduceEqDiff, Int.reduceToNat]
      intro b6 hb6
      try have n6_b3 : b3 ≠ b6 := ne_of_none hbA hb6
      have f6_H : H b6 = none := none_of_le lhA hb6
      try simp only [eX, ↓reduceIte, Nat.reduceEqDiff, Int.reduceToNat]
      refine hK _ _ ?_; clear hK K
      refine OW_as rfl ?_
      refine OW_op rfl (lt_none) (fun K hK r => ?_)
      simp only [x_store, eX, ↓reduceIte, Nat.reduceEqDiff, Int.reduceToNat]
      first | refine Lt_storeAll sz98 bdA hbA bdA plA (by decide) ?_ | refine Lt_storeAtA sz98 bdA hbA bdA plA (by decide) ?_
      try simp only [eX, ↓reduceIte, Nat.reduceEqDiff, Int.reduceToNat]
      refine hK _ _ ?_; clear hK K
      refine OW_nil ?_
      try simp only [Ex.thnH, Ex.inBlockH, ↓reduceIte, Nat.reduceEqDiff]
      refine hK7 _ _ ?_; try clear hK7 K7
      refine CW_seq (fun K8 hK8 => ?_)
      refine CW_seq (fun K9 hK9 => ?_)
      refine CW_region ?_
      refine OW_opS (fun K hK r => ?_)
      simp only [x_fieldAddr, fa98_0, add_mk, Nat.reduceAdd, Nat.zero_add, eX, ↓reduceIte, Nat.reduceEqDiff, Int.reduceToNat]
      refine hK _ _ ?_; clear hK K
      refine OW_opS (fun K hK r => ?_)
      simp only [x_load, eX, ↓reduceIte, Nat.reduceEqDiff, Int.reduceToNat]
      refine Lt_loadAt1 Try.underlying95 rfl hbA ldA ?_
      try simp only [eX, ↓reduceIte, Nat.reduceEqDiff, Int.reduceToNat]
      refine hK _ _ ?_; clear hK K
      refine OW_opS (fun K hK r => ?_)
      simp only [x_builtin, l_len, List.map_toArray, List.map_cons, List.map_nil, i_len_slice _ _ Try.underlying95, eX, ↓reduceIte, Nat.reduceEqDiff, Int.reduceToNat]
      refine hK _ _ ?_; clear hK K
      refine OW_mv rfl ?_
      refine OW_nil ?_
      try simp only [Ex.thnH, Ex.inBlockH, ↓reduceIte, Nat.reduceEqDiff]
      refine hK9 _ _ ?_; try clear hK9 K9
      refine CW_block ?_
      refine CW_loop (fun m_ e H_ => ∃ j : Nat, j ≤ (X.getD i default).d.sec.length ∧ m_ = (X.getD i default).d.sec.length - j ∧ Le (HA.upd b6 (.cells (X.getD i default).c.toArray 98)) H_ ∧ Env.has [(0, .pointer (some ⟨p, 0, none⟩)), (3, .pointer (some ⟨b3, 0, none⟩)), (5, .int .i64 i), (6, .pointer (some ⟨b6, 0, none⟩)), (15, .slice a X.length cap), (16, .int .i64 X.length), (17, .int .i64 i), (23, .slice (X.getD i default).sa (X.getD i default).d.sec.length (X.getD i default).sc), (24, .int .i64 (X.getD i default).d.sec.length), (25, .int .i64 j)] e) ((X.getD i default).d.sec.length) ?_ ?_
      · skip
        exact ⟨0, by omega, by omega, Le.refl _, rfl, rfl, rfl, rfl, rfl, rfl, rfl, rfl, rfl, rfl, trivial⟩
      intro m_ e_ H_ hI_
      obtain ⟨j, hj, rfl, hl6, he⟩ := hI_
      refine CW_env he.sub ?_; clear he e_
      obtain ⟨HB, hHB⟩ : ∃ G : Hp, G = H_ := ⟨_, rfl⟩
      subst hHB
      have kb6 := hl6 b6 _ (upd_same _ _ _)
      have hSB := hSA.more (Le.trans (le_upd _ _ _ hb6) hl6)
      have kc3 : HB b3 = some (.cells (m.c (.slice a X.length cap)).toArray 59) := hl6 b3 _ ((upd_ne _ _ n6_b3).trans kb3)
      obtain ⟨H6, hH6⟩ : ∃ G : Hp, G = HA.upd b6 (.cells (X.getD i default).c.toArray 98) := ⟨_, rfl⟩
      rw [← hH6] at hl6
      have hOB := hSB.old
      have hH3B : Le H HB := Le.trans hHA3 (Le.trans (by rw [hH6]; exact le_upd _ _ _ hb6) hl6)
      refine CW_seq (fun K10 hK10 => ?_)
      refine CW_region ?_
      refine OW_opS (fun K hK r => ?_)
      simp (disch := (first | omega | decide)) only [x_bin, g_int, b_lss, dec_lt_t, dec_lt_f, dec_le_t, dec_le_f, dec_eq_t, dec_eq_f, Bool.not_true, Bool.not_false, eX, ↓reduceIte, Nat.reduceEqDiff, Int.reduceToNat]
      refine hK _ _ ?_; clear hK K
      refine OW_nil ?_
      try simp only [Ex.thnH, Ex.inBlockH, ↓reduceIte, Nat.reduceEqDiff]
      refine hK10 _ _ ?_; try clear hK10 K10
      refine CW_seq (fun K11 hK11 => ?_)
      refine CW_cond (fun r => rfl) (fun c26 => ?_) (fun c26 => ?_)
      · first
        | (exfalso; exact cnA c26; done)
        | skip
          (try simp only [decide_eq_true_eq, decide_eq_false_iff_not, Bool.not_eq_true, Bool.not_eq_false, Bool.and_eq_true, Bool.or_eq_true, Bool.or_eq_false_iff, Bool.not_eq_true, Bool.not_eq_eq_eq_not, Bool.not_true, Bool.not_false] at c26)
          obtain ⟨bs, os, cs, Ts, Fs, es, hbs, hss, ats⟩ := hxok.s.at (by omega)
          have mj := Nat.mul_le_mul_right 64 (show j + 1 ≤ (X.getD i default).d.sec.length by omega)
          have hsu : s.su i j = ((X.getD i default).d.sec.getD j default) := by rw [hP.su hm (by omega), if_pos (by omega), Int.toNat_natCast]
          refine CW_skip ?_
          try simp only [Ex.thnH, Ex.inBlockH, ↓reduceIte, Nat.reduceEqDiff]
          refine hK11 _ _ ?_; try clear hK11 K11
          refine CW_seq (fun K12 hK12 => ?_)
          refine CW_block ?_
          refine CW_seq (fun K13 hK13 => ?_)
          refine CW_region ?_
          refine OW_mv rfl ?_
          refine OW_opS (fun K hK r => ?_)
          simp only [x_indexAddr, eX, ↓reduceIte, Nat.reduceEqDiff, Int.reduceToNat]
          refine Lt_indexSof Try.underlying95 sz38 es ixA ixA ?_
          try simp only [Int.toNat_natCast]
          refine hK _ _ ?_; clear hK K
          refine OW_opS (fun K hK r => ?_)
          simp only [x_load, eX, ↓reduceIte, Nat.reduceEqDiff, Int.reduceToNat]
          refine Lt_loadAtA Try.underlying38 rfl sz38 ((Le.trans hQ3 (Le.trans (by rw [hH6]; exact le_upd _ _ _ hb6) hl6)) _ _ hbs) (by omega) ?_
          rw [ext_at Sec.len ats rfl j (by omega) hss]
          refine hK _ _ ?_; clear hK K
          refine OW_opS (fun K hK r => ?_)
          simp only [x_alloc, zr38, orF_some, Value.cells, eX, ↓reduceIte, Nat.reduceEqDiff, Int.reduceToNat]
          intro b8 hb8
          try have n8_b3 : b3 ≠ b8 := ne_of_none hbA hb8
          try have n8_b6 : b6 ≠ b8 := ne_of_none hbA hb8
          have f8_H : H b8 = none := none_of_le lhA hb8
          have f8_H6 : H6 b8 = none := none_of_le lhA hb8
          try simp only [eX, ↓reduceIte, Nat.reduceEqDiff, Int.reduceToNat]
          refine hK _ _ ?_; clear hK K
          refine OW_as rfl ?_
          refine OW_op rfl (lt_none) (fun K hK r => ?_)
          simp only [x_store, eX, ↓reduceIte, Nat.reduceEqDiff, Int.reduceToNat]
          refine Lt_storeAll sz38 (by simp [Sec.h]) hbA (by simp [Sec.h]) (PlainL.ints _ _) (by decide) ?_
          try simp only [upd_upd]
          refine hK _ _ ?_; clear hK K
          refine OW_nil ?_
          try simp only [Ex.thnH, Ex.inBlockH, ↓reduceIte, Nat.reduceEqDiff]
          refine hK13 _ _ ?_; try clear hK13 K13
          refine CW_seq (fun K14 hK14 => ?_)
          refine CW_seq (fun K15 hK15 => ?_)
          obtain ⟨R7, hR7⟩ : ∃ R : Hp, R = emptyHp.upd b8 (.cells ((X.getD i default).d.sec.getD j default).c.toArray 38) := ⟨_, rfl⟩
          refine CW_drawR [0, 0, 0, 2, 1, 0] [0, 1, 2, 3, 4, 5] R7 (by kernel_rfl) (by kernel_rfl) (by subst hR7; exact le_put (le_empty _) hbA) (fun lR7 => ?_)
          apply TW_pure rfl (lt_some (by decide)) rfl
          · intro r
            simp only [x_move, eX, ↓reduceIte, Nat.reduceEqDiff]
            exact ⟨rfl, Le.refl _⟩
          simp only [eX, ↓reduceIte, Nat.reduceEqDiff, Int.reduceToNat]
          apply TW_pure rfl (lt_some (by decide)) rfl
          · intro r
            simp only [x_move, eX, ↓reduceIte, Nat.reduceEqDiff]
            exact ⟨rfl, Le.refl _⟩
          simp only [eX, ↓reduceIte, Nat.reduceEqDiff, Int.reduceToNat]
          apply TW_pure rfl (lt_some (by decide)) rfl
          · intro r
            simp only [x_move, eX, ↓reduceIte, Nat.reduceEqDiff]
            exact ⟨rfl, Le.refl _⟩
          simp only [eX, ↓reduceIte, Nat.reduceEqDiff, Int.reduceToNat]
          refine TW_chain rfl (lt_some (by decide)) rfl (fun K hK r => ?_)
          simp only [x_callF _ bd17, List.map_toArray, List.map_cons, List.map_nil, eX, ↓reduceIte, Nat.reduceEqDiff, Int.reduceToNat]
          refine (sureL (hSB.more lhA) hP.sm i j).mono ?_
          rintro v H' ⟨rfl, rfl⟩
          rw [hsu]
          try simp only [eX, ↓reduceIte, Nat.reduceEqDiff, Int.reduceToNat]
          refine hK _ _ leA ?_; clear hK K
          apply TW_look rfl (lt_some (by decide)) rfl
          · intro r
            simp only [x_load, eX, ↓reduceIte, Nat.reduceEqDiff]
            refine Lt_loadAll Try.underlying38 rfl sz38 (by rw [hR7]; exact upd_same _ _ _) (by simp [Sec.h]) ?_
            exact ⟨rfl, Le.refl _⟩
          simp only [eX, ↓reduceIte, Nat.reduceEqDiff, Int.reduceToNat]
          apply TW_pure rfl (lt_some (by decide)) rfl
          · intro r
            simp only [x_bin, g_agg _ _ _ _ _ _ eqg38, eX, ↓reduceIte, Nat.reduceEqDiff]
            rw [e_neq _ _ _ _ (by simp)]
            rw [q_equal]
            rw [q_sec]
            exact ⟨rfl, Le.refl _⟩
          simp only [eX, ↓reduceIte, Nat.reduceEqDiff, Int.reduceToNat]
          refine TW_nil ?_
          try simp only [Ex.thnH, Ex.inBlockH, ↓reduceIte, Nat.reduceEqDiff]
          refine hK15 _ _ ?_; try clear hK15 K15
          refine CW_cond (fun r => rfl) (fun c35 => ?_) (fun c35 => ?_)
          · first
            | (exfalso; exact cnA c35; done)
            | skip
              (try simp only [decide_eq_true_eq, decide_eq_false_iff_not, Bool.not_eq_true, Bool.not_eq_false, Bool.and_eq_true, Bool.or_eq_true, Bool.or_eq_false_iff, Bool.not_eq_true, Bool.not_eq_eq_eq_not, Bool.not_true, Bool.not_false] at c35)
              refine CW_seq (fun K16 hK16 => ?_)
              refine CW_region ?_
              refine OW_as rfl ?_
              refine OW_nil ?_
              try simp only [Ex.thnH, Ex.inBlockH, ↓reduceIte, Nat.reduceEqDiff]
              refine hK16 _ _ ?_; try clear hK16 K16
              refine CW_ret ?_
              try simp only [Ex.thnH, Ex.inBlockH, ↓reduceIte, Nat.reduceEqDiff]
              exfalso; first | omega | (simp_all; done)
          · first
            | (exfalso; exact cnA c35; done)
            | skip
              (try simp only [decide_eq_true_eq, decide_eq_false_iff_not, Bool.not_eq_true, Bool.not_eq_false, Bool.and_eq_true, Bool.or_eq_true, Bool.or_eq_false_iff, Bool.not_eq_true, Bool.not_eq_eq_eq_not, Bool.not_true, Bool.not_false] at c35)
              refine CW_skip ?_
              try simp only [Ex.thnH, Ex.inBlockH, ↓reduceIte, Nat.reduceEqDiff]
              refine hK14 _ _ ?_; try clear hK14 K14
              refine CW_seq (fun K17 hK17 => ?_)
              refine CW_region ?_
              refine OW_mv rfl ?_
              refine OW_mv rfl ?_
              refine OW_mv rfl ?_
              refine OW_opS (fun K hK r => ?_)
              simp only [x_callF _ bd16, List.map_toArray, List.map_cons, List.map_nil, eX, ↓reduceIte, Nat.reduceEqDiff, Int.reduceToNat]
              refine (readL (hSB.more lhA) hP.sm (by omega) i j).mono ?_
              rintro v H' ⟨rfl, rfl⟩
              try simp only [eX, ↓reduceIte, Nat.reduceEqDiff, Int.reduceToNat]
              refine hK _ _ ?_; clear hK K
              refine OW_mv rfl ?_
              refine OW_opS (fun K hK r => ?_)
              simp only [x_extract, i_extract, List.getElem?_toArray, List.getElem?_cons_zero, List.getElem?_cons_succ, orF_some, eX, ↓reduceIte, Nat.reduceEqDiff, Int.reduceToNat]
              refine hK _ _ ?_; clear hK K
              refine OW_opS (fun K hK r => ?_)
              simp only [x_extract, i_extract, List.getElem?_toArray, List.getElem?_cons_zero, List.getElem?_cons_succ, orF_some, eX, ↓reduceIte, Nat.reduceEqDiff, Int.reduceToNat]
              refine hK _ _ ?_; clear hK K
              refine OW_opS (fun K hK r => ?_)
              simp only [x_alloc, zr38, orF_some, Value.cells, eX, ↓reduceIte, Nat.reduceEqDiff, Int.reduceToNat]
              intro b9 hb9
              try have n9_b3 : b3 ≠ b9 := ne_of_none hbA hb9
              try have n9_b6 : b6 ≠ b9 := ne_of_none hbA hb9
              try have n9_b8 : b8 ≠ b9 := ne_of_none hbA hb9
              have f9_H : H b9 = none := none_of_le lhA hb9
              have f9_H6 : H6 b9 = none := none_of_le lhA hb9
              have f9_R7 : R7 b9 = none := none_of_le lhA hb9
              try simp only [eX, ↓reduceIte, Nat.reduceEqDiff, Int.reduceToNat]
              refine hK _ _ ?_; clear hK K
              refine OW_op rfl (lt_none) (fun K hK r => ?_)
              simp only [x_store, eX, ↓reduceIte, Nat.reduceEqDiff, Int.reduceToNat]
              refine Lt_storeAll sz38 (by simp [Sec.h]) hbA (by simp [Sec.h]) (PlainL.ints _ _) (by decide) ?_
              try simp only [upd_upd]
              refine hK _ _ ?_; clear hK K
              refine OW_as rfl ?_
              refine OW_nil ?_
              try simp only [Ex.thnH, Ex.inBlockH, ↓reduceIte, Nat.reduceEqDiff]
              refine hK17 _ _ ?_; try clear hK17 K17
              refine CW_seq (fun K18 hK18 => ?_)
              refine CW_region ?_
              refine OW_opS (fun K hK r => ?_)
              simp only [x_fieldAddr, fa59_4, add_mk, Nat.reduceAdd, Nat.zero_add, eX, ↓reduceIte, Nat.reduceEqDiff, Int.reduceToNat]
              refine hK _ _ ?_; clear hK K
              refine OW_opS (fun K hK r => ?_)
              simp only [x_load, eX, ↓reduceIte, Nat.reduceEqDiff, Int.reduceToNat]
              refine Lt_loadAt1 Try.underlying4 rfl hbA ldA ?_
              try simp only [eX, ↓reduceIte, Nat.reduceEqDiff, Int.reduceToNat]
              refine hK _ _ ?_; clear hK K
              refine OW_opS (fun K hK r => ?_)
              simp only [x_un, u_not, eX, ↓reduceIte, Nat.reduceEqDiff, Int.reduceToNat]
              refine hK _ _ ?_; clear hK K
              refine OW_nil ?_
              try simp only [Ex.thnH, Ex.inBlockH, ↓reduceIte, Nat.reduceEqDiff]
              refine hK18 _ _ ?_; try clear hK18 K18
              refine CW_cond (fun r => rfl) (fun c45 => ?_) (fun c45 => ?_)
              · first
                | (exfalso; exact cnA c45; done)
                | skip
                  (try simp only [decide_eq_true_eq, decide_eq_false_iff_not, Bool.not_eq_true, Bool.not_eq_false, Bool.and_eq_true, Bool.or_eq_true, Bool.or_eq_false_iff, Bool.not_eq_true, Bool.not_eq_eq_eq_not, Bool.not_true, Bool.not_false] at c45)
                  have hgo : m.gone = false := by simpa using c45
                  refine CW_seq (fun K19 hK19 => ?_)
                  refine CW_region ?_
                  refine OW_opS (fun K hK r => ?_)
                  simp only [x_load, eX, ↓reduceIte, Nat.reduceEqDiff, Int.reduceToNat]
                  first | refine Lt_loadAll Try.underlying59 rfl sz59 hbA bdA ?_ | refine Lt_loadAtA Try.underlying59 rfl sz59 hbA bdA ?_
                  try simp only [List.extract_toArray, List.extract_eq_take_drop, Nat.zero_add, Nat.reduceAdd, Nat.reduceSub, Nat.sub_zero, List.drop_succ_cons, List.drop_zero, List.take_succ_cons, List.take_zero, List.take_nil, List.drop_nil]
                  try simp only [eX, ↓reduceIte, Nat.reduceEqDiff, Int.reduceToNat]
                  refine hK _ _ ?_; clear hK K
                  refine OW_mv rfl ?_
                  refine OW_mv rfl ?_
                  refine OW_opS (fun K hK r => ?_)
                  simp only [x_callF _ bd42, List.map_toArray, List.map_cons, List.map_nil, eX, ↓reduceIte, Nat.reduceEqDiff, Int.reduceToNat]
                  refine (rread_ok _ a cap X (hX.le (Le.trans hQ3 (Le.trans (by rw [hH6]; exact le_upd _ _ _ hb6) (show Le H6 _ from lhA)))) m hm hl5 k (by omega) (hP.rg hm) i j).mono ?_
                  rintro v H' ⟨rfl, rfl⟩
                  rw [(hP.rl.read i j).1]
                  rw [hP.rdE hm (by omega) (by omega) hgo]
                  try simp only [eX, ↓reduceIte, Nat.reduceEqDiff, Int.reduceToNat]
                  refine hK _ _ ?_; clear hK K
                  refine OW_mv rfl ?_
                  refine OW_opS (fun K hK r => ?_)
                  simp only [x_extract, i_extract, List.getElem?_toArray, List.getElem?_cons_zero, List.getElem?_cons_succ, orF_some, eX, ↓reduceIte, Nat.reduceEqDiff, Int.reduceToNat]
                  refine hK _ _ ?_; clear hK K
                  refine OW_opS (fun K hK r => ?_)
                  simp only [x_extract, i_extract, List.getElem?_toArray, List.getElem?_cons_zero, List.getElem?_cons_succ, orF_some, eX, ↓reduceIte, Nat.reduceEqDiff, Int.reduceToNat]
                  refine hK _ _ ?_; clear hK K
                  refine OW_opS (fun K hK r => ?_)
                  simp only [x_alloc, zr38, orF_some, Value.cells, eX, ↓reduceIte, Nat.reduceEqDiff, Int.reduceToNat]
                  intro b11 hb11
                  try have n11_b3 : b3 ≠ b11 := ne_of_none hbA hb11
                  try have n11_b6 : b6 ≠ b11 := ne_of_none hbA hb11
                  try have n11_b8 : b8 ≠ b11 := ne_of_none hbA hb11
                  try have n11_b9 : b9 ≠ b11 := ne_of_none hbA hb11
                  have f11_H : H b11 = none := none_of_le lhA hb11
                  have f11_H6 : H6 b11 = none := none_of_le lhA hb11
                  have f11_R7 : R7 b11 = none := none_of_le lhA hb11
                  try simp only [eX, ↓reduceIte, Nat.reduceEqDiff, Int.reduceToNat]
                  refine hK _ _ ?_; clear hK K
                  refine OW_op rfl (lt_none) (fun K hK r => ?_)
                  simp only [x_store, eX, ↓reduceIte, Nat.reduceEqDiff, Int.reduceToNat]
                  refine Lt_storeAll sz38 (by simp [Sec.h]) hbA (by simp [Sec.h]) (PlainL.ints _ _) (by decide) ?_
                  try simp only [upd_upd]
                  refine hK _ _ ?_; clear hK K
                  refine OW_as rfl ?_
                  refine OW_nil ?_
                  try simp only [Ex.thnH, Ex.inBlockH, ↓reduceIte, Nat.reduceEqDiff]
                  refine hK19 _ _ ?_; try clear hK19 K19
                  refine CW_seq (fun K20 hK20 => ?_)
                  refine CW_region ?_
                  refine OW_mv rfl ?_
                  refine OW_opS (fun K hK r => ?_)
                  simp only [x_bin, g_int, g_bool, g_string, g_pointer, g_slice, g_map, g_func, g_nilFunc, g_err, g_iface, g_nil_iface, g_nil_r, g_nil_l, eX, ↓reduceIte, Nat.reduceEqDiff, Int.reduceToNat]
                  first | rw [b_err_neq _ _ Try.underlying28] | (rw [e_neq _ _ _ _ (by simp), q_equal]; first | rw [q_iface_nil _ _ _ Try.underlying28] | rw [q_nil_iface _ _ _ Try.underlying28] | rw [q_nil_nil _ _ _ Try.underlying28])
                  try simp only [eX, ↓reduceIte, Nat.reduceEqDiff, Int.reduceToNat]
                  refine hK _ _ ?_; clear hK K
                  refine OW_mv rfl ?_
                  (first | refine OW_split (d := 55) rfl (fun g55 => ?_) (fun g55 => ?_) | skip)
                  all_goals try (exfalso; exact cnA g55)
                  all_goals (try simp only [decide_eq_true_eq, decide_eq_false_iff_not, Bool.not_eq_true, Bool.not_eq_false, Bool.and_eq_true, Bool.or_eq_true, Bool.or_eq_false_iff, Bool.not_eq_true, Bool.not_eq_eq_eq_not, Bool.not_true, Bool.not_false] at g55)
                  all_goals
                    try simp only [eX, ↓reduceIte, Nat.reduceEqDiff, Int.reduceToNat]
                    first
                    | refine OW_guardT rfl (lt_some (by decide)) rfl (fun K hK r => ?_)
                      simp only [x_load, eX, ↓reduceIte, Nat.reduceEqDiff, Int.reduceToNat]
                      refine Lt_loadAll Try.underlying38 rfl sz38 hbA (by simp [Sec.h]) ?_
                      refine hK _ _ ?_; clear hK K
                    | refine OW_guardF rfl (lt_some (by decide)) rfl ?_
                      simp only [eX, ↓reduceIte, Nat.reduceEqDiff, Int.reduceToNat]
                    first
                    | refine OW_guardT rfl (lt_some (by decide)) rfl (fun K hK r => ?_)
                      simp only [x_load, eX, ↓reduceIte, Nat.reduceEqDiff, Int.reduceToNat]
                      refine Lt_loadAll Try.underlying38 rfl sz38 hbA (by simp [Sec.h]) ?_
                      refine hK _ _ ?_; clear hK K
                    | refine OW_guardF rfl (lt_some (by decide)) rfl ?_
                      simp only [eX, ↓reduceIte, Nat.reduceEqDiff, Int.reduceToNat]
                    first
                    | refine OW_guardT rfl (lt_some (by decide)) rfl (fun K hK r => ?_)
                      simp only [x_bin, g_agg _ _ _ _ _ _ eqg38, eX, ↓reduceIte, Nat.reduceEqDiff, Int.reduceToNat]
                      rw [e_neq _ _ _ _ (by simp)]
                      rw [q_equal]
                      rw [q_sec]
                      refine hK _ _ ?_; clear hK K
                    | refine OW_guardF rfl (lt_some (by decide)) rfl ?_
                      simp only [eX, ↓reduceIte, Nat.reduceEqDiff, Int.reduceToNat]
                    refine OW_opS (fun K hK r => ?_)
                    simp only [x_pick, l_asBool, HL.ite_bool, if_true, if_false, Bool.false_eq_true, eX, ↓reduceIte, Nat.reduceEqDiff, Int.reduceToNat]
                    refine hK _ _ ?_; clear hK K
                    refine OW_nil ?_
                    try simp only [Ex.thnH, Ex.inBlockH, ↓reduceIte, Nat.reduceEqDiff]
                    refine hK20 _ _ ?_; try clear hK20 K20
                    refine CW_cond (fun r => rfl) (fun c59 => ?_) (fun c59 => ?_)
                    · first
                      | (exfalso; exact cnA c59; done)
                      | skip
                        (try simp only [decide_eq_true_eq, decide_eq_false_iff_not, Bool.not_eq_true, Bool.not_eq_false, Bool.and_eq_true, Bool.or_eq_true, Bool.or_eq_false_iff, Bool.not_eq_true, Bool.not_eq_eq_eq_not, Bool.not_true, Bool.not_false] at c59)
                        refine CW_seq (fun K21 hK21 => ?_)
                        refine CW_region ?_
                        refine OW_as rfl ?_
                        refine OW_nil ?_
                        try simp only [Ex.thnH, Ex.inBlockH, ↓reduceIte, Nat.reduceEqDiff]
                        refine hK21 _ _ ?_; try clear hK21 K21
                        refine CW_ret ?_
                        try simp only [Ex.thnH, Ex.inBlockH, ↓reduceIte, Nat.reduceEqDiff]
                        exfalso; first | omega | (simp_all; done)
                    · first
                      | (exfalso; exact cnA c59; done)
                      | skip
                        (try simp only [decide_eq_true_eq, decide_eq_false_iff_not, Bool.not_eq_true, Bool.not_eq_false, Bool.and_eq_true, Bool.or_eq_true, Bool.or_eq_false_iff, Bool.not_eq_true, Bool.not_eq_eq_eq_not, Bool.not_true, Bool.not_false] at c59)
                        refine CW_skip ?_
                        try simp only [Ex.thnH, Ex.inBlockH, ↓reduceIte, Nat.reduceEqDiff]
                        refine hK12 _ _ ?_; try clear hK12 K12
                        refine CW_region ?_
                        refine OW_opS (fun K hK r => ?_)
                        simp (disch := (first | omega | decide)) only [x_bin, g_int, b_add, wrap_i64, wrap_u64, wrap_u32, wrap_u8, eX, ↓reduceIte, Nat.reduceEqDiff, Int.reduceToNat]
                        refine hK _ _ ?_; clear hK K
                        refine OW_mv rfl ?_
                        refine OW_nil ?_
                        try simp only [Ex.thnH, Ex.inBlockH, ↓reduceIte, Nat.reduceEqDiff]
                        exact ⟨(X.getD i default).d.sec.length - (j + 1), by omega, j + 1, by omega, rfl, by rw [← hH6]; exact lhA, rfl, rfl, rfl, rfl, rfl, rfl, rfl, rfl, rfl, rfl, trivial⟩
              · first
                | (exfalso; exact cnA c45; done)
                | skip
                  (try simp only [decide_eq_true_eq, decide_eq_false_iff_not, Bool.not_eq_true, Bool.not_eq_false, Bool.and_eq_true, Bool.or_eq_true, Bool.or_eq_false_iff, Bool.not_eq_true, Bool.not_eq_eq_eq_not, Bool.not_true, Bool.not_false] at c45)
                  refine CW_skip ?_
                  try simp only [Ex.thnH, Ex.inBlockH, ↓reduceIte, Nat.reduceEqDiff]
                  refine hK12 _ _ ?_; try clear hK12 K12
                  refine CW_region ?_
                  refine OW_opS (fun K hK r => ?_)
                  simp (disch := (first | omega | decide)) only [x_bin, g_int, b_add, wrap_i64, wrap_u64, wrap_u32, wrap_u8, eX, ↓reduceIte, Nat.reduceEqDiff, Int.reduceToNat]
                  refine hK _ _ ?_; clear hK K
                  refine OW_mv rfl ?_
                  refine OW_nil ?_
                  try simp only [Ex.thnH, Ex.inBlockH, ↓reduceIte, Nat.reduceEqDiff]
                  exact ⟨(X.getD i default).d.sec.length - (j + 1), by omega, j + 1, by omega, rfl, by rw [← hH6]; exact lhA, rfl, rfl, rfl, rfl, rfl, rfl, rfl, rfl, rfl, rfl, trivial⟩
      · first
        | (exfalso; exact cnA c26; done)
        | skip
          (try simp only [decide_eq_true_eq, decide_eq_false_iff_not, Bool.not_eq_true, Bool.not_eq_false, Bool.and_eq_true, Bool.or_eq_true, Bool.or_eq_false_iff, Bool.not_eq_true, Bool.not_eq_eq_eq_not, Bool.not_true, Bool.not_false] at c26)
          have hs1 : s.su i (-1) = Sec.zero := by rw [hP.su hm (by omega), if_neg (by omega)]
          have hs2 : s.su i (X.getD i default).d.sec.length = Sec.zero := by rw [hP.su hm (by omega), if_neg (by omega)]
          refine CW_exit ?_
          try simp only [Ex.thnH, Ex.inBlockH, ↓reduceIte, Nat.reduceEqDiff]
          refine hK8 _ _ ?_; try clear hK8 K8
          refine CW_seq (fun K22 hK22 => ?_)
          obtain ⟨R15, hR15⟩ : ∃ R : Hp, R = emptyHp.upd b6 (.cells (X.getD i default).c.toArray 98) := ⟨_, rfl⟩
          refine CW_drawR [0, 0, 6, 0, 1, 0, 0, 0, 0, 0, 6, 0, 1, 0, 0, 0, 0, 0, 0, 5, 0, 0, 0, 0, 0, 0, 0, 1, 0, 2, 0, 0, 0] [0, 1, 3, 4, 2, 5, 6, 7, 8, 9, 11, 12, 10, 13, 14, 15, 16, 17, 18, 19, 20, 21, 22, 23, 24, 25, 26, 27, 28, 29, 30, 31, 32] R15 (by kernel_rfl) (by kernel_rfl) (by subst hR15; exact le_put (le_empty _) kb6) (fun lR15 => ?_)
          apply TW_pure rfl (lt_some (by decide)) rfl
          · intro r
            simp only [x_move, eX, ↓reduceIte, Nat.reduceEqDiff]
            exact ⟨rfl, Le.refl _⟩
          simp only [eX, ↓reduceIte, Nat.reduceEqDiff, Int.reduceToNat]
          apply TW_pure rfl (lt_some (by decide)) rfl
          · intro r
            simp only [x_move, eX, ↓reduceIte, Nat.reduceEqDiff]
            exact ⟨rfl, Le.refl _⟩
          simp only [eX, ↓reduceIte, Nat.reduceEqDiff, Int.reduceToNat]
          apply TW_pure rfl (lt_some (by decide)) rfl
          · intro r
            simp only [x_fieldAddr, fa98_0, add_mk, Nat.reduceAdd, Nat.zero_add, eX, ↓reduceIte, Nat.reduceEqDiff]
            exact ⟨rfl, Le.refl _⟩
          simp only [eX, ↓reduceIte, Nat.reduceEqDiff, Int.reduceToNat]
          apply TW_look rfl (lt_some (by decide)) rfl
          · intro r
            simp only [x_load, eX, ↓reduceIte, Nat.reduceEqDiff]
            refine Lt_loadAt1 Try.underlying95 rfl hbA ldA ?_
            exact ⟨rfl, Le.refl _⟩
          simp only [eX, ↓reduceIte, Nat.reduceEqDiff, Int.reduceToNat]
          refine TW_grow rfl (lt_some (by decide)) rfl (fun K hK r => ?_)
          simp only [x_callF _ bd29, List.map_toArray, List.map_cons, List.map_nil, eX, ↓reduceIte, Nat.reduceEqDiff, Int.reduceToNat]
          refine (sizeL hSB hP.sm i).mono ?_
          rintro v H' ⟨rfl, rfl⟩
          rw [hP.szE hm (by omega)]
          try simp only [eX, ↓reduceIte, Nat.reduceEqDiff, Int.reduceToNat]
          refine hK _ _ leA (fun R63_ hR63_ => ?_); clear hK K
          apply TW_pure rfl (lt_some (by decide)) rfl
          · intro r
            simp only [x_builtin, l_len, List.map_toArray, List.map_cons, List.map_nil, i_len_slice _ _ Try.underlying95, eX, ↓reduceIte, Nat.reduceEqDiff]
            exact ⟨rfl, Le.refl _⟩
          simp only [eX, ↓reduceIte, Nat.reduceEqDiff, Int.reduceToNat]
          apply TW_pure rfl (lt_some (by decide)) rfl
          · intro r
            simp (disch := (first | omega | decide)) only [x_bin, g_int, b_neq, dec_lt_t, dec_lt_f, dec_le_t, dec_le_f, dec_eq_t, dec_eq_f, Bool.not_true, Bool.not_false, eX, ↓reduceIte, Nat.reduceEqDiff]
            exact ⟨rfl, Le.refl _⟩
          simp only [eX, ↓reduceIte, Nat.reduceEqDiff, Int.reduceToNat]
          apply TW_pure rfl (lt_some (by decide)) rfl
          · intro r
            simp only [x_move, eX, ↓reduceIte, Nat.reduceEqDiff]
            exact ⟨rfl, Le.refl _⟩
          simp only [eX, ↓reduceIte, Nat.reduceEqDiff, Int.reduceToNat]
          (first | refine TW_split (d := 68) rfl (fun g68 => ?_) (fun g68 => ?_) | skip)
          all_goals try (exfalso; exact cnA g68)
          all_goals (try simp only [decide_eq_true_eq, decide_eq_false_iff_not, Bool.not_eq_true, Bool.not_eq_false, Bool.and_eq_true, Bool.or_eq_true, Bool.or_eq_false_iff, Bool.not_eq_true, Bool.not_eq_eq_eq_not, Bool.not_true, Bool.not_false] at g68)
          all_goals
            try simp only [eX, ↓reduceIte, Nat.reduceEqDiff, Int.reduceToNat]
            first
            | apply TW_pureG rfl (lt_some (by decide)) rfl rfl
              · intro r
                simp only [x_move, eX, ↓reduceIte, Nat.reduceEqDiff]
                exact ⟨rfl, Le.refl _⟩
              simp only [eX, ↓reduceIte, Nat.reduceEqDiff, Int.reduceToNat]
            | refine TW_guardF rfl (lt_some (by decide)) rfl ?_
              simp only [eX, ↓reduceIte, Nat.reduceEqDiff, Int.reduceToNat]
            first
            | apply TW_pureG rfl (lt_some (by decide)) rfl rfl
              · intro r
                simp only [x_move, eX, ↓reduceIte, Nat.reduceEqDiff]
                exact ⟨rfl, Le.refl _⟩
              simp only [eX, ↓reduceIte, Nat.reduceEqDiff, Int.reduceToNat]
            | refine TW_guardF rfl (lt_some (by decide)) rfl ?_
              simp only [eX, ↓reduceIte, Nat.reduceEqDiff, Int.reduceToNat]
            first
            | apply TW_pureG rfl (lt_some (by decide)) rfl rfl
              · intro r
                simp only [x_fieldAddr, fa98_1, add_mk, Nat.reduceAdd, Nat.zero_add, eX, ↓reduceIte, Nat.reduceEqDiff]
                exact ⟨rfl, Le.refl _⟩
              simp only [eX, ↓reduceIte, Nat.reduceEqDiff, Int.reduceToNat]
            | refine TW_guardF rfl (lt_some (by decide)) rfl ?_
              simp only [eX, ↓reduceIte, Nat.reduceEqDiff, Int.reduceToNat]
            first
            | apply TW_lookG rfl (lt_some (by decide)) rfl rfl
              · intro r
                simp only [x_load, eX, ↓reduceIte, Nat.reduceEqDiff]
                refine Lt_loadAt1 Try.underlying96 rfl hbA ldA ?_
                exact ⟨rfl, Le.refl _⟩
              simp only [eX, ↓reduceIte, Nat.reduceEqDiff, Int.reduceToNat]
            | refine TW_guardF rfl (lt_some (by decide)) rfl ?_
              simp only [eX, ↓reduceIte, Nat.reduceEqDiff, Int.reduceToNat]
            first
            | refine TW_growG rfl (lt_some (by decide)) rfl rfl (fun K hK r => ?_)
              simp only [x_callF _ bd18, List.map_toArray, List.map_cons, List.map_nil, eX, ↓reduceIte, Nat.reduceEqDiff, Int.reduceToNat]
              refine (waitingL hSB hP.sm i).mono ?_
              rintro v H' ⟨rfl, rfl⟩
              rw [hP.waE hm (by omega)]
              try simp only [eX, ↓reduceIte, Nat.reduceEqDiff, Int.reduceToNat]
              refine hK _ _ leA (fun R71_ hR71_ => ?_); clear hK K
            | refine TW_guardF rfl (lt_some (by decide)) rfl ?_
              simp only [eX, ↓reduceIte, Nat.reduceEqDiff, Int.reduceToNat]
            first
            | apply TW_pureG rfl (lt_some (by decide)) rfl rfl
              · intro r
                simp only [x_builtin, l_len, List.map_toArray, List.map_cons, List.map_nil, i_len_slice _ _ Try.underlying96, eX, ↓reduceIte, Nat.reduceEqDiff]
                exact ⟨rfl, Le.refl _⟩
              simp only [eX, ↓reduceIte, Nat.reduceEqDiff, Int.reduceToNat]
            | refine TW_guardF rfl (lt_some (by decide)) rfl ?_
              simp only [eX, ↓reduceIte, Nat.reduceEqDiff, Int.reduceToNat]
            first
            | apply TW_pureG rfl (lt_some (by decide)) rfl rfl
              · intro r
                simp (disch := (first | omega | decide)) only [x_bin, g_int, b_neq, dec_lt_t, dec_lt_f, dec_le_t, dec_le_f, dec_eq_t, dec_eq_f, Bool.not_true, Bool.not_false, eX, ↓reduceIte, Nat.reduceEqDiff]
                exact ⟨rfl, Le.refl _⟩
              simp only [eX, ↓reduceIte, Nat.reduceEqDiff, Int.reduceToNat]
            | refine TW_guardF rfl (lt_some (by decide)) rfl ?_
              simp only [eX, ↓reduceIte, Nat.reduceEqDiff, Int.reduceToNat]
            apply TW_pure rfl (lt_some (by decide)) rfl
            · intro r
              simp only [x_pick, l_asBool, HL.ite_bool, if_true, if_false, Bool.false_eq_true, eX, ↓reduceIte, Nat.reduceEqDiff]
              exact ⟨rfl, Le.refl _⟩
            simp only [eX, ↓reduceIte, Nat.reduceEqDiff, Int.reduceToNat]
            apply TW_pure rfl (lt_some (by decide)) rfl
            · intro r
              simp only [x_move, eX, ↓reduceIte, Nat.reduceEqDiff]
              exact ⟨rfl, Le.refl _⟩
            simp only [eX, ↓reduceIte, Nat.reduceEqDiff, Int.reduceToNat]
            (first | refine TW_split (d := 77) rfl (fun g77 => ?_) (fun g77 => ?_) | skip)
            all_goals try (exfalso; exact cnA g77)
            all_goals (try simp only [decide_eq_true_eq, decide_eq_false_iff_not, Bool.not_eq_true, Bool.not_eq_false, Bool.and_eq_true, Bool.or_eq_true, Bool.or_eq_false_iff, Bool.not_eq_true, Bool.not_eq_eq_eq_not, Bool.not_true, Bool.not_false] at g77)
            all_goals
              try simp only [eX, ↓reduceIte, Nat.reduceEqDiff, Int.reduceToNat]
              first
              | apply TW_pureG rfl (lt_some (by decide)) rfl rfl
                · intro r
                  simp only [x_move, eX, ↓reduceIte, Nat.reduceEqDiff]
                  exact ⟨rfl, Le.refl _⟩
                simp only [eX, ↓reduceIte, Nat.reduceEqDiff, Int.reduceToNat]
              | refine TW_guardF rfl (lt_some (by decide)) rfl ?_
                simp only [eX, ↓reduceIte, Nat.reduceEqDiff, Int.reduceToNat]
              first
              | apply TW_pureG rfl (lt_some (by decide)) rfl rfl
                · intro r
                  simp only [x_move, eX, ↓reduceIte, Nat.reduceEqDiff]
                  exact ⟨rfl, Le.refl _⟩
                simp only [eX, ↓reduceIte, Nat.reduceEqDiff, Int.reduceToNat]
              | refine TW_guardF rfl (lt_some (by decide)) rfl ?_
                simp only [eX, ↓reduceIte, Nat.reduceEqDiff, Int.reduceToNat]
              first
              | refine TW_fenceG rfl (lt_some (by decide)) rfl rfl (fun K hK r => ?_)
                simp only [x_callF _ bd17, List.map_toArray, List.map_cons, List.map_nil, eX, ↓reduceIte, Nat.reduceEqDiff, Int.reduceToNat]
                refine (sureL hSB hP.sm i (-1)).mono ?_
                rintro v H' ⟨rfl, rfl⟩
                rw [hs1]
                try simp only [eX, ↓reduceIte, Nat.reduceEqDiff, Int.reduceToNat]
                refine hK _ _ (fun R80_ hR80_ => ?_); clear hK K
              | refine TW_guardF rfl (lt_some (by decide)) rfl ?_
                simp only [eX, ↓reduceIte, Nat.reduceEqDiff, Int.reduceToNat]
              first
              | apply TW_pureG rfl (lt_some (by decide)) rfl rfl
                · intro r
                  simp only [x_build, List.map_toArray, List.map_cons, List.map_nil, eX, ↓reduceIte, Nat.reduceEqDiff]
                  rw [l_buildArr Try.underlying38 sz5 zr38]
                  simp only [Value.cells]
                  simp only [fill_nil, orF_some, List.setIfInBounds_toArray, List.set_cons_zero, List.set_cons_succ]
                  exact ⟨rfl, Le.refl _⟩
                simp only [eX, ↓reduceIte, Nat.reduceEqDiff, Int.reduceToNat]
              | refine TW_guardF rfl (lt_some (by decide)) rfl ?_
                simp only [eX, ↓reduceIte, Nat.reduceEqDiff, Int.reduceToNat]
              first
              | apply TW_pureG rfl (lt_some (by decide)) rfl rfl
                · intro r
                  simp only [x_bin, g_agg _ _ _ _ _ _ eqg38, eX, ↓reduceIte, Nat.reduceEqDiff]
                  rw [e_neq _ _ _ _ (by simp)]
                  rw [q_equal]
                  rw [show (Array.replicate 64 (Value.int .u8 0)) = Sec.zero.c.toArray from rfl]
                  rw [q_sec]
                  exact ⟨rfl, Le.refl _⟩
                simp only [eX, ↓reduceIte, Nat.reduceEqDiff, Int.reduceToNat]
              | refine TW_guardF rfl (lt_some (by decide)) rfl ?_
                simp only [eX, ↓reduceIte, Nat.reduceEqDiff, Int.reduceToNat]
              apply TW_pure rfl (lt_some (by decide)) rfl
              · intro r
                simp only [x_pick, l_asBool, HL.ite_bool, if_true, if_false, Bool.false_eq_true, eX, ↓reduceIte, Nat.reduceEqDiff]
                exact ⟨rfl, Le.refl _⟩
              simp only [eX, ↓reduceIte, Nat.reduceEqDiff, Int.reduceToNat]
              apply TW_pure rfl (lt_some (by decide)) rfl
              · intro r
                simp only [x_move, eX, ↓reduceIte, Nat.reduceEqDiff]
                exact ⟨rfl, Le.refl _⟩
              simp only [eX, ↓reduceIte, Nat.reduceEqDiff, Int.reduceToNat]
              (first | refine TW_split (d := 84) rfl (fun g84 => ?_) (fun g84 => ?_) | skip)
              all_goals try (exfalso; exact cnA g84)
              all_goals (try simp only [decide_eq_true_eq, decide_eq_false_iff_not, Bool.not_eq_true, Bool.not_eq_false, Bool.and_eq_true, Bool.or_eq_true, Bool.or_eq_false_iff, Bool.not_eq_true, Bool.not_eq_eq_eq_not, Bool.not_true, Bool.not_false] at g84)
              all_goals
                try simp only [eX, ↓reduceIte, Nat.reduceEqDiff, Int.reduceToNat]
                first
                | apply TW_pureG rfl (lt_some (by decide)) rfl rfl
                  · intro r
                    simp only [x_move, eX, ↓reduceIte, Nat.reduceEqDiff]
                    exact ⟨rfl, Le.refl _⟩
                  simp only [eX, ↓reduceIte, Nat.reduceEqDiff, Int.reduceToNat]
                | refine TW_guardF rfl (lt_some (by decide)) rfl ?_
                  simp only [eX, ↓reduceIte, Nat.reduceEqDiff, Int.reduceToNat]
                first
                | apply TW_pureG rfl (lt_some (by decide)) rfl rfl
                  · intro r
                    simp only [x_move, eX, ↓reduceIte, Nat.reduceEqDiff]
                    exact ⟨rfl, Le.refl _⟩
                  simp only [eX, ↓reduceIte, Nat.reduceEqDiff, Int.reduceToNat]
                | refine TW_guardF rfl (lt_some (by decide)) rfl ?_
                  simp only [eX, ↓reduceIte, Nat.reduceEqDiff, Int.reduceToNat]
                first
                | apply TW_pureG rfl (lt_some (by decide)) rfl rfl
                  · intro r
                    simp only [x_fieldAddr, fa98_0, add_mk, Nat.reduceAdd, Nat.zero_add, eX, ↓reduceIte, Nat.reduceEqDiff]
                    exact ⟨rfl, Le.refl _⟩
                  simp only [eX, ↓reduceIte, Nat.reduceEqDiff, Int.reduceToNat]
                | refine TW_guardF rfl (lt_some (by decide)) rfl ?_
                  simp only [eX, ↓reduceIte, Nat.reduceEqDiff, Int.reduceToNat]
                first
                | apply TW_lookG rfl (lt_some (by decide)) rfl rfl
                  · intro r
                    simp only [x_load, eX, ↓reduceIte, Nat.reduceEqDiff]
                    refine Lt_loadAt1 Try.underlying95 rfl hbA ldA ?_
                    exact ⟨rfl, Le.refl _⟩
                  simp only [eX, ↓reduceIte, Nat.reduceEqDiff, Int.reduceToNat]
                | refine TW_guardF rfl (lt_some (by decide)) rfl ?_
                  simp only [eX, ↓reduceIte, Nat.reduceEqDiff, Int.reduceToNat]
                first
                | apply TW_pureG rfl (lt_some (by decide)) rfl rfl
                  · intro r
                    simp only [x_builtin, l_len, List.map_toArray, List.map_cons, List.map_nil, i_len_slice _ _ Try.underlying95, eX, ↓reduceIte, Nat.reduceEqDiff]
                    exact ⟨rfl, Le.refl _⟩
                  simp only [eX, ↓reduceIte, Nat.reduceEqDiff, Int.reduceToNat]
                | refine TW_guardF rfl (lt_some (by decide)) rfl ?_
                  simp only [eX, ↓reduceIte, Nat.reduceEqDiff, Int.reduceToNat]
                first
                | refine TW_chainG rfl (lt_some (by decide)) rfl rfl (fun K hK r => ?_)
                  simp only [x_callF _ bd17, List.map_toArray, List.map_cons, List.map_nil, eX, ↓reduceIte, Nat.reduceEqDiff, Int.reduceToNat]
                  refine (sureL hSB hP.sm i (X.getD i default).d.sec.length).mono ?_
                  rintro v H' ⟨rfl, rfl⟩
                  rw [hs2]
                  try simp only [eX, ↓reduceIte, Nat.reduceEqDiff, Int.reduceToNat]
                  refine hK _ _ leA ?_; clear hK K
                | refine TW_guardF rfl (lt_some (by decide)) rfl ?_
                  simp only [eX, ↓reduceIte, Nat.reduceEqDiff, Int.reduceToNat]
                first
                | apply TW_pureG rfl (lt_some (by decide)) rfl rfl
                  · intro r
                    simp only [x_build, List.map_toArray, List.map_cons, List.map_nil, eX, ↓reduceIte, Nat.reduceEqDiff]
                    rw [l_buildArr Try.underlying38 sz5 zr38]
                    simp only [Value.cells]
                    simp only [fill_nil, orF_some, List.setIfInBounds_toArray, List.set_cons_zero, List.set_cons_succ]
                    exact ⟨rfl, Le.refl _⟩
                  simp only [eX, ↓reduceIte, Nat.reduceEqDiff, Int.reduceToNat]
                | refine TW_guardF rfl (lt_some (by decide)) rfl ?_
                  simp only [eX, ↓reduceIte, Nat.reduceEqDiff, Int.reduceToNat]
                first
                | apply TW_pureG rfl (lt_some (by decide)) rfl rfl
                  · intro r
                    simp only [x_bin, g_agg _ _ _ _ _ _ eqg38, eX, ↓reduceIte, Nat.reduceEqDiff]
                    rw [e_neq _ _ _ _ (by simp)]
                    rw [q_equal]
                    rw [show (Array.replicate 64 (Value.int .u8 0)) = Sec.zero.c.toArray from rfl]
                    rw [q_sec]
                    exact ⟨rfl, Le.refl _⟩
                  simp only [eX, ↓reduceIte, Nat.reduceEqDiff, Int.reduceToNat]
                | refine TW_guardF rfl (lt_some (by decide)) rfl ?_
                  simp only [eX, ↓reduceIte, Nat.reduceEqDiff, Int.reduceToNat]
                apply TW_pure rfl (lt_some (by decide)) rfl
                · intro r
                  simp only [x_pick, l_asBool, HL.ite_bool, if_true, if_false, Bool.false_eq_true, eX, ↓reduceIte, Nat.reduceEqDiff]
                  exact ⟨rfl, Le.refl _⟩
                simp only [eX, ↓reduceIte, Nat.reduceEqDiff, Int.reduceToNat]
                refine TW_nil ?_
                try simp only [Ex.thnH, Ex.inBlockH, ↓reduceIte, Nat.reduceEqDiff]
                refine hK22 _ _ ?_; try clear hK22 K22
                refine CW_cond (fun r => rfl) (fun c93 => ?_) (fun c93 => ?_)
                · first
                  | (exfalso; exact cnA c93; done)
                  | skip
                    (try simp only [decide_eq_true_eq, decide_eq_false_iff_not, Bool.not_eq_true, Bool.not_eq_false, Bool.and_eq_true, Bool.or_eq_true, Bool.or_eq_false_iff, Bool.not_eq_true, Bool.not_eq_eq_eq_not, Bool.not_true, Bool.not_false] at c93)
                    refine CW_seq (fun K23 hK23 => ?_)
                    refine CW_region ?_
                    refine OW_as rfl ?_
                    refine OW_nil ?_
                    try simp only [Ex.thnH, Ex.inBlockH, ↓reduceIte, Nat.reduceEqDiff]
                    refine hK23 _ _ ?_; try clear hK23 K23
                    refine CW_ret ?_
                    try simp only [Ex.thnH, Ex.inBlockH, ↓reduceIte, Nat.reduceEqDiff]
                    exfalso; first | omega | (simp_all; done)
                · first
                  | (exfalso; exact cnA c93; done)
                  | skip
                    (try simp only [decide_eq_true_eq, decide_eq_false_iff_not, Bool.not_eq_true, Bool.not_eq_false, Bool.and_eq_true, Bool.or_eq_true, Bool.or_eq_false_iff, Bool.not_eq_true, Bool.not_eq_eq_eq_not, Bool.not_true, Bool.not_false] at c93)
                    refine CW_skip ?_
                    try simp only [Ex.thnH, Ex.inBlockH, ↓reduceIte, Nat.reduceEqDiff]
                    refine hK6 _ _ ?_; try clear hK6 K6
                    refine CW_region ?_
                    refine OW_opS (fun K hK r => ?_)
                    simp (disch := (first | omega | decide)) only [x_bin, g_int, b_add, wrap_i64, wrap_u64, wrap_u32, wrap_u8, eX, ↓reduceIte, Nat.reduceEqDiff, Int.reduceToNat]
                    refine hK _ _ ?_; clear hK K
                    refine OW_mv rfl ?_
                    refine OW_nil ?_
                    try simp only [Ex.thnH, Ex.inBlockH, ↓reduceIte, Nat.reduceEqDiff]
                    exact ⟨X.length - (i + 1), by omega, i + 1, by omega, rfl, Le.trans hl3 (Le.trans (by rw [hH6]; exact le_upd _ _ _ hb6) hl6), rfl, rfl, rfl, rfl, rfl, trivial⟩
  · first
    | (exfalso; exact cnA c18; done)
    | skip
      (try simp only [decide_eq_true_eq, decide_eq_false_iff_not, Bool.not_eq_true, Bool.not_eq_false, Bool.and_eq_true, Bool.or_eq_true, Bool.or_eq_false_iff, Bool.not_eq_true, Bool.not_eq_eq_eq_not, Bool.not_true, Bool.not_false] at c18)
      have hin : i = X.length := by omega
      have ho1 := hP.out hm (-1) 0 (by omega)
      have ho2 := hP.out hm (X.length : Int) 0 (by omega)
      refine CW_exit ?_
      try simp only [Ex.thnH, Ex.inBlockH, ↓reduceIte, Nat.reduceEqDiff]
      refine hK2 _ _ ?_; try clear hK2 K2
      refine CW_seq (fun K24 hK24 => ?_)
      refine CW_region ?_
      refine OW_opS (fun K hK r => ?_)
      simp only [x_fieldAddr, fa59_0, add_mk, Nat.reduceAdd, Nat.zero_add, eX, ↓reduceIte, Nat.reduceEqDiff, Int.reduceToNat]
      refine hK _ _ ?_; clear hK K
      refine OW_opS (fun K hK r => ?_)
      simp only [x_load, eX, ↓reduceIte, Nat.reduceEqDiff, Int.reduceToNat]
      refine Lt_loadAt1 Try.underlying57 rfl hbA ldA ?_
      try simp only [eX, ↓reduceIte, Nat.reduceEqDiff, Int.reduceToNat]
      refine hK _ _ ?_; clear hK K
      refine OW_opS (fun K hK r => ?_)
      simp only [x_builtin, l_len, List.map_toArray, List.map_cons, List.map_nil, i_len_slice _ _ Try.underlying57, eX, ↓reduceIte, Nat.reduceEqDiff, Int.reduceToNat]
      refine hK _ _ ?_; clear hK K
      refine OW_as rfl ?_
      refine OW_nil ?_
      try simp only [Ex.thnH, Ex.inBlockH, ↓reduceIte, Nat.reduceEqDiff]
      refine hK24 _ _ ?_; try clear hK24 K24
      refine CW_seq (fun K25 hK25 => ?_)
      obtain ⟨R19, hR19⟩ : ∃ R : Hp, R = emptyHp.upd b3 (.cells (m.c (.slice a X.length cap)).toArray 59) := ⟨_, rfl⟩
      refine CW_drawR [0, 5, 0, 0, 0, 0, 6, 0, 1, 0, 0, 0, 0, 2, 0, 1, 0, 0, 0, 0, 2, 0, 0, 0, 0, 0, 2, 0, 0, 0, 0, 0, 2, 0, 0, 0, 0, 0, 2, 0, 0, 0, 0] [0, 1, 2, 3, 4, 5, 7, 8, 6, 9, 10, 11, 12, 13, 14, 15, 16, 17, 18, 19, 20, 21, 22, 23, 24, 25, 26, 27, 28, 29, 30, 31, 32, 33, 34, 35, 36, 37, 38, 39, 40, 41, 42] R19 (by kernel_rfl) (by kernel_rfl) (by subst hR19; exact le_put (le_empty _) kb3) (fun lR19 => ?_)
      apply TW_pure rfl (lt_some (by decide)) rfl
      · intro r
        simp only [x_move, eX, ↓reduceIte, Nat.reduceEqDiff]
        exact ⟨rfl, Le.refl _⟩
      simp only [eX, ↓reduceIte, Nat.reduceEqDiff, Int.reduceToNat]
      refine TW_fence rfl (lt_some (by decide)) rfl (fun K hK r => ?_)
      simp only [x_callF _ bd24, List.map_toArray, List.map_cons, List.map_nil, eX, ↓reduceIte, Nat.reduceEqDiff, Int.reduceToNat]
      refine (manyL hSA).mono ?_
      rintro v H' ⟨rfl, rfl⟩
      rw [hsl]
      try simp only [eX, ↓reduceIte, Nat.reduceEqDiff, Int.reduceToNat]
      refine hK _ _ (fun R99_ hR99_ => ?_); clear hK K
      apply TW_pure rfl (lt_some (by decide)) rfl
      · intro r
        simp only [x_move, eX, ↓reduceIte, Nat.reduceEqDiff]
        exact ⟨rfl, Le.refl _⟩
      simp only [eX, ↓reduceIte, Nat.reduceEqDiff, Int.reduceToNat]
      apply TW_pure rfl (lt_some (by decide)) rfl
      · intro r
        simp (disch := (first | omega | decide)) only [x_bin, g_int, b_eql, dec_lt_t, dec_lt_f, dec_le_t, dec_le_f, dec_eq_t, dec_eq_f, Bool.not_true, Bool.not_false, eX, ↓reduceIte, Nat.reduceEqDiff]
        exact ⟨rfl, Le.refl _⟩
      simp only [eX, ↓reduceIte, Nat.reduceEqDiff, Int.reduceToNat]
      apply TW_pure rfl (lt_some (by decide)) rfl
      · intro r
        simp only [x_move, eX, ↓reduceIte, Nat.reduceEqDiff]
        exact ⟨rfl, Le.refl _⟩
      simp only [eX, ↓reduceIte, Nat.reduceEqDiff, Int.reduceToNat]
      (first | refine TW_split (d := 102) rfl (fun g102 => ?_) (fun g102 => ?_) | skip)
      all_goals try (exfalso; exact cnA g102)
      all_goals (try simp only [decide_eq_true_eq, decide_eq_false_iff_not, Bool.not_eq_true, Bool.not_eq_false, Bool.and_eq_true, Bool.or_eq_true, Bool.or_eq_false_iff, Bool.not_eq_true, Bool.not_eq_eq_eq_not, Bool.not_true, Bool.not_false] at g102)
      all_goals
        try simp only [eX, ↓reduceIte, Nat.reduceEqDiff, Int.reduceToNat]
        first
        | apply TW_pureG rfl (lt_some (by decide)) rfl rfl
          · intro r
            simp only [x_move, eX, ↓reduceIte, Nat.reduceEqDiff]
            exact ⟨rfl, Le.refl _⟩
          simp only [eX, ↓reduceIte, Nat.reduceEqDiff, Int.reduceToNat]
        | refine TW_guardF rfl (lt_some (by decide)) rfl ?_
          simp only [eX, ↓reduceIte, Nat.reduceEqDiff, Int.reduceToNat]
        first
        | apply TW_pureG rfl (lt_some (by decide)) rfl rfl
          · intro r
            simp only [x_fieldAddr, fa59_1, add_mk, Nat.reduceAdd, Nat.zero_add, eX, ↓reduceIte, Nat.reduceEqDiff]
            exact ⟨rfl, Le.refl _⟩
          simp only [eX, ↓reduceIte, Nat.reduceEqDiff, Int.reduceToNat]
        | refine TW_guardF rfl (lt_some (by decide)) rfl ?_
          simp only [eX, ↓reduceIte, Nat.reduceEqDiff, Int.reduceToNat]
        first
        | apply TW_lookG rfl (lt_some (by decide)) rfl rfl
          · intro r
            simp only [x_load, eX, ↓reduceIte, Nat.reduceEqDiff]
            refine Lt_loadAt1 Try.underlying3 rfl hbA ldA ?_
            exact ⟨rfl, Le.refl _⟩
          simp only [eX, ↓reduceIte, Nat.reduceEqDiff, Int.reduceToNat]
        | refine TW_guardF rfl (lt_some (by decide)) rfl ?_
          simp only [eX, ↓reduceIte, Nat.reduceEqDiff, Int.reduceToNat]
        first
        | refine TW_growG rfl (lt_some (by decide)) rfl rfl (fun K hK r => ?_)
          simp only [x_callF _ bd21, List.map_toArray, List.map_cons, List.map_nil, eX, ↓reduceIte, Nat.reduceEqDiff, Int.reduceToNat]
          refine (stepsL hSA).mono ?_
          rintro v H' ⟨rfl, rfl⟩
          rw [hP.rl.st]
          try simp only [eX, ↓reduceIte, Nat.reduceEqDiff, Int.reduceToNat]
          refine hK _ _ leA (fun R104_ hR104_ => ?_); clear hK K
        | refine TW_guardF rfl (lt_some (by decide)) rfl ?_
          simp only [eX, ↓reduceIte, Nat.reduceEqDiff, Int.reduceToNat]
        first
        | apply TW_pureG rfl (lt_some (by decide)) rfl rfl
          · intro r
            simp (disch := (first | omega | decide)) only [x_bin, g_int, b_eql, dec_lt_t, dec_lt_f, dec_le_t, dec_le_f, dec_eq_t, dec_eq_f, Bool.not_true, Bool.not_false, eX, ↓reduceIte, Nat.reduceEqDiff]
            exact ⟨rfl, Le.refl _⟩
          simp only [eX, ↓reduceIte, Nat.reduceEqDiff, Int.reduceToNat]
        | refine TW_guardF rfl (lt_some (by decide)) rfl ?_
          simp only [eX, ↓reduceIte, Nat.reduceEqDiff, Int.reduceToNat]
        apply TW_pure rfl (lt_some (by decide)) rfl
        · intro r
          simp only [x_pick, l_asBool, HL.ite_bool, if_true, if_false, Bool.false_eq_true, eX, ↓reduceIte, Nat.reduceEqDiff]
          exact ⟨rfl, Le.refl _⟩
        simp only [eX, ↓reduceIte, Nat.reduceEqDiff, Int.reduceToNat]
        apply TW_pure rfl (lt_some (by decide)) rfl
        · intro r
          simp only [x_move, eX, ↓reduceIte, Nat.reduceEqDiff]
          exact ⟨rfl, Le.refl _⟩
        simp only [eX, ↓reduceIte, Nat.reduceEqDiff, Int.reduceToNat]
        (first | refine TW_split (d := 109) rfl (fun g109 => ?_) (fun g109 => ?_) | skip)
        all_goals try (exfalso; exact cnA g109)
        all_goals (try simp only [decide_eq_true_eq, decide_eq_false_iff_not, Bool.not_eq_true, Bool.not_eq_false, Bool.and_eq_true, Bool.or_eq_true, Bool.or_eq_false_iff, Bool.not_eq_true, Bool.not_eq_eq_eq_not, Bool.not_true, Bool.not_false] at g109)
        all_goals
          try simp only [eX, ↓reduceIte, Nat.reduceEqDiff, Int.reduceToNat]
          first
          | apply TW_pureG rfl (lt_some (by decide)) rfl rfl
            · intro r
              simp only [x_move, eX, ↓reduceIte, Nat.reduceEqDiff]
              exact ⟨rfl, Le.refl _⟩
            simp only [eX, ↓reduceIte, Nat.reduceEqDiff, Int.reduceToNat]
          | refine TW_guardF rfl (lt_some (by decide)) rfl ?_
            simp only [eX, ↓reduceIte, Nat.reduceEqDiff, Int.reduceToNat]
          first
          | refine TW_chainG rfl (lt_some (by decide)) rfl rfl (fun K hK r => ?_)
            simp only [x_callF _ bd19, List.map_toArray, List.map_cons, List.map_nil, eX, ↓reduceIte, Nat.reduceEqDiff, Int.reduceToNat]
            refine (downL hSA).mono ?_
            rintro v H' ⟨rfl, rfl⟩
            rw [hP.rl.go]
            try simp only [eX, ↓reduceIte, Nat.reduceEqDiff, Int.reduceToNat]
            refine hK _ _ leA ?_; clear hK K
          | refine TW_guardF rfl (lt_some (by decide)) rfl ?_
            simp only [eX, ↓reduceIte, Nat.reduceEqDiff, Int.reduceToNat]
          first
          | apply TW_pureG rfl (lt_some (by decide)) rfl rfl
            · intro r
              simp only [x_fieldAddr, fa59_4, add_mk, Nat.reduceAdd, Nat.zero_add, eX, ↓reduceIte, Nat.reduceEqDiff]
              exact ⟨rfl, Le.refl _⟩
            simp only [eX, ↓reduceIte, Nat.reduceEqDiff, Int.reduceToNat]
          | refine TW_guardF rfl (lt_some (by decide)) rfl ?_
            simp only [eX, ↓reduceIte, Nat.reduceEqDiff, Int.reduceToNat]
          first
          | apply TW_lookG rfl (lt_some (by decide)) rfl rfl
            · intro r
              simp only [x_load, eX, ↓reduceIte, Nat.reduceEqDiff]
              refine Lt_loadAt1 Try.underlying4 rfl hbA ldA ?_
              exact ⟨rfl, Le.refl _⟩
            simp only [eX, ↓reduceIte, Nat.reduceEqDiff, Int.reduceToNat]
          | refine TW_guardF rfl (lt_some (by decide)) rfl ?_
            simp only [eX, ↓reduceIte, Nat.reduceEqDiff, Int.reduceToNat]
          first
          | apply TW_pureG rfl (lt_some (by decide)) rfl rfl
            · intro r
              simp only [x_bin, g_int, g_bool, g_string, g_pointer, g_slice, g_map, g_func, g_nilFunc, g_iface, g_nil_iface, g_nil_r, g_nil_l, eX, ↓reduceIte, Nat.reduceEqDiff]
              rw [e_eql _ _ _ _ (by simp)]
              rw [q_equal, q_bool _ _ Try.underlying4]
              exact ⟨rfl, Le.refl _⟩
            simp only [eX, ↓reduceIte, Nat.reduceEqDiff, Int.reduceToNat]
          | refine TW_guardF rfl (lt_some (by decide)) rfl ?_
            simp only [eX, ↓reduceIte, Nat.reduceEqDiff, Int.reduceToNat]
          apply TW_pure rfl (lt_some (by decide)) rfl
          · intro r
            simp only [x_pick, l_asBool, HL.ite_bool, if_true, if_false, Bool.false_eq_true, eX, ↓reduceIte, Nat.reduceEqDiff]
            exact ⟨rfl, Le.refl _⟩
          simp only [eX, ↓reduceIte, Nat.reduceEqDiff, Int.reduceToNat]
          apply TW_pure rfl (lt_some (by decide)) rfl
          · intro r
            simp only [x_move, eX, ↓reduceIte, Nat.reduceEqDiff]
            exact ⟨rfl, Le.refl _⟩
          simp only [eX, ↓reduceIte, Nat.reduceEqDiff, Int.reduceToNat]
          (first | refine TW_split (d := 116) rfl (fun g116 => ?_) (fun g116 => ?_) | skip)
          all_goals try (exfalso; exact cnA g116)
          all_goals (try simp only [decide_eq_true_eq, decide_eq_false_iff_not, Bool.not_eq_true, Bool.not_eq_false, Bool.and_eq_true, Bool.or_eq_true, Bool.or_eq_false_iff, Bool.not_eq_true, Bool.not_eq_eq_eq_not, Bool.not_true, Bool.not_false] at g116)
          all_goals
            try simp only [eX, ↓reduceIte, Nat.reduceEqDiff, Int.reduceToNat]
            first
            | apply TW_pureG rfl (lt_some (by decide)) rfl rfl
              · intro r
                simp only [x_move, eX, ↓reduceIte, Nat.reduceEqDiff]
                exact ⟨rfl, Le.refl _⟩
              simp only [eX, ↓reduceIte, Nat.reduceEqDiff, Int.reduceToNat]
            | refine TW_guardF rfl (lt_some (by decide)) rfl ?_
              simp only [eX, ↓reduceIte, Nat.reduceEqDiff, Int.reduceToNat]
            first
            | refine TW_chainG rfl (lt_some (by decide)) rfl rfl (fun K hK r => ?_)
              simp only [x_callF _ bd29, List.map_toArray, List.map_cons, List.map_nil, eX, ↓reduceIte, Nat.reduceEqDiff, Int.reduceToNat]
              refine (sizeL hSA hP.sm (-1)).mono ?_
              rintro v H' ⟨rfl, rfl⟩
              rw [ho1.2.1]
              try simp only [eX, ↓reduceIte, Nat.reduceEqDiff, Int.reduceToNat]
              refine hK _ _ leA ?_; clear hK K
            | refine TW_guardF rfl (lt_some (by decide)) rfl ?_
              simp only [eX, ↓reduceIte, Nat.reduceEqDiff, Int.reduceToNat]
            first
            | apply TW_pureG rfl (lt_some (by decide)) rfl rfl
              · intro r
                simp (disch := (first | omega | decide)) only [x_bin, g_int, b_eql, dec_lt_t, dec_lt_f, dec_le_t, dec_le_f, dec_eq_t, dec_eq_f, Bool.not_true, Bool.not_false, eX, ↓reduceIte, Nat.reduceEqDiff]
                exact ⟨rfl, Le.refl _⟩
              simp only [eX, ↓reduceIte, Nat.reduceEqDiff, Int.reduceToNat]
            | refine TW_guardF rfl (lt_some (by decide)) rfl ?_
              simp only [eX, ↓reduceIte, Nat.reduceEqDiff, Int.reduceToNat]
            apply TW_pure rfl (lt_some (by decide)) rfl
            · intro r
              simp only [x_pick, l_asBool, HL.ite_bool, if_true, if_false, Bool.false_eq_true, eX, ↓reduceIte, Nat.reduceEqDiff]
              exact ⟨rfl, Le.refl _⟩
            simp only [eX, ↓reduceIte, Nat.reduceEqDiff, Int.reduceToNat]
            apply TW_pure rfl (lt_some (by decide)) rfl
            · intro r
              simp only [x_move, eX, ↓reduceIte, Nat.reduceEqDiff]
              exact ⟨rfl, Le.refl _⟩
            simp only [eX, ↓reduceIte, Nat.reduceEqDiff, Int.reduceToNat]
            (first | refine TW_split (d := 121) rfl (fun g121 => ?_) (fun g121 => ?_) | skip)
            all_goals try (exfalso; exact cnA g121)
            all_goals (try simp only [decide_eq_true_eq, decide_eq_false_iff_not, Bool.not_eq_true, Bool.not_eq_false, Bool.and_eq_true, Bool.or_eq_true, Bool.or_eq_false_iff, Bool.not_eq_true, Bool.not_eq_eq_eq_not, Bool.not_true, Bool.not_false] at g121)
            all_goals
              try simp only [eX, ↓reduceIte, Nat.reduceEqDiff, Int.reduceToNat]
              first
              | apply TW_pureG rfl (lt_some (by decide)) rfl rfl
                · intro r
                  simp only [x_move, eX, ↓reduceIte, Nat.reduceEqDiff]
                  exact ⟨rfl, Le.refl _⟩
                simp only [eX, ↓reduceIte, Nat.reduceEqDiff, Int.reduceToNat]
              | refine TW_guardF rfl (lt_some (by decide)) rfl ?_
                simp only [eX, ↓reduceIte, Nat.reduceEqDiff, Int.reduceToNat]
              first
              | apply TW_pureG rfl (lt_some (by decide)) rfl rfl
                · intro r
                  simp only [x_move, eX, ↓reduceIte, Nat.reduceEqDiff]
                  exact ⟨rfl, Le.refl _⟩
                simp only [eX, ↓reduceIte, Nat.reduceEqDiff, Int.reduceToNat]
              | refine TW_guardF rfl (lt_some (by decide)) rfl ?_
                simp only [eX, ↓reduceIte, Nat.reduceEqDiff, Int.reduceToNat]
              first
              | refine TW_chainG rfl (lt_some (by decide)) rfl rfl (fun K hK r => ?_)
                simp only [x_callF _ bd29, List.map_toArray, List.map_cons, List.map_nil, eX, ↓reduceIte, Nat.reduceEqDiff, Int.reduceToNat]
                refine (sizeL hSA hP.sm X.length).mono ?_
                rintro v H' ⟨rfl, rfl⟩
                rw [ho2.2.1]
                try simp only [eX, ↓reduceIte, Nat.reduceEqDiff, Int.reduceToNat]
                refine hK _ _ leA ?_; clear hK K
              | refine TW_guardF rfl (lt_some (by decide)) rfl ?_
                simp only [eX, ↓reduceIte, Nat.reduceEqDiff, Int.reduceToNat]
              first
              | apply TW_pureG rfl (lt_some (by decide)) rfl rfl
                · intro r
                  simp (disch := (first | omega | decide)) only [x_bin, g_int, b_eql, dec_lt_t, dec_lt_f, dec_le_t, dec_le_f, dec_eq_t, dec_eq_f, Bool.not_true, Bool.not_false, eX, ↓reduceIte, Nat.reduceEqDiff]
                  exact ⟨rfl, Le.refl _⟩
                simp only [eX, ↓reduceIte, Nat.reduceEqDiff, Int.reduceToNat]
              | refine TW_guardF rfl (lt_some (by decide)) rfl ?_
                simp only [eX, ↓reduceIte, Nat.reduceEqDiff, Int.reduceToNat]
              apply TW_pure rfl (lt_some (by decide)) rfl
              · intro r
                simp only [x_pick, l_asBool, HL.ite_bool, if_true, if_false, Bool.false_eq_true, eX, ↓reduceIte, Nat.reduceEqDiff]
                exact ⟨rfl, Le.refl _⟩
              simp only [eX, ↓reduceIte, Nat.reduceEqDiff, Int.reduceToNat]
              apply TW_pure rfl (lt_some (by decide)) rfl
              · intro r
                simp only [x_move, eX, ↓reduceIte, Nat.reduceEqDiff]
                exact ⟨rfl, Le.refl _⟩
              simp only [eX, ↓reduceIte, Nat.reduceEqDiff, Int.reduceToNat]
              (first | refine TW_split (d := 127) rfl (fun g127 => ?_) (fun g127 => ?_) | skip)
              all_goals try (exfalso; exact cnA g127)
              all_goals (try simp only [decide_eq_true_eq, decide_eq_false_iff_not, Bool.not_eq_true, Bool.not_eq_false, Bool.and_eq_true, Bool.or_eq_true, Bool.or_eq_false_iff, Bool.not_eq_true, Bool.not_eq_eq_eq_not, Bool.not_true, Bool.not_false] at g127)
              all_goals
                try simp only [eX, ↓reduceIte, Nat.reduceEqDiff, Int.reduceToNat]
                first
                | apply TW_pureG rfl (lt_some (by decide)) rfl rfl
                  · intro r
                    simp only [x_move, eX, ↓reduceIte, Nat.reduceEqDiff]
                    exact ⟨rfl, Le.refl _⟩
                  simp only [eX, ↓reduceIte, Nat.reduceEqDiff, Int.reduceToNat]
                | refine TW_guardF rfl (lt_some (by decide)) rfl ?_
                  simp only [eX, ↓reduceIte, Nat.reduceEqDiff, Int.reduceToNat]
                first
                | apply TW_pureG rfl (lt_some (by decide)) rfl rfl
                  · intro r
                    simp only [x_move, eX, ↓reduceIte, Nat.reduceEqDiff]
                    exact ⟨rfl, Le.refl _⟩
                  simp only [eX, ↓reduceIte, Nat.reduceEqDiff, Int.reduceToNat]
                | refine TW_guardF rfl (lt_some (by decide)) rfl ?_
                  simp only [eX, ↓reduceIte, Nat.reduceEqDiff, Int.reduceToNat]
                first
                | refine TW_chainG rfl (lt_some (by decide)) rfl rfl (fun K hK r => ?_)
                  simp only [x_callF _ bd18, List.map_toArray, List.map_cons, List.map_nil, eX, ↓reduceIte, Nat.reduceEqDiff, Int.reduceToNat]
                  refine (waitingL hSA hP.sm X.length).mono ?_
                  rintro v H' ⟨rfl, rfl⟩
                  rw [ho2.2.2]
                  try simp only [eX, ↓reduceIte, Nat.reduceEqDiff, Int.reduceToNat]
                  refine hK _ _ leA ?_; clear hK K
                | refine TW_guardF rfl (lt_some (by decide)) rfl ?_
                  simp only [eX, ↓reduceIte, Nat.reduceEqDiff, Int.reduceToNat]
                first
                | apply TW_pureG rfl (lt_some (by decide)) rfl rfl
                  · intro r
                    simp (disch := (first | omega | decide)) only [x_bin, g_int, b_eql, dec_lt_t, dec_lt_f, dec_le_t, dec_le_f, dec_eq_t, dec_eq_f, Bool.not_true, Bool.not_false, eX, ↓reduceIte, Nat.reduceEqDiff]
                    exact ⟨rfl, Le.refl _⟩
                  simp only [eX, ↓reduceIte, Nat.reduceEqDiff, Int.reduceToNat]
                | refine TW_guardF rfl (lt_some (by decide)) rfl ?_
                  simp only [eX, ↓reduceIte, Nat.reduceEqDiff, Int.reduceToNat]
                apply TW_pure rfl (lt_some (by decide)) rfl
                · intro r
                  simp only [x_pick, l_asBool, HL.ite_bool, if_true, if_false, Bool.false_eq_true, eX, ↓reduceIte, Nat.reduceEqDiff]
                  exact ⟨rfl, Le.refl _⟩
                simp only [eX, ↓reduceIte, Nat.reduceEqDiff, Int.reduceToNat]
                apply TW_pure rfl (lt_some (by decide)) rfl
                · intro r
                  simp only [x_move, eX, ↓reduceIte, Nat.reduceEqDiff]
                  exact ⟨rfl, Le.refl _⟩
                simp only [eX, ↓reduceIte, Nat.reduceEqDiff, Int.reduceToNat]
                (first | refine TW_split (d := 133) rfl (fun g133 => ?_) (fun g133 => ?_) | skip)
                all_goals try (exfalso; exact cnA g133)
                all_goals (try simp only [decide_eq_true_eq, decide_eq_false_iff_not, Bool.not_eq_true, Bool.not_eq_false, Bool.and_eq_true, Bool.or_eq_true, Bool.or_eq_false_iff, Bool.not_eq_true, Bool.not_eq_eq_eq_not, Bool.not_true, Bool.not_false] at g133)
                all_goals
                  try simp only [eX, ↓reduceIte, Nat.reduceEqDiff, Int.reduceToNat]
                  first
                  | apply TW_pureG rfl (lt_some (by decide)) rfl rfl
                    · intro r
                      simp only [x_move, eX, ↓reduceIte, Nat.reduceEqDiff]
                      exact ⟨rfl, Le.refl _⟩
                    simp only [eX, ↓reduceIte, Nat.reduceEqDiff, Int.reduceToNat]
                  | refine TW_guardF rfl (lt_some (by decide)) rfl ?_
                    simp only [eX, ↓reduceIte, Nat.reduceEqDiff, Int.reduceToNat]
                  first
                  | apply TW_pureG rfl (lt_some (by decide)) rfl rfl
                    · intro r
                      simp only [x_move, eX, ↓reduceIte, Nat.reduceEqDiff]
                      exact ⟨rfl, Le.refl _⟩
                    simp only [eX, ↓reduceIte, Nat.reduceEqDiff, Int.reduceToNat]
                  | refine TW_guardF rfl (lt_some (by decide)) rfl ?_
                    simp only [eX, ↓reduceIte, Nat.reduceEqDiff, Int.reduceToNat]
                  first
                  | refine TW_chainG rfl (lt_some (by decide)) rfl rfl (fun K hK r => ?_)
                    simp only [x_callF _ bd17, List.map_toArray, List.map_cons, List.map_nil, eX, ↓reduceIte, Nat.reduceEqDiff, Int.reduceToNat]
                    refine (sureL hSA hP.sm X.length 0).mono ?_
                    rintro v H' ⟨rfl, rfl⟩
                    rw [ho2.1]
                    try simp only [eX, ↓reduceIte, Nat.reduceEqDiff, Int.reduceToNat]
                    refine hK _ _ leA ?_; clear hK K
                  | refine TW_guardF rfl (lt_some (by decide)) rfl ?_
                    simp only [eX, ↓reduceIte, Nat.reduceEqDiff, Int.reduceToNat]
                  first
                  | apply TW_pureG rfl (lt_some (by decide)) rfl rfl
                    · intro r
                      simp only [x_build, List.map_toArray, List.map_cons, List.map_nil, eX, ↓reduceIte, Nat.reduceEqDiff]
                      rw [l_buildArr Try.underlying38 sz5 zr38]
                      simp only [Value.cells]
                      simp only [fill_nil, orF_some, List.setIfInBounds_toArray, List.set_cons_zero, List.set_cons_succ]
                      exact ⟨rfl, Le.refl _⟩
                    simp only [eX, ↓reduceIte, Nat.reduceEqDiff, Int.reduceToNat]
                  | refine TW_guardF rfl (lt_some (by decide)) rfl ?_
                    simp only [eX, ↓reduceIte, Nat.reduceEqDiff, Int.reduceToNat]
                  first
                  | apply TW_pureG rfl (lt_some (by decide)) rfl rfl
                    · intro r
                      simp only [x_bin, g_agg _ _ _ _ _ _ eqg38, eX, ↓reduceIte, Nat.reduceEqDiff]
                      rw [e_eql _ _ _ _ (by simp)]
                      rw [q_equal]
                      rw [show (Array.replicate 64 (Value.int .u8 0)) = Sec.zero.c.toArray from rfl]
                      rw [q_sec]
                      exact ⟨rfl, Le.refl _⟩
                    simp only [eX, ↓reduceIte, Nat.reduceEqDiff, Int.reduceToNat]
                  | refine TW_guardF rfl (lt_some (by decide)) rfl ?_
                    simp only [eX, ↓reduceIte, Nat.reduceEqDiff, Int.reduceToNat]
                  apply TW_pure rfl (lt_some (by decide)) rfl
                  · intro r
                    simp only [x_pick, l_asBool, HL.ite_bool, if_true, if_false, Bool.false_eq_true, eX, ↓reduceIte, Nat.reduceEqDiff]
                    exact ⟨rfl, Le.refl _⟩
                  simp only [eX, ↓reduceIte, Nat.reduceEqDiff, Int.reduceToNat]
                  apply TW_pure rfl (lt_some (by decide)) rfl
                  · intro r
                    simp only [x_assign, eX, ↓reduceIte, Nat.reduceEqDiff]
                    exact ⟨rfl, Le.refl _⟩
                  simp only [eX, ↓reduceIte, Nat.reduceEqDiff, Int.reduceToNat]
                  refine TW_nil ?_
                  try simp only [Ex.thnH, Ex.inBlockH, ↓reduceIte, Nat.reduceEqDiff]
                  refine hK25 _ _ ?_; try clear hK25 K25
                  refine CW_ret ?_
                  try simp only [Ex.thnH, Ex.inBlockH, ↓reduceIte, Nat.reduceEqDiff]
                  refine ⟨[_], ⟨rfl, trivial⟩, H, lhA, ?_, rfl⟩
                  first | rfl | (simp; done)

end Go.Proofs.Ytkmjncmdhinlgaa.HL
end
section
namespace Go.Proofs.Ytkmjncmdhinlgaa.HL
open Go Go.Proofs
set_option linter.unusedSimpArgs false
set_option linter.unusedVariables false
attribute [local irreducible] Lt Lq CW OW TW CallH


theorem Stn.del {H K F : Hp} {p : Nat} {s : St} (hA : Stn H K F p s) {b : Nat} (hF : F b = none) (hH : H b = none) : Stn H (K.del b) F p s :=
  ⟨hA.set, fun x o hx => (del_ne _ (fun e => by subst e; rw [hF] at hx; cases hx)).trans (hA.le x o hx), fun x o hx => (del_ne _ (fun e => by subst e; rw [hH] at hx; cases hx)).trans (hA.old x o hx), hA.ap⟩
/-- a set and the document's, at a step of a law's script -/
structure Both (H0 Q K F : Hp) (p : Nat) (s : St) (a : Option Addr) (cap : Nat) (X : List RDX) (m : RSt) (n : Nat) (b : Nat) : Prop where
  old : Le H0 Q
  st : Stn Q K F p s
  rx : RX Q a cap X
  dv : m.dv = rdv X
  pr : PR n s m
  q : Q b = none
  f : F b = none
  box : K b = some (.cells (m.c (.slice a X.length cap)).toArray 59)
theorem Both.more {H0 Q K F K' : Hp} {p : Nat} {s : St} {a : Option Addr} {cap : Nat} {X : List RDX} {m : RSt} {n b : Nat} (h : Both H0 Q K F p s a cap X m n b) (hl : Le K K') : Both H0 Q K' F p s a cap X m n b := ⟨h.old, h.st.more hl, h.rx, h.dv, h.pr, h.q, h.f, hl _ _ h.box⟩
/-- an act by both, where the document's set lies in a box of its own -/
theorem doL {H0 Q K F : Hp} {p : Nat} {s : St} {a : Option Addr} {cap : Nat} {X : List RDX} {m : RSt} {n b : Nat} (h : Both H0 Q K F p s a cap X m n b) (hn : n ≤ 1000) (o : Op1) (ho : o.ok H0) (hol : o.keep.length ≤ 60) : CallH Try.prog 25 #[.pointer (some ⟨p, 0, none⟩), m.v (.slice a X.length cap), .agg o.c.toArray] K (fun v K' => ∃ Q' F' a' cap' X', v = .tuple #[(m.act o).v (.slice a' X'.length cap'), .bool true] ∧ Le H0 Q' ∧ Stn Q' K' F' p (s.act o) ∧ RX Q' a' cap' X' ∧ (m.act o).dv = rdv X' ∧ PR (n + 1) (s.act o) (m.act o) ∧ Q' b = none ∧ F' b = none ∧ K' b = some (.cells (m.c (.slice a X.length cap)).toArray 59)) := by
  have hoq : o.ok Q := ⟨ho.hk.le h.old, ho.d0, ho.d1, ho.n0, ho.n1, ho.b0, ho.b1⟩
  refine (CallH.use (do_ok Q (K.del b) F p s (h.st.del h.f h.q) a cap X h.rx m h.dv n h.pr hn o hoq hol) (le_del K b)).mono ?_
  rintro v K' ⟨G, ⟨Q', F', a', cap', X', hl, hq, hS, rfl, hX, hd⟩, lG, hk⟩
  obtain ⟨k1, g1⟩ := hk b _ h.box (del_self _ _)
  exact ⟨Q', F', a', cap', X', rfl, Le.trans h.old hq, hS.more lG, hX, hd, h.pr.act o ho.n1, none_of_le hS.old g1, none_of_le hS.le g1, k1⟩
theorem Both.of {H0 Q K F : Hp} {p : Nat} {s : St} {a : Option Addr} {cap : Nat} {X : List RDX} {m : RSt} {n b : Nat} (h1 : Le H0 Q) (h2 : Stn Q K F p s) (h3 : RX Q a cap X) (h4 : m.dv = rdv X) (h5 : PR n s m) (h6 : Q b = none) (h7 : F b = none) : Both H0 Q (K.upd b (.cells (m.c (.slice a X.length cap)).toArray 59)) F p s a cap X m n b := ⟨h1, h2.off h7 h6 _, h3, h4, h5, h6, h7, upd_same _ _ _⟩
theorem standsL {H0 Q K F : Hp} {p : Nat} {s : St} {a : Option Addr} {cap : Nat} {X : List RDX} {m : RSt} {n b : Nat} (h : Both H0 Q K F p s a cap X m n b) (hn : n ≤ 1000) : CallH Try.prog 26 #[.pointer (some ⟨p, 0, none⟩), m.v (.slice a X.length cap)] K (fun v K' => v = .bool true ∧ K' = K) := stands_ok Q K F p s h.st a cap X h.rx m h.dv n h.pr hn

end Go.Proofs.Ytkmjncmdhinlgaa.HL
end
section
namespace Go.Proofs.Ytkmjncmdhinlgaa.HL
open Go Go.Proofs
set_option linter.unusedSimpArgs false
set_option linter.unusedVariables false
attribute [local irreducible] Lt Lq CW OW TW CallH

set_option maxRecDepth 100000 in
set_option maxHeartbeats 1000000 in
theorem device_nil (H : Hp) (dev : Int) : CallH Try.prog 30 #[.pointer none, .int .i64 dev] H (fun v H' => v = .pointer none ∧ H' = H) := by
  refine CallH_enter (l := [_, _]) (rl := [.tmp 4]) (n := 27) Try.func30 rfl rfl rfl rfl rfl ?_
  simp only [envOf, Nat.reduceAdd]
  refine CW_seq (fun K1 hK1 => ?_)
  refine CW_region ?_
  refine OW_as rfl ?_
  refine OW_nil ?_
  try simp only [Ex.thnH, Ex.inBlockH, ↓reduceIte, Nat.reduceEqDiff]
  refine hK1 _ _ ?_; try clear hK1 K1
  refine CW_seq (fun K2 hK2 => ?_)
  refine CW_seq (fun K3 hK3 => ?_)
  refine CW_region ?_
  refine OW_mv rfl ?_
  refine OW_opS (fun K hK r => ?_)
  simp only [x_bin, g_int, g_bool, g_string, g_pointer, g_slice, g_map, g_func, g_nilFunc, g_iface, g_nil_iface, g_nil_r, g_nil_l, eX, ↓reduceIte, Nat.reduceEqDiff, Int.reduceToNat]
  rw [e_eql _ _ _ _ (by simp)]
  rw [q_equal]
  first | rw [q_ptr_nil _ _ _ Try.underlying26] | rw [q_nil_ptr _ _ _ Try.underlying26]
  try simp only [eX, ↓reduceIte, Nat.reduceEqDiff, Int.reduceToNat]
  refine hK _ _ ?_; clear hK K
  refine OW_mv rfl ?_
  (first | refine OW_split (d := 7) rfl (fun g7 => ?_) (fun g7 => ?_) | skip)
  all_goals try (exfalso; exact cnA g7)
  all_goals (try simp only [decide_eq_true_eq, decide_eq_false_iff_not, Bool.not_eq_true, Bool.not_eq_false, Bool.and_eq_true, Bool.or_eq_true, Bool.or_eq_false_iff, Bool.not_eq_true, Bool.not_eq_eq_eq_not, Bool.not_true, Bool.not_false] at g7)
  all_goals
    try simp only [eX, ↓reduceIte, Nat.reduceEqDiff, Int.reduceToNat]
    first
    | refine OW_guardT rfl (lt_some (by decide)) rfl (fun K hK r => ?_)
      simp only [x_move, eX, ↓reduceIte, Nat.reduceEqDiff, Int.reduceToNat]
      refine hK _ _ ?_; clear hK K
    | refine OW_guardF rfl (lt_some (by decide)) rfl ?_
      simp only [eX, ↓reduceIte, Nat.reduceEqDiff, Int.reduceToNat]
    first
    | refine OW_guardT rfl (lt_some (by decide)) rfl (fun K hK r => ?_)
      simp (disch := (first | omega | decide)) only [x_bin, g_int, b_lss, dec_lt_t, dec_lt_f, dec_le_t, dec_le_f, dec_eq_t, dec_eq_f, Bool.not_true, Bool.not_false, eX, ↓reduceIte, Nat.reduceEqDiff, Int.reduceToNat]
      refine hK _ _ ?_; clear hK K
    | refine OW_guardF rfl (lt_some (by decide)) rfl ?_
      simp only [eX, ↓reduceIte, Nat.reduceEqDiff, Int.reduceToNat]
    refine OW_opS (fun K hK r => ?_)
    simp only [x_pick, l_asBool, HL.ite_bool, if_true, if_false, Bool.false_eq_true, eX, ↓reduceIte, Nat.reduceEqDiff, Int.reduceToNat]
    refine hK _ _ ?_; clear hK K
    refine OW_mv rfl ?_
    (first | refine OW_split (d := 11) rfl (fun g11 => ?_) (fun g11 => ?_) | skip)
    all_goals try (exfalso; exact cnA g11)
    all_goals (try simp only [decide_eq_true_eq, decide_eq_false_iff_not, Bool.not_eq_true, Bool.not_eq_false, Bool.and_eq_true, Bool.or_eq_true, Bool.or_eq_false_iff, Bool.not_eq_true, Bool.not_eq_eq_eq_not, Bool.not_true, Bool.not_false] at g11)
    all_goals
      try simp only [eX, ↓reduceIte, Nat.reduceEqDiff, Int.reduceToNat]
      first
      | refine OW_guardT rfl (lt_some (by decide)) rfl (fun K hK r => ?_)
        simp only [x_move, eX, ↓reduceIte, Nat.reduceEqDiff, Int.reduceToNat]
        refine hK _ _ ?_; clear hK K
      | refine OW_guardF rfl (lt_some (by decide)) rfl ?_
        simp only [eX, ↓reduceIte, Nat.reduceEqDiff, Int.reduceToNat]
      first
      | refine OW_guardT rfl (lt_some (by decide)) rfl (fun K hK r => ?_)
        simp only [x_move, eX, ↓reduceIte, Nat.reduceEqDiff, Int.reduceToNat]
        refine hK _ _ ?_; clear hK K
      | refine OW_guardF rfl (lt_some (by decide)) rfl ?_
        simp only [eX, ↓reduceIte, Nat.reduceEqDiff, Int.reduceToNat]
      first
      | refine OW_guardT rfl (lt_some (by decide)) rfl (fun K hK r => ?_)
        rw [x_nilCheck _ _ rfl]
        simp only [eX, ↓reduceIte, Nat.reduceEqDiff, Int.reduceToNat]
        refine hK _ _ ?_; clear hK K
      | refine OW_guardF rfl (lt_some (by decide)) rfl ?_
        simp only [eX, ↓reduceIte, Nat.reduceEqDiff, Int.reduceToNat]
      first
      | refine OW_guardT rfl (lt_some (by decide)) rfl (fun K hK r => ?_)
        simp only [x_fieldAddr, fa77_1, add_mk, Nat.reduceAdd, Nat.zero_add, eX, ↓reduceIte, Nat.reduceEqDiff, Int.reduceToNat]
        refine hK _ _ ?_; clear hK K
      | refine OW_guardF rfl (lt_some (by decide)) rfl ?_
        simp only [eX, ↓reduceIte, Nat.reduceEqDiff, Int.reduceToNat]
      first
      | refine OW_guardT rfl (lt_some (by decide)) rfl (fun K hK r => ?_)
        simp only [x_load, eX, ↓reduceIte, Nat.reduceEqDiff, Int.reduceToNat]
        refine Lt_loadAt1 Try.underlying75 rfl hbA ldA ?_
        try simp only [eX, ↓reduceIte, Nat.reduceEqDiff, Int.reduceToNat]
        refine hK _ _ ?_; clear hK K
      | refine OW_guardF rfl (lt_some (by decide)) rfl ?_
        simp only [eX, ↓reduceIte, Nat.reduceEqDiff, Int.reduceToNat]
      first
      | refine OW_guardT rfl (lt_some (by decide)) rfl (fun K hK r => ?_)
        simp only [x_builtin, l_len, List.map_toArray, List.map_cons, List.map_nil, i_len_slice _ _ Try.underlying75, eX, ↓reduceIte, Nat.reduceEqDiff, Int.reduceToNat]
        refine hK _ _ ?_; clear hK K
      | refine OW_guardF rfl (lt_some (by decide)) rfl ?_
        simp only [eX, ↓reduceIte, Nat.reduceEqDiff, Int.reduceToNat]
      first
      | refine OW_guardT rfl (lt_some (by decide)) rfl (fun K hK r => ?_)
        simp (disch := (first | omega | decide)) only [x_bin, g_int, b_geq, dec_lt_t, dec_lt_f, dec_le_t, dec_le_f, dec_eq_t, dec_eq_f, Bool.not_true, Bool.not_false, eX, ↓reduceIte, Nat.reduceEqDiff, Int.reduceToNat]
        refine hK _ _ ?_; clear hK K
      | refine OW_guardF rfl (lt_some (by decide)) rfl ?_
        simp only [eX, ↓reduceIte, Nat.reduceEqDiff, Int.reduceToNat]
      refine OW_opS (fun K hK r => ?_)
      simp only [x_pick, l_asBool, HL.ite_bool, if_true, if_false, Bool.false_eq_true, eX, ↓reduceIte, Nat.reduceEqDiff, Int.reduceToNat]
      refine hK _ _ ?_; clear hK K
      refine OW_nil ?_
      try simp only [Ex.thnH, Ex.inBlockH, ↓reduceIte, Nat.reduceEqDiff]
      refine hK3 _ _ ?_; try clear hK3 K3
      refine CW_cond (fun r => rfl) (fun c19 => ?_) (fun c19 => ?_)
      · first
        | (exfalso; exact cnA c19; done)
        | skip
          (try simp only [decide_eq_true_eq, decide_eq_false_iff_not, Bool.not_eq_true, Bool.not_eq_false, Bool.and_eq_true, Bool.or_eq_true, Bool.or_eq_false_iff, Bool.not_eq_true, Bool.not_eq_eq_eq_not, Bool.not_true, Bool.not_false] at c19)
          refine CW_seq (fun K4 hK4 => ?_)
          refine CW_region ?_
          refine OW_as rfl ?_
          refine OW_nil ?_
          try simp only [Ex.thnH, Ex.inBlockH, ↓reduceIte, Nat.reduceEqDiff]
          refine hK4 _ _ ?_; try clear hK4 K4
          refine CW_ret ?_
          try simp only [Ex.thnH, Ex.inBlockH, ↓reduceIte, Nat.reduceEqDiff]
          first | refine ⟨[_], ⟨rfl, trivial⟩, H, lhA, ?_, rfl⟩ | refine ⟨[_], ⟨rfl, trivial⟩, _, Le.refl _, ?_, rfl⟩
          first | rfl | (simp; done) | (simp; rfl)
      · first
        | (exfalso; exact cnA c19; done)
        | skip
          (try simp only [decide_eq_true_eq, decide_eq_false_iff_not, Bool.not_eq_true, Bool.not_eq_false, Bool.and_eq_true, Bool.or_eq_true, Bool.or_eq_false_iff, Bool.not_eq_true, Bool.not_eq_eq_eq_not, Bool.not_true, Bool.not_false] at c19)
          refine CW_skip ?_
          try simp only [Ex.thnH, Ex.inBlockH, ↓reduceIte, Nat.reduceEqDiff]
          refine hK2 _ _ ?_; try clear hK2 K2
          refine CW_seq (fun K5 hK5 => ?_)
          refine CW_region ?_
          refine OW_mv rfl ?_
          refine OW_opS (fun K hK r => ?_)
          rw [x_nilCheck _ _ rfl]
          simp only [eX, ↓reduceIte, Nat.reduceEqDiff, Int.reduceToNat]
          refine hK _ _ ?_; clear hK K
          refine OW_opS (fun K hK r => ?_)
          simp only [x_fieldAddr, fa77_1, add_mk, Nat.reduceAdd, Nat.zero_add, eX, ↓reduceIte, Nat.reduceEqDiff, Int.reduceToNat]
          refine hK _ _ ?_; clear hK K
          refine OW_opS (fun K hK r => ?_)
          simp only [x_load, eX, ↓reduceIte, Nat.reduceEqDiff, Int.reduceToNat]
          refine Lt_loadAt1 Try.underlying75 rfl hbA ldA ?_
          try simp only [eX, ↓reduceIte, Nat.reduceEqDiff, Int.reduceToNat]
          refine hK _ _ ?_; clear hK K
          refine OW_mv rfl ?_
          refine OW_opS (fun K hK r => ?_)
          simp only [x_indexAddr, eX, ↓reduceIte, Nat.reduceEqDiff, Int.reduceToNat]
          refine Lt_indexS Try.underlying75 sz78 ixA ixA ?_
          try simp only [add_mk, Nat.mul_one, Nat.zero_add, Int.reduceToNat]
          try simp only [eX, ↓reduceIte, Nat.reduceEqDiff, Int.reduceToNat]
          refine hK _ _ ?_; clear hK K
          refine OW_opS (fun K hK r => ?_)
          simp only [x_load, eX, ↓reduceIte, Nat.reduceEqDiff, Int.reduceToNat]
          refine Lt_loadAt1 Try.underlying78 rfl hbA ldA ?_
          try simp only [eX, ↓reduceIte, Nat.reduceEqDiff, Int.reduceToNat]
          refine hK _ _ ?_; clear hK K
          refine OW_as rfl ?_
          refine OW_nil ?_
          try simp only [Ex.thnH, Ex.inBlockH, ↓reduceIte, Nat.reduceEqDiff]
          refine hK5 _ _ ?_; try clear hK5 K5
          refine CW_ret ?_
          try simp only [Ex.thnH, Ex.inBlockH, ↓reduceIte, Nat.reduceEqDiff]
          first | refine ⟨[_], ⟨rfl, trivial⟩, H, lhA, ?_, rfl⟩ | refine ⟨[_], ⟨rfl, trivial⟩, _, Le.refl _, ?_, rfl⟩
          first | rfl | (simp; done) | (simp; rfl)

set_option maxRecDepth 100000 in
set_option maxHeartbeats 1000000 in
theorem write_nil (H : Hp) (dev i : Int) (x : Sec) : CallH Try.prog 11 #[.pointer none, .int .i64 dev, .int .i64 i, x.v] H (fun v H' => v = errV (some 3) ∧ H' = H) := by
  refine CallH_enter (l := [_, _, _, _]) (rl := [.tmp 8]) (n := 43) Try.func11 rfl rfl rfl rfl rfl ?_
  simp only [envOf, Nat.reduceAdd]
  refine CW_seq (fun K1 hK1 => ?_)
  refine CW_region ?_
  refine OW_opS (fun K hK r => ?_)
  simp only [x_box, Value.cells, eX, ↓reduceIte, Nat.reduceEqDiff, Int.reduceToNat]
  intro b7 hb7
  have f7_H : H b7 = none := none_of_le lhA hb7
  try simp only [eX, ↓reduceIte, Nat.reduceEqDiff, Int.reduceToNat]
  refine hK _ _ ?_; clear hK K
  refine OW_as rfl ?_
  refine OW_nil ?_
  try simp only [Ex.thnH, Ex.inBlockH, ↓reduceIte, Nat.reduceEqDiff]
  refine hK1 _ _ ?_; try clear hK1 K1
  refine CW_seq (fun K2 hK2 => ?_)
  refine CW_region ?_
  refine OW_mv rfl ?_
  refine OW_mv rfl ?_
  refine OW_opS (fun K hK r => ?_)
  simp only [x_callF _ bd30, List.map_toArray, List.map_cons, List.map_nil, eX, ↓reduceIte, Nat.reduceEqDiff, Int.reduceToNat]
  refine (device_nil _ dev).mono ?_
  rintro v H' ⟨rfl, rfl⟩
  try simp only [eX, ↓reduceIte, Nat.reduceEqDiff, Int.reduceToNat]
  refine hK _ _ ?_; clear hK K
  refine OW_as rfl ?_
  refine OW_nil ?_
  try simp only [Ex.thnH, Ex.inBlockH, ↓reduceIte, Nat.reduceEqDiff]
  refine hK2 _ _ ?_; try clear hK2 K2
  refine CW_seq (fun K3 hK3 => ?_)
  refine CW_block ?_
  refine CW_seq (fun K4 hK4 => ?_)
  refine CW_region ?_
  refine OW_mv rfl ?_
  refine OW_opS (fun K hK r => ?_)
  simp only [x_bin, g_int, g_bool, g_string, g_pointer, g_slice, g_map, g_func, g_nilFunc, g_iface, g_nil_iface, g_nil_r, g_nil_l, eX, ↓reduceIte, Nat.reduceEqDiff, Int.reduceToNat]
  rw [e_eql _ _ _ _ (by simp)]
  rw [q_equal]
  first | rw [q_ptr_nil _ _ _ Try.underlying26] | rw [q_nil_ptr _ _ _ Try.underlying26]
  try simp only [eX, ↓reduceIte, Nat.reduceEqDiff, Int.reduceToNat]
  refine hK _ _ ?_; clear hK K
  refine OW_as rfl ?_
  refine OW_nil ?_
  try simp only [Ex.thnH, Ex.inBlockH, ↓reduceIte, Nat.reduceEqDiff]
  refine hK4 _ _ ?_; try clear hK4 K4
  refine CW_cond (fun r => rfl) (fun c14 => ?_) (fun c14 => ?_)
  rotate_left; exfalso; exact cnA c14
  refine CW_seq (fun K5 hK5 => ?_)
  refine CW_region ?_
  refine OW_opS (fun K hK r => ?_)
  simp only [x_makeInterface, i_makeInterface, Try.underlying71, orF_some, eX, ↓reduceIte, Nat.reduceEqDiff, Int.reduceToNat]
  refine hK _ _ ?_; clear hK K
  refine OW_as rfl ?_
  refine OW_nil ?_
  try simp only [Ex.thnH, Ex.inBlockH, ↓reduceIte, Nat.reduceEqDiff]
  refine hK5 _ _ ?_; try clear hK5 K5
  refine CW_ret ?_
  try simp only [Ex.thnH, Ex.inBlockH, ↓reduceIte, Nat.reduceEqDiff]
  first | refine ⟨[_], ⟨rfl, trivial⟩, H, lhA, ?_, rfl⟩ | refine ⟨[_], ⟨rfl, trivial⟩, _, Le.refl _, ?_, rfl⟩
  first | rfl | (simp; done) | (simp; rfl)

set_option maxRecDepth 100000 in
set_option maxHeartbeats 1000000 in
theorem flush_nil (H : Hp) (dev : Int) : CallH Try.prog 13 #[.pointer none, .int .i64 dev] H (fun v H' => v = errV (some 3) ∧ H' = H) := by
  refine CallH_enter (l := [_, _]) (rl := [.tmp 4]) (n := 27) Try.func13 rfl rfl rfl rfl rfl ?_
  simp only [envOf, Nat.reduceAdd]
  refine CW_seq (fun K1 hK1 => ?_)
  refine CW_region ?_
  refine OW_as rfl ?_
  refine OW_nil ?_
  try simp only [Ex.thnH, Ex.inBlockH, ↓reduceIte, Nat.reduceEqDiff]
  refine hK1 _ _ ?_; try clear hK1 K1
  refine CW_seq (fun K2 hK2 => ?_)
  refine CW_region ?_
  refine OW_mv rfl ?_
  refine OW_mv rfl ?_
  refine OW_opS (fun K hK r => ?_)
  simp only [x_callF _ bd30, List.map_toArray, List.map_cons, List.map_nil, eX, ↓reduceIte, Nat.reduceEqDiff, Int.reduceToNat]
  refine (device_nil _ dev).mono ?_
  rintro v H' ⟨rfl, rfl⟩
  try simp only [eX, ↓reduceIte, Nat.reduceEqDiff, Int.reduceToNat]
  refine hK _ _ ?_; clear hK K
  refine OW_as rfl ?_
  refine OW_nil ?_
  try simp only [Ex.thnH, Ex.inBlockH, ↓reduceIte, Nat.reduceEqDiff]
  refine hK2 _ _ ?_; try clear hK2 K2
  refine CW_seq (fun K3 hK3 => ?_)
  refine CW_block ?_
  refine CW_seq (fun K4 hK4 => ?_)
  refine CW_region ?_
  refine OW_mv rfl ?_
  refine OW_opS (fun K hK r => ?_)
  simp only [x_bin, g_int, g_bool, g_string, g_pointer, g_slice, g_map, g_func, g_nilFunc, g_iface, g_nil_iface, g_nil_r, g_nil_l, eX, ↓reduceIte, Nat.reduceEqDiff, Int.reduceToNat]
  rw [e_eql _ _ _ _ (by simp)]
  rw [q_equal]
  first | rw [q_ptr_nil _ _ _ Try.underlying26] | rw [q_nil_ptr _ _ _ Try.underlying26]
  try simp only [eX, ↓reduceIte, Nat.reduceEqDiff, Int.reduceToNat]
  refine hK _ _ ?_; clear hK K
  refine OW_as rfl ?_
  refine OW_nil ?_
  try simp only [Ex.thnH, Ex.inBlockH, ↓reduceIte, Nat.reduceEqDiff]
  refine hK4 _ _ ?_; try clear hK4 K4
  refine CW_cond (fun r => rfl) (fun c10 => ?_) (fun c10 => ?_)
  rotate_left; exfalso; exact cnA c10
  refine CW_seq (fun K5 hK5 => ?_)
  refine CW_region ?_
  refine OW_opS (fun K hK r => ?_)
  simp only [x_makeInterface, i_makeInterface, Try.underlying71, orF_some, eX, ↓reduceIte, Nat.reduceEqDiff, Int.reduceToNat]
  refine hK _ _ ?_; clear hK K
  refine OW_as rfl ?_
  refine OW_nil ?_
  try simp only [Ex.thnH, Ex.inBlockH, ↓reduceIte, Nat.reduceEqDiff]
  refine hK5 _ _ ?_; try clear hK5 K5
  refine CW_ret ?_
  try simp only [Ex.thnH, Ex.inBlockH, ↓reduceIte, Nat.reduceEqDiff]
  first | refine ⟨[_], ⟨rfl, trivial⟩, H, lhA, ?_, rfl⟩ | refine ⟨[_], ⟨rfl, trivial⟩, _, Le.refl _, ?_, rfl⟩
  first | rfl | (simp; done) | (simp; rfl)

set_option maxRecDepth 100000 in
set_option maxHeartbeats 1000000 in
theorem arm_nil (H : Hp) (dev : Int) : CallH Try.prog 20 #[.pointer none, .int .i64 dev] H (fun v H' => v = errV (some 3) ∧ H' = H) := by
  refine CallH_enter (l := [_, _]) (rl := [.tmp 4]) (n := 22) Try.func20 rfl rfl rfl rfl rfl ?_
  simp only [envOf, Nat.reduceAdd]
  refine CW_seq (fun K1 hK1 => ?_)
  refine CW_region ?_
  refine OW_as rfl ?_
  refine OW_nil ?_
  try simp only [Ex.thnH, Ex.inBlockH, ↓reduceIte, Nat.reduceEqDiff]
  refine hK1 _ _ ?_; try clear hK1 K1
  refine CW_seq (fun K2 hK2 => ?_)
  refine CW_block ?_
  refine CW_seq (fun K3 hK3 => ?_)
  refine CW_region ?_
  refine OW_mv rfl ?_
  refine OW_opS (fun K hK r => ?_)
  simp only [x_bin, g_int, g_bool, g_string, g_pointer, g_slice, g_map, g_func, g_nilFunc, g_iface, g_nil_iface, g_nil_r, g_nil_l, eX, ↓reduceIte, Nat.reduceEqDiff, Int.reduceToNat]
  rw [e_eql _ _ _ _ (by simp)]
  rw [q_equal]
  first | rw [q_ptr_nil _ _ _ Try.underlying26] | rw [q_nil_ptr _ _ _ Try.underlying26]
  try simp only [eX, ↓reduceIte, Nat.reduceEqDiff, Int.reduceToNat]
  refine hK _ _ ?_; clear hK K
  refine OW_as rfl ?_
  refine OW_nil ?_
  try simp only [Ex.thnH, Ex.inBlockH, ↓reduceIte, Nat.reduceEqDiff]
  refine hK3 _ _ ?_; try clear hK3 K3
  refine CW_cond (fun r => rfl) (fun c5 => ?_) (fun c5 => ?_)
  rotate_left; exfalso; exact cnA c5
  refine CW_seq (fun K4 hK4 => ?_)
  refine CW_region ?_
  refine OW_opS (fun K hK r => ?_)
  simp only [x_makeInterface, i_makeInterface, Try.underlying71, orF_some, eX, ↓reduceIte, Nat.reduceEqDiff, Int.reduceToNat]
  refine hK _ _ ?_; clear hK K
  refine OW_as rfl ?_
  refine OW_nil ?_
  try simp only [Ex.thnH, Ex.inBlockH, ↓reduceIte, Nat.reduceEqDiff]
  refine hK4 _ _ ?_; try clear hK4 K4
  refine CW_ret ?_
  try simp only [Ex.thnH, Ex.inBlockH, ↓reduceIte, Nat.reduceEqDiff]
  first | refine ⟨[_], ⟨rfl, trivial⟩, H, lhA, ?_, rfl⟩ | refine ⟨[_], ⟨rfl, trivial⟩, _, Le.refl _, ?_, rfl⟩
  first | rfl | (simp; done) | (simp; rfl)

set_option maxRecDepth 100000 in
set_option maxHeartbeats 1000000 in
theorem many_nil (H : Hp) : CallH Try.prog 24 #[.pointer none] H (fun v H' => v = .int .i64 0 ∧ H' = H) := by
  refine CallH_enter (l := [_]) (rl := [.tmp 2]) (n := 10) Try.func24 rfl rfl rfl rfl rfl ?_
  simp only [envOf, Nat.reduceAdd]
  refine CW_seq (fun K1 hK1 => ?_)
  refine CW_region ?_
  refine OW_as rfl ?_
  refine OW_nil ?_
  try simp only [Ex.thnH, Ex.inBlockH, ↓reduceIte, Nat.reduceEqDiff]
  refine hK1 _ _ ?_; try clear hK1 K1
  refine CW_seq (fun K2 hK2 => ?_)
  refine CW_seq (fun K3 hK3 => ?_)
  refine CW_region ?_
  refine OW_mv rfl ?_
  refine OW_opS (fun K hK r => ?_)
  simp only [x_bin, g_int, g_bool, g_string, g_pointer, g_slice, g_map, g_func, g_nilFunc, g_iface, g_nil_iface, g_nil_r, g_nil_l, eX, ↓reduceIte, Nat.reduceEqDiff, Int.reduceToNat]
  rw [e_eql _ _ _ _ (by simp)]
  rw [q_equal]
  first | rw [q_ptr_nil _ _ _ Try.underlying26] | rw [q_nil_ptr _ _ _ Try.underlying26]
  try simp only [eX, ↓reduceIte, Nat.reduceEqDiff, Int.reduceToNat]
  refine hK _ _ ?_; clear hK K
  refine OW_nil ?_
  try simp only [Ex.thnH, Ex.inBlockH, ↓reduceIte, Nat.reduceEqDiff]
  refine hK3 _ _ ?_; try clear hK3 K3
  refine CW_cond (fun r => rfl) (fun c4 => ?_) (fun c4 => ?_)
  rotate_left; exfalso; exact cnA c4
  refine CW_seq (fun K4 hK4 => ?_)
  refine CW_region ?_
  refine OW_as rfl ?_
  refine OW_nil ?_
  try simp only [Ex.thnH, Ex.inBlockH, ↓reduceIte, Nat.reduceEqDiff]
  refine hK4 _ _ ?_; try clear hK4 K4
  refine CW_ret ?_
  try simp only [Ex.thnH, Ex.inBlockH, ↓reduceIte, Nat.reduceEqDiff]
  first | refine ⟨[_], ⟨rfl, trivial⟩, H, lhA, ?_, rfl⟩ | refine ⟨[_], ⟨rfl, trivial⟩, _, Le.refl _, ?_, rfl⟩
  first | rfl | (simp; done) | (simp; rfl)

set_option maxRecDepth 100000 in
set_option maxHeartbeats 1000000 in
theorem steps_nil (H : Hp) : CallH Try.prog 21 #[.pointer none] H (fun v H' => v = .int .i64 0 ∧ H' = H) := by
  refine CallH_enter (l := [_]) (rl := [.tmp 2]) (n := 10) Try.func21 rfl rfl rfl rfl rfl ?_
  simp only [envOf, Nat.reduceAdd]
  refine CW_seq (fun K1 hK1 => ?_)
  refine CW_region ?_
  refine OW_as rfl ?_
  refine OW_nil ?_
  try simp only [Ex.thnH, Ex.inBlockH, ↓reduceIte, Nat.reduceEqDiff]
  refine hK1 _ _ ?_; try clear hK1 K1
  refine CW_seq (fun K2 hK2 => ?_)
  refine CW_seq (fun K3 hK3 => ?_)
  refine CW_region ?_
  refine OW_mv rfl ?_
  refine OW_opS (fun K hK r => ?_)
  simp only [x_bin, g_int, g_bool, g_string, g_pointer, g_slice, g_map, g_func, g_nilFunc, g_iface, g_nil_iface, g_nil_r, g_nil_l, eX, ↓reduceIte, Nat.reduceEqDiff, Int.reduceToNat]
  rw [e_eql _ _ _ _ (by simp)]
  rw [q_equal]
  first | rw [q_ptr_nil _ _ _ Try.underlying26] | rw [q_nil_ptr _ _ _ Try.underlying26]
  try simp only [eX, ↓reduceIte, Nat.reduceEqDiff, Int.reduceToNat]
  refine hK _ _ ?_; clear hK K
  refine OW_nil ?_
  try simp only [Ex.thnH, Ex.inBlockH, ↓reduceIte, Nat.reduceEqDiff]
  refine hK3 _ _ ?_; try clear hK3 K3
  refine CW_cond (fun r => rfl) (fun c4 => ?_) (fun c4 => ?_)
  rotate_left; exfalso; exact cnA c4
  refine CW_seq (fun K4 hK4 => ?_)
  refine CW_region ?_
  refine OW_as rfl ?_
  refine OW_nil ?_
  try simp only [Ex.thnH, Ex.inBlockH, ↓reduceIte, Nat.reduceEqDiff]
  refine hK4 _ _ ?_; try clear hK4 K4
  refine CW_ret ?_
  try simp only [Ex.thnH, Ex.inBlockH, ↓reduceIte, Nat.reduceEqDiff]
  first | refine ⟨[_], ⟨rfl, trivial⟩, H, lhA, ?_, rfl⟩ | refine ⟨[_], ⟨rfl, trivial⟩, _, Le.refl _, ?_, rfl⟩
  first | rfl | (simp; done) | (simp; rfl)

set_option maxRecDepth 100000 in
set_option maxHeartbeats 1000000 in
theorem down_nil (H : Hp) : CallH Try.prog 19 #[.pointer none] H (fun v H' => v = .bool true ∧ H' = H) := by
  refine CallH_enter (l := [_]) (rl := [.tmp 2]) (n := 12) Try.func19 rfl rfl rfl rfl rfl ?_
  simp only [envOf, Nat.reduceAdd]
  refine CW_seq (fun K1 hK1 => ?_)
  refine CW_region ?_
  refine OW_as rfl ?_
  refine OW_nil ?_
  try simp only [Ex.thnH, Ex.inBlockH, ↓reduceIte, Nat.reduceEqDiff]
  refine hK1 _ _ ?_; try clear hK1 K1
  refine CW_seq (fun K2 hK2 => ?_)
  refine CW_region ?_
  refine OW_mv rfl ?_
  refine OW_opS (fun K hK r => ?_)
  simp only [x_bin, g_int, g_bool, g_string, g_pointer, g_slice, g_map, g_func, g_nilFunc, g_iface, g_nil_iface, g_nil_r, g_nil_l, eX, ↓reduceIte, Nat.reduceEqDiff, Int.reduceToNat]
  rw [e_eql _ _ _ _ (by simp)]
  rw [q_equal]
  first | rw [q_ptr_nil _ _ _ Try.underlying26] | rw [q_nil_ptr _ _ _ Try.underlying26]
  try simp only [eX, ↓reduceIte, Nat.reduceEqDiff, Int.reduceToNat]
  refine hK _ _ ?_; clear hK K
  refine OW_mv rfl ?_
  (first | refine OW_split (d := 5) rfl (fun g5 => ?_) (fun g5 => ?_) | skip)
  all_goals try (exfalso; exact cnA g5)
  all_goals (try simp only [decide_eq_true_eq, decide_eq_false_iff_not, Bool.not_eq_true, Bool.not_eq_false, Bool.and_eq_true, Bool.or_eq_true, Bool.or_eq_false_iff, Bool.not_eq_true, Bool.not_eq_eq_eq_not, Bool.not_true, Bool.not_false] at g5)
  all_goals
    try simp only [eX, ↓reduceIte, Nat.reduceEqDiff, Int.reduceToNat]
    first
    | refine OW_guardT rfl (lt_some (by decide)) rfl (fun K hK r => ?_)
      simp only [x_move, eX, ↓reduceIte, Nat.reduceEqDiff, Int.reduceToNat]
      refine hK _ _ ?_; clear hK K
    | refine OW_guardF rfl (lt_some (by decide)) rfl ?_
      simp only [eX, ↓reduceIte, Nat.reduceEqDiff, Int.reduceToNat]
    first
    | refine OW_guardT rfl (lt_some (by decide)) rfl (fun K hK r => ?_)
      rw [x_nilCheck _ _ rfl]
      simp only [eX, ↓reduceIte, Nat.reduceEqDiff, Int.reduceToNat]
      refine hK _ _ ?_; clear hK K
    | refine OW_guardF rfl (lt_some (by decide)) rfl ?_
      simp only [eX, ↓reduceIte, Nat.reduceEqDiff, Int.reduceToNat]
    first
    | refine OW_guardT rfl (lt_some (by decide)) rfl (fun K hK r => ?_)
      simp only [x_fieldAddr, fa77_0, add_mk, Nat.reduceAdd, Nat.zero_add, eX, ↓reduceIte, Nat.reduceEqDiff, Int.reduceToNat]
      refine hK _ _ ?_; clear hK K
    | refine OW_guardF rfl (lt_some (by decide)) rfl ?_
      simp only [eX, ↓reduceIte, Nat.reduceEqDiff, Int.reduceToNat]
    first
    | refine OW_guardT rfl (lt_some (by decide)) rfl (fun K hK r => ?_)
      simp only [x_fieldAddr, fa74_3, add_mk, Nat.reduceAdd, Nat.zero_add, eX, ↓reduceIte, Nat.reduceEqDiff, Int.reduceToNat]
      refine hK _ _ ?_; clear hK K
    | refine OW_guardF rfl (lt_some (by decide)) rfl ?_
      simp only [eX, ↓reduceIte, Nat.reduceEqDiff, Int.reduceToNat]
    first
    | refine OW_guardT rfl (lt_some (by decide)) rfl (fun K hK r => ?_)
      simp only [x_load, eX, ↓reduceIte, Nat.reduceEqDiff, Int.reduceToNat]
      refine Lt_loadAt1 Try.underlying4 rfl hbA ldA ?_
      try simp only [eX, ↓reduceIte, Nat.reduceEqDiff, Int.reduceToNat]
      refine hK _ _ ?_; clear hK K
    | refine OW_guardF rfl (lt_some (by decide)) rfl ?_
      simp only [eX, ↓reduceIte, Nat.reduceEqDiff, Int.reduceToNat]
    refine OW_opS (fun K hK r => ?_)
    simp only [x_pick, l_asBool, HL.ite_bool, if_true, if_false, Bool.false_eq_true, eX, ↓reduceIte, Nat.reduceEqDiff, Int.reduceToNat]
    refine hK _ _ ?_; clear hK K
    refine OW_as rfl ?_
    refine OW_nil ?_
    try simp only [Ex.thnH, Ex.inBlockH, ↓reduceIte, Nat.reduceEqDiff]
    refine hK2 _ _ ?_; try clear hK2 K2
    refine CW_ret ?_
    try simp only [Ex.thnH, Ex.inBlockH, ↓reduceIte, Nat.reduceEqDiff]
    first | refine ⟨[_], ⟨rfl, trivial⟩, H, lhA, ?_, rfl⟩ | refine ⟨[_], ⟨rfl, trivial⟩, _, Le.refl _, ?_, rfl⟩
    first | rfl | (simp; done) | (simp; rfl)

set_option maxRecDepth 100000 in
set_option maxHeartbeats 1000000 in
theorem size_nil (H : Hp) (dev : Int) : CallH Try.prog 29 #[.pointer none, .int .i64 dev] H (fun v H' => v = .int .i64 0 ∧ H' = H) := by
  refine CallH_enter (l := [_, _]) (rl := [.tmp 4]) (n := 15) Try.func29 rfl rfl rfl rfl rfl ?_
  simp only [envOf, Nat.reduceAdd]
  refine CW_seq (fun K1 hK1 => ?_)
  refine CW_region ?_
  refine OW_as rfl ?_
  refine OW_nil ?_
  try simp only [Ex.thnH, Ex.inBlockH, ↓reduceIte, Nat.reduceEqDiff]
  refine hK1 _ _ ?_; try clear hK1 K1
  refine CW_seq (fun K2 hK2 => ?_)
  refine CW_seq (fun K3 hK3 => ?_)
  refine CW_region ?_
  refine OW_mv rfl ?_
  refine OW_mv rfl ?_
  refine OW_opS (fun K hK r => ?_)
  simp only [x_callF _ bd30, List.map_toArray, List.map_cons, List.map_nil, eX, ↓reduceIte, Nat.reduceEqDiff, Int.reduceToNat]
  refine (device_nil _ dev).mono ?_
  rintro v H' ⟨rfl, rfl⟩
  try simp only [eX, ↓reduceIte, Nat.reduceEqDiff, Int.reduceToNat]
  refine hK _ _ ?_; clear hK K
  refine OW_as rfl ?_
  refine OW_nil ?_
  try simp only [Ex.thnH, Ex.inBlockH, ↓reduceIte, Nat.reduceEqDiff]
  refine hK3 _ _ ?_; try clear hK3 K3
  refine CW_seq (fun K4 hK4 => ?_)
  refine CW_region ?_
  refine OW_mv rfl ?_
  refine OW_opS (fun K hK r => ?_)
  simp only [x_bin, g_int, g_bool, g_string, g_pointer, g_slice, g_map, g_func, g_nilFunc, g_iface, g_nil_iface, g_nil_r, g_nil_l, eX, ↓reduceIte, Nat.reduceEqDiff, Int.reduceToNat]
  rw [e_neq _ _ _ _ (by simp)]
  rw [q_equal]
  first | rw [q_ptr_nil _ _ _ Try.underlying78] | rw [q_nil_ptr _ _ _ Try.underlying78]
  try simp only [eX, ↓reduceIte, Nat.reduceEqDiff, Int.reduceToNat]
  refine hK _ _ ?_; clear hK K
  refine OW_nil ?_
  try simp only [Ex.thnH, Ex.inBlockH, ↓reduceIte, Nat.reduceEqDiff]
  refine hK4 _ _ ?_; try clear hK4 K4
  refine CW_cond (fun r => rfl) (fun c10 => ?_) (fun c10 => ?_)
  · exfalso; exact cnA c10
  refine CW_skip ?_
  try simp only [Ex.thnH, Ex.inBlockH, ↓reduceIte, Nat.reduceEqDiff]
  refine hK2 _ _ ?_; try clear hK2 K2
  refine CW_seq (fun K5 hK5 => ?_)
  refine CW_region ?_
  refine OW_as rfl ?_
  refine OW_nil ?_
  try simp only [Ex.thnH, Ex.inBlockH, ↓reduceIte, Nat.reduceEqDiff]
  refine hK5 _ _ ?_; try clear hK5 K5
  refine CW_ret ?_
  try simp only [Ex.thnH, Ex.inBlockH, ↓reduceIte, Nat.reduceEqDiff]
  first | refine ⟨[_], ⟨rfl, trivial⟩, H, lhA, ?_, rfl⟩ | refine ⟨[_], ⟨rfl, trivial⟩, _, Le.refl _, ?_, rfl⟩
  first | rfl | (simp; done) | (simp; rfl)

set_option maxRecDepth 100000 in
set_option maxHeartbeats 1000000 in
theorem waiting_nil (H : Hp) (dev : Int) : CallH Try.prog 18 #[.pointer none, .int .i64 dev] H (fun v H' => v = .int .i64 0 ∧ H' = H) := by
  refine CallH_enter (l := [_, _]) (rl := [.tmp 4]) (n := 16) Try.func18 rfl rfl rfl rfl rfl ?_
  simp only [envOf, Nat.reduceAdd]
  refine CW_seq (fun K1 hK1 => ?_)
  refine CW_region ?_
  refine OW_as rfl ?_
  refine OW_nil ?_
  try simp only [Ex.thnH, Ex.inBlockH, ↓reduceIte, Nat.reduceEqDiff]
  refine hK1 _ _ ?_; try clear hK1 K1
  refine CW_seq (fun K2 hK2 => ?_)
  refine CW_seq (fun K3 hK3 => ?_)
  refine CW_region ?_
  refine OW_mv rfl ?_
  refine OW_mv rfl ?_
  refine OW_opS (fun K hK r => ?_)
  simp only [x_callF _ bd30, List.map_toArray, List.map_cons, List.map_nil, eX, ↓reduceIte, Nat.reduceEqDiff, Int.reduceToNat]
  refine (device_nil _ dev).mono ?_
  rintro v H' ⟨rfl, rfl⟩
  try simp only [eX, ↓reduceIte, Nat.reduceEqDiff, Int.reduceToNat]
  refine hK _ _ ?_; clear hK K
  refine OW_as rfl ?_
  refine OW_nil ?_
  try simp only [Ex.thnH, Ex.inBlockH, ↓reduceIte, Nat.reduceEqDiff]
  refine hK3 _ _ ?_; try clear hK3 K3
  refine CW_seq (fun K4 hK4 => ?_)
  refine CW_region ?_
  refine OW_mv rfl ?_
  refine OW_opS (fun K hK r => ?_)
  simp only [x_bin, g_int, g_bool, g_string, g_pointer, g_slice, g_map, g_func, g_nilFunc, g_iface, g_nil_iface, g_nil_r, g_nil_l, eX, ↓reduceIte, Nat.reduceEqDiff, Int.reduceToNat]
  rw [e_neq _ _ _ _ (by simp)]
  rw [q_equal]
  first | rw [q_ptr_nil _ _ _ Try.underlying78] | rw [q_nil_ptr _ _ _ Try.underlying78]
  try simp only [eX, ↓reduceIte, Nat.reduceEqDiff, Int.reduceToNat]
  refine hK _ _ ?_; clear hK K
  refine OW_nil ?_
  try simp only [Ex.thnH, Ex.inBlockH, ↓reduceIte, Nat.reduceEqDiff]
  refine hK4 _ _ ?_; try clear hK4 K4
  refine CW_cond (fun r => rfl) (fun c10 => ?_) (fun c10 => ?_)
  · exfalso; exact cnA c10
  refine CW_skip ?_
  try simp only [Ex.thnH, Ex.inBlockH, ↓reduceIte, Nat.reduceEqDiff]
  refine hK2 _ _ ?_; try clear hK2 K2
  refine CW_seq (fun K5 hK5 => ?_)
  refine CW_region ?_
  refine OW_as rfl ?_
  refine OW_nil ?_
  try simp only [Ex.thnH, Ex.inBlockH, ↓reduceIte, Nat.reduceEqDiff]
  refine hK5 _ _ ?_; try clear hK5 K5
  refine CW_ret ?_
  try simp only [Ex.thnH, Ex.inBlockH, ↓reduceIte, Nat.reduceEqDiff]
  first | refine ⟨[_], ⟨rfl, trivial⟩, H, lhA, ?_, rfl⟩ | refine ⟨[_], ⟨rfl, trivial⟩, _, Le.refl _, ?_, rfl⟩
  first | rfl | (simp; done) | (simp; rfl)

set_option maxRecDepth 100000 in
set_option maxHeartbeats 1000000 in
theorem copy_nil (H : Hp) : CallH Try.prog 27 #[.pointer none] H (fun v H' => v = .pointer none ∧ H' = H) := by
  refine CallH_enter (l := [_]) (rl := [.tmp 2]) (n := 50) Try.func27 rfl rfl rfl rfl rfl ?_
  simp only [envOf, Nat.reduceAdd]
  refine CW_seq (fun K1 hK1 => ?_)
  refine CW_region ?_
  refine OW_as rfl ?_
  refine OW_nil ?_
  try simp only [Ex.thnH, Ex.inBlockH, ↓reduceIte, Nat.reduceEqDiff]
  refine hK1 _ _ ?_; try clear hK1 K1
  refine CW_seq (fun K2 hK2 => ?_)
  refine CW_seq (fun K3 hK3 => ?_)
  refine CW_region ?_
  refine OW_mv rfl ?_
  refine OW_opS (fun K hK r => ?_)
  simp only [x_bin, g_int, g_bool, g_string, g_pointer, g_slice, g_map, g_func, g_nilFunc, g_iface, g_nil_iface, g_nil_r, g_nil_l, eX, ↓reduceIte, Nat.reduceEqDiff, Int.reduceToNat]
  rw [e_eql _ _ _ _ (by simp)]
  rw [q_equal]
  first | rw [q_ptr_nil _ _ _ Try.underlying26] | rw [q_nil_ptr _ _ _ Try.underlying26]
  try simp only [eX, ↓reduceIte, Nat.reduceEqDiff, Int.reduceToNat]
  refine hK _ _ ?_; clear hK K
  refine OW_nil ?_
  try simp only [Ex.thnH, Ex.inBlockH, ↓reduceIte, Nat.reduceEqDiff]
  refine hK3 _ _ ?_; try clear hK3 K3
  refine CW_cond (fun r => rfl) (fun c7 => ?_) (fun c7 => ?_)
  rotate_left; exfalso; exact cnA c7
  refine CW_seq (fun K4 hK4 => ?_)
  refine CW_region ?_
  refine OW_as rfl ?_
  refine OW_nil ?_
  try simp only [Ex.thnH, Ex.inBlockH, ↓reduceIte, Nat.reduceEqDiff]
  refine hK4 _ _ ?_; try clear hK4 K4
  refine CW_ret ?_
  try simp only [Ex.thnH, Ex.inBlockH, ↓reduceIte, Nat.reduceEqDiff]
  first | refine ⟨[_], ⟨rfl, trivial⟩, H, lhA, ?_, rfl⟩ | refine ⟨[_], ⟨rfl, trivial⟩, _, Le.refl _, ?_, rfl⟩
  first | rfl | (simp; done) | (simp; rfl)

set_option maxRecDepth 100000 in
set_option maxHeartbeats 1000000 in
theorem sure_nil (H : Hp) (dev i : Int) : CallH Try.prog 17 #[.pointer none, .int .i64 dev, .int .i64 i] H (fun v H' => v = Sec.zero.v ∧ H' = H) := by
  refine CallH_enter (l := [_, _, _]) (rl := [.cell 6 38]) (n := 20) Try.func17 rfl rfl rfl rfl rfl ?_
  simp only [envOf, Nat.reduceAdd]
  refine CW_seq (fun K1 hK1 => ?_)
  refine CW_region ?_
  refine OW_opS (fun K hK r => ?_)
  simp only [x_alloc, zr38, orF_some, Value.cells, eX, ↓reduceIte, Nat.reduceEqDiff, Int.reduceToNat]
  intro b6 hb6
  have f6_H : H b6 = none := none_of_le lhA hb6
  try simp only [eX, ↓reduceIte, Nat.reduceEqDiff, Int.reduceToNat]
  refine hK _ _ ?_; clear hK K
  refine OW_nil ?_
  try simp only [Ex.thnH, Ex.inBlockH, ↓reduceIte, Nat.reduceEqDiff]
  refine hK1 _ _ ?_; try clear hK1 K1
  refine CW_seq (fun K2 hK2 => ?_)
  refine CW_region ?_
  refine OW_mv rfl ?_
  refine OW_mv rfl ?_
  refine OW_opS (fun K hK r => ?_)
  simp only [x_callF _ bd30, List.map_toArray, List.map_cons, List.map_nil, eX, ↓reduceIte, Nat.reduceEqDiff, Int.reduceToNat]
  refine (device_nil _ dev).mono ?_
  rintro v H' ⟨rfl, rfl⟩
  try simp only [eX, ↓reduceIte, Nat.reduceEqDiff, Int.reduceToNat]
  refine hK _ _ ?_; clear hK K
  refine OW_as rfl ?_
  refine OW_nil ?_
  try simp only [Ex.thnH, Ex.inBlockH, ↓reduceIte, Nat.reduceEqDiff]
  refine hK2 _ _ ?_; try clear hK2 K2
  refine CW_seq (fun K3 hK3 => ?_)
  refine CW_seq (fun K4 hK4 => ?_)
  refine CW_region ?_
  refine OW_mv rfl ?_
  refine OW_opS (fun K hK r => ?_)
  simp only [x_bin, g_int, g_bool, g_string, g_pointer, g_slice, g_map, g_func, g_nilFunc, g_iface, g_nil_iface, g_nil_r, g_nil_l, eX, ↓reduceIte, Nat.reduceEqDiff, Int.reduceToNat]
  rw [e_eql _ _ _ _ (by simp)]
  rw [q_equal]
  first | rw [q_ptr_nil _ _ _ Try.underlying78] | rw [q_nil_ptr _ _ _ Try.underlying78]
  try simp only [eX, ↓reduceIte, Nat.reduceEqDiff, Int.reduceToNat]
  refine hK _ _ ?_; clear hK K
  refine OW_nil ?_
  try simp only [Ex.thnH, Ex.inBlockH, ↓reduceIte, Nat.reduceEqDiff]
  refine hK4 _ _ ?_; try clear hK4 K4
  refine CW_cond (fun r => rfl) (fun c12 => ?_) (fun c12 => ?_)
  rotate_left; exfalso; exact cnA c12
  refine CW_seq (fun K5 hK5 => ?_)
  refine CW_region ?_
  refine OW_opS (fun K hK r => ?_)
  simp only [x_build, List.map_toArray, List.map_cons, List.map_nil, eX, ↓reduceIte, Nat.reduceEqDiff, Int.reduceToNat]
  rw [l_buildArr Try.underlying38 sz5 zr38]
  simp only [Value.cells]
  simp only [fill_nil, orF_some, List.setIfInBounds_toArray, List.set_cons_zero, List.set_cons_succ]
  try simp only [eX, ↓reduceIte, Nat.reduceEqDiff, Int.reduceToNat]
  refine hK _ _ ?_; clear hK K
  refine OW_op rfl (lt_none) (fun K hK r => ?_)
  simp only [x_store, eX, ↓reduceIte, Nat.reduceEqDiff, Int.reduceToNat]
  first | refine Lt_storeAll sz38 bdA hbA bdA plA (by decide) ?_ | refine Lt_storeAtA sz38 bdA hbA bdA plA (by decide) ?_
  try simp only [eX, ↓reduceIte, Nat.reduceEqDiff, Int.reduceToNat]
  refine hK _ _ ?_; clear hK K
  refine OW_nil ?_
  try simp only [Ex.thnH, Ex.inBlockH, ↓reduceIte, Nat.reduceEqDiff]
  refine hK5 _ _ ?_; try clear hK5 K5
  refine CW_ret ?_
  try simp only [Ex.thnH, Ex.inBlockH, ↓reduceIte, Nat.reduceEqDiff]
  refine ⟨[_], ⟨⟨_, rfl, Lq_loadAll Try.underlying38 rfl sz38 hbA (by simp [Sec.h])⟩, trivial⟩, H, lhA, ?_, rfl⟩
  rfl

set_option maxRecDepth 100000 in
set_option maxHeartbeats 1000000 in
theorem read_nil (H : Hp) (dev i : Int) : CallH Try.prog 16 #[.pointer none, .int .i64 dev, .int .i64 i] H (fun v H' => v = .tuple #[Sec.zero.v, errV (some 3)] ∧ H' = H) := by
  refine CallH_enter (l := [_, _, _]) (rl := [.cell 6 38, .cell 7 28]) (n := 45) Try.func16 rfl rfl rfl rfl rfl ?_
  simp only [envOf, Nat.reduceAdd]
  refine CW_seq (fun K1 hK1 => ?_)
  refine CW_region ?_
  refine OW_opS (fun K hK r => ?_)
  simp only [x_box, Value.cells, eX, ↓reduceIte, Nat.reduceEqDiff, Int.reduceToNat]
  intro b5 hb5
  have f5_H : H b5 = none := none_of_le lhA hb5
  try simp only [eX, ↓reduceIte, Nat.reduceEqDiff, Int.reduceToNat]
  refine hK _ _ ?_; clear hK K
  refine OW_opS (fun K hK r => ?_)
  simp only [x_alloc, zr38, orF_some, Value.cells, eX, ↓reduceIte, Nat.reduceEqDiff, Int.reduceToNat]
  intro b6 hb6
  try have n6_b5 : b5 ≠ b6 := ne_of_none hbA hb6
  have f6_H : H b6 = none := none_of_le lhA hb6
  try simp only [eX, ↓reduceIte, Nat.reduceEqDiff, Int.reduceToNat]
  refine hK _ _ ?_; clear hK K
  refine OW_opS (fun K hK r => ?_)
  simp only [x_alloc, zr28, orF_some, Value.cells, eX, ↓reduceIte, Nat.reduceEqDiff, Int.reduceToNat]
  intro b7 hb7
  try have n7_b5 : b5 ≠ b7 := ne_of_none hbA hb7
  try have n7_b6 : b6 ≠ b7 := ne_of_none hbA hb7
  have f7_H : H b7 = none := none_of_le lhA hb7
  try simp only [eX, ↓reduceIte, Nat.reduceEqDiff, Int.reduceToNat]
  refine hK _ _ ?_; clear hK K
  refine OW_nil ?_
  try simp only [Ex.thnH, Ex.inBlockH, ↓reduceIte, Nat.reduceEqDiff]
  refine hK1 _ _ ?_; try clear hK1 K1
  refine CW_seq (fun K2 hK2 => ?_)
  refine CW_region ?_
  refine OW_mv rfl ?_
  refine OW_mv rfl ?_
  refine OW_opS (fun K hK r => ?_)
  simp only [x_callF _ bd30, List.map_toArray, List.map_cons, List.map_nil, eX, ↓reduceIte, Nat.reduceEqDiff, Int.reduceToNat]
  refine (device_nil _ dev).mono ?_
  rintro v H' ⟨rfl, rfl⟩
  try simp only [eX, ↓reduceIte, Nat.reduceEqDiff, Int.reduceToNat]
  refine hK _ _ ?_; clear hK K
  refine OW_as rfl ?_
  refine OW_nil ?_
  try simp only [Ex.thnH, Ex.inBlockH, ↓reduceIte, Nat.reduceEqDiff]
  refine hK2 _ _ ?_; try clear hK2 K2
  refine CW_seq (fun K3 hK3 => ?_)
  refine CW_block ?_
  refine CW_seq (fun K4 hK4 => ?_)
  refine CW_region ?_
  refine OW_mv rfl ?_
  refine OW_opS (fun K hK r => ?_)
  simp only [x_callF _ bd19, List.map_toArray, List.map_cons, List.map_nil, eX, ↓reduceIte, Nat.reduceEqDiff, Int.reduceToNat]
  refine (down_nil _).mono ?_
  rintro v H' ⟨rfl, rfl⟩
  try simp only [eX, ↓reduceIte, Nat.reduceEqDiff, Int.reduceToNat]
  refine hK _ _ ?_; clear hK K
  refine OW_as rfl ?_
  refine OW_nil ?_
  try simp only [Ex.thnH, Ex.inBlockH, ↓reduceIte, Nat.reduceEqDiff]
  refine hK4 _ _ ?_; try clear hK4 K4
  refine CW_cond (fun r => rfl) (fun c14 => ?_) (fun c14 => ?_)
  rotate_left; exfalso; exact cnA c14
  refine CW_seq (fun K5 hK5 => ?_)
  refine CW_region ?_
  refine OW_opS (fun K hK r => ?_)
  simp only [x_build, List.map_toArray, List.map_cons, List.map_nil, eX, ↓reduceIte, Nat.reduceEqDiff, Int.reduceToNat]
  rw [l_buildArr Try.underlying38 sz5 zr38]
  simp only [Value.cells]
  simp only [fill_nil, orF_some, List.setIfInBounds_toArray, List.set_cons_zero, List.set_cons_succ]
  try simp only [eX, ↓reduceIte, Nat.reduceEqDiff, Int.reduceToNat]
  refine hK _ _ ?_; clear hK K
  refine OW_opS (fun K hK r => ?_)
  simp only [x_makeInterface, i_makeInterface, Try.underlying71, orF_some, eX, ↓reduceIte, Nat.reduceEqDiff, Int.reduceToNat]
  refine hK _ _ ?_; clear hK K
  refine OW_op rfl (lt_none) (fun K hK r => ?_)
  simp only [x_store, eX, ↓reduceIte, Nat.reduceEqDiff, Int.reduceToNat]
  first | refine Lt_storeAll sz38 bdA hbA bdA plA (by decide) ?_ | refine Lt_storeAtA sz38 bdA hbA bdA plA (by decide) ?_
  try simp only [eX, ↓reduceIte, Nat.reduceEqDiff, Int.reduceToNat]
  refine hK _ _ ?_; clear hK K
  refine OW_op rfl (lt_none) (fun K hK r => ?_)
  simp only [x_store, eX, ↓reduceIte, Nat.reduceEqDiff, Int.reduceToNat]
  refine Lt_storeAt1 sz28 hbA bdA plA fzA ?_
  try simp only [setL0, setL1, setL2, setL3, setL4, setL5, setL6, setL7, setL8, setL9]
  try simp only [eX, ↓reduceIte, Nat.reduceEqDiff, Int.reduceToNat]
  refine hK _ _ ?_; clear hK K
  refine OW_nil ?_
  try simp only [Ex.thnH, Ex.inBlockH, ↓reduceIte, Nat.reduceEqDiff]
  refine hK5 _ _ ?_; try clear hK5 K5
  refine CW_ret ?_
  try simp only [Ex.thnH, Ex.inBlockH, ↓reduceIte, Nat.reduceEqDiff]
  refine ⟨[_, _], ⟨⟨_, rfl, Lq_loadAll Try.underlying38 rfl sz38 hbA (by simp [Sec.h])⟩, ⟨_, rfl, Lq_load1 Try.underlying28 rfl hbA ldA⟩, trivial⟩, H, lhA, ?_, rfl⟩
  rfl

set_option maxRecDepth 100000 in
set_option maxHeartbeats 1000000 in
theorem crash_nil (H : Hp) (kv : Value) (hk : plainCell kv = true) : CallH Try.prog 14 #[.pointer none, kv] H (fun _ H' => H' = H) := by
  refine CallH_enter (l := [_, _]) (rl := []) (n := 30) Try.func14 rfl rfl rfl rfl rfl ?_
  simp only [envOf, Nat.reduceAdd]
  refine CW_seq (fun K1 hK1 => ?_)
  refine CW_region ?_
  refine OW_opS (fun K hK r => ?_)
  simp only [x_box, Value.cells, eX, ↓reduceIte, Nat.reduceEqDiff, Int.reduceToNat]
  intro b3 hb3
  have f3_H : H b3 = none := none_of_le lhA hb3
  try simp only [eX, ↓reduceIte, Nat.reduceEqDiff, Int.reduceToNat]
  refine hK _ _ ?_; clear hK K
  refine OW_nil ?_
  try simp only [Ex.thnH, Ex.inBlockH, ↓reduceIte, Nat.reduceEqDiff]
  refine hK1 _ _ ?_; try clear hK1 K1
  refine CW_seq (fun K2 hK2 => ?_)
  refine CW_seq (fun K3 hK3 => ?_)
  refine CW_region ?_
  refine OW_mv rfl ?_
  refine OW_opS (fun K hK r => ?_)
  simp only [x_bin, g_int, g_bool, g_string, g_pointer, g_slice, g_map, g_func, g_nilFunc, g_iface, g_nil_iface, g_nil_r, g_nil_l, eX, ↓reduceIte, Nat.reduceEqDiff, Int.reduceToNat]
  rw [e_eql _ _ _ _ (by simp)]
  rw [q_equal]
  first | rw [q_ptr_nil _ _ _ Try.underlying26] | rw [q_nil_ptr _ _ _ Try.underlying26]
  try simp only [eX, ↓reduceIte, Nat.reduceEqDiff, Int.reduceToNat]
  refine hK _ _ ?_; clear hK K
  refine OW_nil ?_
  try simp only [Ex.thnH, Ex.inBlockH, ↓reduceIte, Nat.reduceEqDiff]
  refine hK3 _ _ ?_; try clear hK3 K3
  refine CW_cond (fun r => rfl) (fun c7 => ?_) (fun c7 => ?_)
  rotate_left; exfalso; exact cnA c7
  refine CW_ret ?_
  try simp only [Ex.thnH, Ex.inBlockH, ↓reduceIte, Nat.reduceEqDiff]
  exact ⟨[], trivial, H, lhA, rfl⟩

end Go.Proofs.Ytkmjncmdhinlgaa.HL
end
section
namespace Go.Proofs.Ytkmjncmdhinlgaa.HL
open Go
theorem l_getObj {P : Program} {H : Hp} {b : Nat} {o : Obj} (hb : H b = some o) (hc : isCells o = false) {K : Obj → Hp → Prop} (h : K o H) : Lt P (getObj b) H K := ⟨o, hb, hc, h⟩
theorem Lt_mclone {P : Program} {H : Hp} {t : TypeId} {b : Nat} {es : Array MapEntry} {c : Nat} (hb : H b = some (.map es c)) {K : Value → Hp → Prop} (h : ∀ r, H r = none → K (.iface t (.map (some r))) (H.upd r (.map es c))) : Lt P (Extern.MapsClone.clone #[.iface t (.map (some b))]) H K := by
  show Lt P (getObj b >>= fun o => match o with
      | .map entries clock => (newObj (.map entries clock) >>= fun n => pure (.iface t (.map (some n))))
      | _ => stuck "maps.clone: a map expected") H K
  rw [l_bind]
  refine l_getObj hb rfl ?_
  simp only [l_pure, l_bind, l_new]
  exact h
end Go.Proofs.Ytkmjncmdhinlgaa.HL
end
section
namespace Go.Proofs.Ytkmjncmdhinlgaa.HL
open Go Go.Proofs
set_option linter.unusedSimpArgs false
set_option linter.unusedVariables false
attribute [local irreducible] Lt Lq CW OW TW CallH


theorem xc50 {H : Hp} {e : Env} {r : Nat → Value} {d : Option Nat} {ty : TypeId} {p : String} {af : Array Edge} {g : Option (Nat × Bool)} (args : Array Operand) (ts : Array TypeId) (K : Next → Hp → Prop) : Lt Try.prog (execOp (ev e r) ⟨d, .call ⟨.value (.func 50), args, ts⟩, ty, p, af, g⟩) H K = Lt Try.prog (Extern.MapsClone.clone (args.map (ev e r))) H (fun v H' => K (.value v) H') := x_callE Try.func50 (by kernel_rfl) (by kernel_rfl) (by kernel_rfl) (by kernel_rfl) args ts K

set_option maxRecDepth 100000 in
set_option maxHeartbeats 1000000 in
theorem mclone_ok (H : Hp) (b : Nat) (es : Array MapEntry) (c : Nat) (hb : H b = some (.map es c)) : CallH Try.prog 43 #[.map (some b)] H (fun v H' => ∃ r, v = .map (some r) ∧ H r = none ∧ H' = H.upd r (.map es c)) := by
  refine CallH_enter (l := [_]) (rl := [.tmp 2]) (n := 9) Try.func43 rfl rfl rfl rfl rfl ?_
  simp only [envOf, Nat.reduceAdd]
  refine CW_seq (fun K1 hK1 => ?_)
  refine CW_region ?_
  refine OW_as rfl ?_
  refine OW_nil ?_
  try simp only [Ex.thnH, Ex.inBlockH, ↓reduceIte, Nat.reduceEqDiff]
  refine hK1 _ _ ?_; try clear hK1 K1
  refine CW_seq (fun K2 hK2 => ?_)
  refine CW_seq (fun K3 hK3 => ?_)
  refine CW_region ?_
  refine OW_mv rfl ?_
  refine OW_opS (fun K hK r => ?_)
  simp only [x_bin, g_int, g_bool, g_string, g_pointer, g_slice, g_map, g_func, g_nilFunc, g_iface, g_nil_iface, g_nil_r, g_nil_l, eX, ↓reduceIte, Nat.reduceEqDiff, Int.reduceToNat]
  rw [e_eql _ _ _ _ (by simp)]
  rw [q_equal, q_map_nil _ _ _ _ Try.underlying79]
  try simp only [eX, ↓reduceIte, Nat.reduceEqDiff, Int.reduceToNat]
  refine hK _ _ ?_; clear hK K
  refine OW_nil ?_
  try simp only [Ex.thnH, Ex.inBlockH, ↓reduceIte, Nat.reduceEqDiff]
  refine hK3 _ _ ?_; try clear hK3 K3
  refine CW_cond (fun r => rfl) (fun c4 => ?_) (fun c4 => ?_)
  · exfalso; exact cnA c4
  refine CW_skip ?_
  try simp only [Ex.thnH, Ex.inBlockH, ↓reduceIte, Nat.reduceEqDiff]
  refine hK2 _ _ ?_; try clear hK2 K2
  refine CW_seq (fun K4 hK4 => ?_)
  refine CW_region ?_
  refine OW_mv rfl ?_
  refine OW_opS (fun K hK r => ?_)
  simp only [x_makeInterface, i_makeInterface, Try.underlying79, orF_some, eX, ↓reduceIte, Nat.reduceEqDiff, Int.reduceToNat]
  refine hK _ _ ?_; clear hK K
  refine OW_opS (fun K hK r => ?_)
  simp only [xc50, List.map_toArray, List.map_cons, List.map_nil, eX, ↓reduceIte, Nat.reduceEqDiff, Int.reduceToNat]
  refine Lt_mclone hb ?_
  intro r7 hr7
  try simp only [eX, ↓reduceIte, Nat.reduceEqDiff, Int.reduceToNat]
  refine hK _ _ ?_; clear hK K
  refine OW_opS (fun K hK r => ?_)
  simp only [x_typeAssert, eX, ↓reduceIte, Nat.reduceEqDiff, Int.reduceToNat]
  first | rw [t_same _ _ _ Try.underlying79 (by simp)] | rw [t_other _ _ _ _ Try.underlying79 (by simp) (by decide) _ _ zr79] | rw [t_nil _ _ _ Try.underlying79 (by simp) _ zr79]
  try simp only [if_true, Bool.false_eq_true, if_false]
  try simp only [eX, ↓reduceIte, Nat.reduceEqDiff, Int.reduceToNat]
  refine hK _ _ ?_; clear hK K
  refine OW_as rfl ?_
  refine OW_nil ?_
  try simp only [Ex.thnH, Ex.inBlockH, ↓reduceIte, Nat.reduceEqDiff]
  refine hK4 _ _ ?_; try clear hK4 K4
  refine CW_ret ?_
  try simp only [Ex.thnH, Ex.inBlockH, ↓reduceIte, Nat.reduceEqDiff]
  exact ⟨[_], ⟨rfl, trivial⟩, _, Le.refl _, r7, rfl, hr7, rfl⟩

set_option maxRecDepth 100000 in
set_option maxHeartbeats 1000000 in
theorem sclone_ok (H : Hp) (a : Option Addr) (cap : Nat) (L : List Wt) (hv : Holds H 65 (.slice a L.length cap) L.length (wts L)) (hl : L.length ≤ 1000000) : CallH Try.prog 44 #[.slice a L.length cap] H (fun v H' => Le H H' ∧ ∃ rs, OwnS H' 87 65 v L.length (wts L) rs ∧ ∀ r, rs = some r → H r = none) := by
  refine CallH_enter (l := [_]) (rl := [.tmp 2]) (n := 8) Try.func44 rfl rfl rfl rfl rfl ?_
  simp only [envOf, Nat.reduceAdd]
  refine CW_seq (fun K1 hK1 => ?_)
  refine CW_region ?_
  refine OW_as rfl ?_
  refine OW_nil ?_
  try simp only [Ex.thnH, Ex.inBlockH, ↓reduceIte, Nat.reduceEqDiff]
  refine hK1 _ _ ?_; try clear hK1 K1
  refine CW_seq (fun K2 hK2 => ?_)
  refine CW_seq (fun K3 hK3 => ?_)
  refine CW_region ?_
  refine OW_mv rfl ?_
  refine OW_opS (fun K hK r => ?_)
  simp only [x_bin, g_int, g_bool, g_string, g_pointer, g_slice, g_map, g_func, g_nilFunc, g_iface, g_nil_iface, g_nil_r, g_nil_l, eX, ↓reduceIte, Nat.reduceEqDiff, Int.reduceToNat]
  rw [e_eql _ _ _ _ (by simp)]
  rw [q_equal, q_slice_nil _ _ _ Try.underlying80]
  try simp only [eX, ↓reduceIte, Nat.reduceEqDiff, Int.reduceToNat]
  refine hK _ _ ?_; clear hK K
  refine OW_nil ?_
  try simp only [Ex.thnH, Ex.inBlockH, ↓reduceIte, Nat.reduceEqDiff]
  refine hK3 _ _ ?_; try clear hK3 K3
  refine CW_cond (fun r => rfl) (fun c4 => ?_) (fun c4 => ?_)
  · first
    | (exfalso; exact cnA c4; done)
    | skip
      have ha : a = none := by cases a <;> simp_all
      refine CW_seq (fun K4 hK4 => ?_)
      refine CW_region ?_
      refine OW_as rfl ?_
      refine OW_nil ?_
      try simp only [Ex.thnH, Ex.inBlockH, ↓reduceIte, Nat.reduceEqDiff]
      refine hK4 _ _ ?_; try clear hK4 K4
      refine CW_ret ?_
      try simp only [Ex.thnH, Ex.inBlockH, ↓reduceIte, Nat.reduceEqDiff]
      subst ha
      have hL0 : L.length = 0 := by
        obtain ⟨h1, ⟨a0, c0, h2, h3⟩ | ⟨b, o, c1, c2, T, f, h2, _⟩⟩ := hv
        · exact h3
        · cases h2
      have hL1 := List.eq_nil_of_length_eq_zero hL0
      subst hL1
      exact ⟨[_], ⟨rfl, trivial⟩, H, lhA, Le.refl _, none, OwnS.nil _ _ _, fun r hr => by cases hr⟩
  · first
    | (exfalso; exact cnA c4; done)
    | skip
      skip
      refine CW_skip ?_
      try simp only [Ex.thnH, Ex.inBlockH, ↓reduceIte, Nat.reduceEqDiff]
      refine hK2 _ _ ?_; try clear hK2 K2
      refine CW_seq (fun K5 hK5 => ?_)
      refine CW_region ?_
      refine OW_opS (fun K hK r => ?_)
      simp only [x_buildSlice, List.map_toArray, List.map_cons, List.map_nil, eX, ↓reduceIte, Nat.reduceEqDiff, Int.reduceToNat]
      refine Lt_buildSlice (vs := []) Try.underlying80 sz87 zr87 rfl bsA (by first | decide | (simp; done)) ?_
      simp only [List.flatMap_cons, List.flatMap_nil, Value.cells, List.append_nil, List.cons_append, List.nil_append, List.length_cons, List.length_nil, Nat.zero_add, Nat.reduceAdd]
      intro b5 hb5
      have f5_H : H b5 = none := none_of_le lhA hb5
      try simp only [eX, ↓reduceIte, Nat.reduceEqDiff, Int.reduceToNat]
      refine hK _ _ ?_; clear hK K
      refine OW_mv rfl ?_
      refine OW_opS (fun K hK r => ?_)
      simp only [x_builtin, l_append, List.map_toArray, List.map_cons, List.map_nil, eX, ↓reduceIte, Nat.reduceEqDiff, Int.reduceToNat]
      refine Lt_appendNew Try.underlying80 sz87 by87 (by decide) zr87 rfl _ (m := L.length) (ds := wts L) hbA (hv.le lhA) (wts_plain _) (by omega) ?_
      intro v7 H7 rs7 hg7 ho7 hr7
      have l7 : Le H H7 := fun z o hz => hg7.known z o ((show Le H _ from lhA) z o hz) (fun e => by cases e; rw [f5_H] at hz; cases hz)
      have hn7 : ∀ r, rs7 = some r → H r = none := fun r e => (hr7 r e).elim (fun e => by rw [e]; exact f5_H) (fun e => none_of_le lhA e)
      refine hK _ _ ?_; clear hK K
      refine OW_as rfl ?_
      refine OW_nil ?_
      try simp only [Ex.thnH, Ex.inBlockH, ↓reduceIte, Nat.reduceEqDiff]
      refine hK5 _ _ ?_; try clear hK5 K5
      refine CW_ret ?_
      try simp only [Ex.thnH, Ex.inBlockH, ↓reduceIte, Nat.reduceEqDiff]
      exact ⟨[_], ⟨rfl, trivial⟩, _, Le.refl _, l7, rs7, ho7, hn7⟩

end Go.Proofs.Ytkmjncmdhinlgaa.HL
end
section
namespace Go.Proofs.Ytkmjncmdhinlgaa.HL
open Go Go.Proofs
set_option linter.unusedSimpArgs false
set_option linter.unusedVariables false
attribute [local irreducible] Lt Lq CW OW TW CallH


theorem bset_ok (H : Hp) (K : Value → Hp → Prop) (a b : Int) (c d : Bool) : Lt Try.prog (Instr.build 77 #[(0, .agg #[.int .i64 a, .int .i64 b, .bool c, .bool d])]) H K = K (.agg #[.int .i64 a, .int .i64 b, .bool c, .bool d, .slice none 0 0]) H := by
  rw [bp77]
  rw [fill_many (l := [.int .i64 a, .int .i64 b, .bool c, .bool d]) (n := 4) rfl rfl rfl (by simp), fill_nil, orF_some]
  rfl
theorem OwnS.part2 {H : Hp} {E : TypeId} {w : Nat} {v : Value} {n : Nat} {cs : List Value} {rs : Option Nat} (h : OwnS H E w v n cs rs) : ∃ G, Le G H ∧ OwnS G E w v n cs rs ∧ ∀ x, G x ≠ none → rs = some x := by
  obtain ⟨h1, ⟨h2, h3, h4⟩ | ⟨r, cap, c, h2, h3, h4, h5, h6, h7⟩⟩ := h
  · exact ⟨emptyHp, le_empty _, ⟨h1, .inl ⟨h2, h3, h4⟩⟩, fun x hx => absurd rfl hx⟩
  · refine ⟨emptyHp.upd r (.cells c E), le_put (le_empty _) h3, ⟨h1, .inr ⟨r, cap, c, h2, upd_same _ _ _, h4, h5, h6, h7⟩⟩, fun x hx => ?_⟩
    by_cases e : x = r
    · rw [e]; exact h7
    · rw [upd_ne _ _ e] at hx; exact absurd rfl hx
/-- so many devices of a copy -/
structure CX (H0 H : Hp) (p : Nat) (s : St) (k : Nat) (v : Value) (rs : Option Nat) (bs : List Nat) (Fs : Nat → Hp) : Prop where
  hd : H p = some (.cells #[.int .i64 s.steps, .int .i64 s.left, .bool s.armed, .bool s.gone, v] 77)
  len : bs.length = k
  own : OwnS H 78 1 v k (bs.map ptrV) rs
  dev : ∀ i, i < k → DvX (Fs i) (bs.getD i 0) (s.dv.getD i default)
  le : ∀ i, i < k → Le (Fs i) H
  fp : ∀ i, i < k → Fs i p = none ∧ ∀ r, rs = some r → Fs i r = none
  sep : ∀ i j, i < k → j < k → i ≠ j → ∀ x, Fs i x ≠ none → Fs j x = none
  fr : ∀ i, i < k → ∀ x, Fs i x ≠ none → H0 x = none
  frr : ∀ r, rs = some r → H0 r = none
  frp : H0 p = none
  old : Le H0 H
theorem CX.ne {H0 H : Hp} {p : Nat} {s : St} {k : Nat} {v : Value} {rs : Option Nat} {bs : List Nat} {Fs : Nat → Hp} (h : CX H0 H p s k v rs bs Fs) : rs ≠ some p := h.own.neT h.hd (by decide)
theorem CX.next {H0 H HF : Hp} {p : Nat} {s : St} {k : Nat} {v : Value} {rs : Option Nat} {bs : List Nat} {Fs : Nat → Hp} (h : CX H0 H p s k v rs bs Fs) {b : Nat} {FK : Hp} {v' : Value} {rs' : Option Nat}
    (hhd : HF p = some (.cells #[.int .i64 s.steps, .int .i64 s.left, .bool s.armed, .bool s.gone, v'] 77)) (hown : OwnS HF 78 1 v' (k + 1) (bs.map ptrV ++ [ptrV b]) rs') (hdv : DvX FK b (s.dv.getD k default)) (hle : Le FK HF) (hnew : ∀ x, FK x ≠ none → H x = none)
    (hkeep : ∀ x o, H x = some o → x ≠ p → rs ≠ some x → HF x = some o) (hr : ∀ r, rs' = some r → rs = some r ∨ (H r = none ∧ FK r = none)) :
    CX H0 HF p s (k + 1) v' rs' (bs ++ [b]) (fun i => if i = k then FK else Fs i) := by
  have dn : ∀ x, H x ≠ none → FK x = none := fun x hx => by
    cases hc : FK x with
    | none => rfl
    | some o => exact absurd (hnew x (by rw [hc]; simp)) hx
  have hkp : ∀ i, i < k → ∀ x, Fs i x ≠ none → H x ≠ none := fun i hi x hx hn => hx (none_of_le (h.le i hi) hn)
  refine ⟨hhd, by simp [h.len], by rw [List.map_append]; exact hown, fun i hi => ?_, fun i hi => ?_, fun i hi => ?_, fun i j hi hj hij x hx => ?_, fun i hi x hx => ?_, fun r e => ?_, h.frp, fun x o hx => hkeep x o (h.old x o hx) (fun e => by subst e; rw [h.frp] at hx; cases hx) (fun e => by rw [h.frr x e] at hx; cases hx)⟩
  · by_cases e : i = k
    · subst e
      simp only [if_true]
      have eb : (bs ++ [b]).getD i 0 = b := by rw [← h.len]; simp [List.getD_eq_getElem?_getD]
      rw [eb]; exact hdv
    · simp only [if_neg e]
      have eb : (bs ++ [b]).getD i 0 = bs.getD i 0 := by
        rw [List.getD_eq_getElem?_getD, List.getD_eq_getElem?_getD, List.getElem?_append_left (by rw [h.len]; omega)]
      rw [eb]; exact h.dev i (by omega)
  · by_cases e : i = k
    · subst e; simp only [if_true]; exact hle
    · simp only [if_neg e]
      have hi' : i < k := by omega
      exact fun x o hx => hkeep x o (h.le i hi' x o hx) (fun e => by subst e; rw [(h.fp i hi').1] at hx; cases hx) (fun e => by rw [(h.fp i hi').2 x e] at hx; cases hx)
  · by_cases e : i = k
    · subst e; simp only [if_true]
      refine ⟨dn p (by rw [h.hd]; simp), fun r e => ?_⟩
      rcases hr r e with h1 | ⟨_, h1⟩
      · exact dn r (h.own.known r h1)
      · exact h1
    · simp only [if_neg e]
      have hi' : i < k := by omega
      refine ⟨(h.fp i hi').1, fun r e => ?_⟩
      rcases hr r e with h1 | ⟨h1, _⟩
      · exact (h.fp i hi').2 r h1
      · exact none_of_le (h.le i hi') h1
  · by_cases e : i = k
    · subst e
      simp only [if_true] at hx
      simp only [if_neg (Ne.symm hij)]
      exact none_of_le (h.le j (by omega)) (hnew x hx)
    · simp only [if_neg e] at hx
      by_cases e2 : j = k
      · subst e2; simp only [if_true]; exact dn x (hkp i (by omega) x hx)
      · simp only [if_neg e2]; exact h.sep i j (by omega) (by omega) hij x hx
  · by_cases e : i = k
    · subst e
      simp only [if_true] at hx
      exact none_of_le h.old (hnew x hx)
    · simp only [if_neg e] at hx; exact h.fr i (by omega) x hx
  · rcases hr r e with h1 | ⟨h1, _⟩
    · exact h.frr r h1
    · exact none_of_le h.old h1
theorem CX.done {H0 H : Hp} {p : Nat} {s : St} {v : Value} {rs : Option Nat} {bs : List Nat} {Fs : Nat → Hp} (h : CX H0 H p s s.dv.length v rs bs Fs) (hl : 1 ≤ s.dv.length) : ∃ F, Stn H0 H F p s := by
  obtain ⟨r, cap, rfl, rfl⟩ : ∃ r cap, v = .slice (some ⟨r, 0, none⟩) s.dv.length cap ∧ rs = some r := by
    obtain ⟨_, ⟨_, h0, _⟩ | ⟨r', cc, c', g1, _, _, _, _, g3⟩⟩ := h.own
    · omega
    · exact ⟨r', cc, g1, g3⟩
  have hs : SX H p s r cap bs Fs := ⟨h.hd, h.len, h.own, h.dev, h.le, fun i hi => ⟨(h.fp i hi).1, (h.fp i hi).2 r rfl⟩, h.sep⟩
  obtain ⟨F, hF, hS, hd⟩ := hs.cut
  refine ⟨F, ⟨_, _, _, _, hS⟩, hF, h.old, fun x hx => ?_⟩
  cases hc : F x with
  | none => rfl
  | some o =>
    exfalso
    rcases hd x (by rw [hc]; simp) with rfl | rfl | ⟨i, hi, hx2⟩
    · exact hx h.frp
    · exact hx (h.frr x rfl)
    · exact hx (h.fr i hi x hx2)

end Go.Proofs.Ytkmjncmdhinlgaa.HL
end
section
namespace Go.Proofs.Ytkmjncmdhinlgaa.HL
open Go Go.Proofs
set_option linter.unusedSimpArgs false
set_option linter.unusedVariables false
attribute [local irreducible] Lt Lq CW OW TW CallH

set_option maxRecDepth 100000 in
set_option maxHeartbeats 8000000 in
theorem copy_ok (H F : Hp) (p : Nat) (s : St) (rd cap : Nat) (bs : List Nat) (Fs : Nat → Hp) (hX : SX F p s rd cap bs Fs) (hle : Le F H) (h1 : 1 ≤ s.dv.length) (h2 : s.dv.length ≤ 1000) (hw : ∀ i, (s.dv.getD i default).wait.length ≤ 1000000) : CallH Try.prog 27 #[.pointer (some ⟨p, 0, none⟩)] H (fun v H' => ∃ q F', v = ptrV q ∧ Stn H H' F' q s) := by
  refine CallH_enter (l := [_]) (rl := [.tmp 2]) (n := 50) Try.func27 rfl rfl rfl rfl rfl ?_
  simp only [envOf, Nat.reduceAdd]
  have hpH := hle _ _ hX.hd
  refine CW_seq (fun K1 hK1 => ?_)
  refine CW_region ?_
  refine OW_as rfl ?_
  refine OW_nil ?_
  try simp only [Ex.thnH, Ex.inBlockH, ↓reduceIte, Nat.reduceEqDiff]
  refine hK1 _ _ ?_; try clear hK1 K1
  refine CW_seq (fun K2 hK2 => ?_)
  refine CW_seq (fun K3 hK3 => ?_)
  refine CW_region ?_
  refine OW_mv rfl ?_
  refine OW_opS (fun K hK r => ?_)
  simp only [x_bin, g_int, g_bool, g_string, g_pointer, g_slice, g_map, g_func, g_nilFunc, g_iface, g_nil_iface, g_nil_r, g_nil_l, eX, ↓reduceIte, Nat.reduceEqDiff, Int.reduceToNat]
  rw [e_eql _ _ _ _ (by simp)]
  rw [q_equal]
  first | rw [q_ptr_nil _ _ _ Try.underlying26] | rw [q_nil_ptr _ _ _ Try.underlying26]
  try simp only [eX, ↓reduceIte, Nat.reduceEqDiff, Int.reduceToNat]
  refine hK _ _ ?_; clear hK K
  refine OW_nil ?_
  try simp only [Ex.thnH, Ex.inBlockH, ↓reduceIte, Nat.reduceEqDiff]
  refine hK3 _ _ ?_; try clear hK3 K3
  refine CW_cond (fun r => rfl) (fun c7 => ?_) (fun c7 => ?_)
  · exfalso; exact cnA c7
  refine CW_skip ?_
  try simp only [Ex.thnH, Ex.inBlockH, ↓reduceIte, Nat.reduceEqDiff]
  refine hK2 _ _ ?_; try clear hK2 K2
  refine CW_seq (fun K4 hK4 => ?_)
  refine CW_region ?_
  refine OW_mv rfl ?_
  refine OW_opS (fun K hK r => ?_)
  rw [x_nilCheck _ _ rfl]
  simp only [eX, ↓reduceIte, Nat.reduceEqDiff, Int.reduceToNat]
  refine hK _ _ ?_; clear hK K
  refine OW_opS (fun K hK r => ?_)
  simp only [x_fieldAddr, fa77_0, add_mk, Nat.reduceAdd, Nat.zero_add, eX, ↓reduceIte, Nat.reduceEqDiff, Int.reduceToNat]
  refine hK _ _ ?_; clear hK K
  refine OW_opS (fun K hK r => ?_)
  simp only [x_load, eX, ↓reduceIte, Nat.reduceEqDiff, Int.reduceToNat]
  first | refine Lt_loadAll Try.underlying74 rfl sz74 hbA bdA ?_ | refine Lt_loadAtA Try.underlying74 rfl sz74 hbA bdA ?_
  try simp only [List.extract_toArray, List.extract_eq_take_drop, Nat.zero_add, Nat.reduceAdd, Nat.reduceSub, Nat.sub_zero, List.drop_succ_cons, List.drop_zero, List.take_succ_cons, List.take_zero, List.take_nil, List.drop_nil]
  try simp only [eX, ↓reduceIte, Nat.reduceEqDiff, Int.reduceToNat]
  refine hK _ _ ?_; clear hK K
  refine OW_opS (fun K hK r => ?_)
  simp only [x_build, List.map_toArray, List.map_cons, List.map_nil, eX, ↓reduceIte, Nat.reduceEqDiff, Int.reduceToNat]
  rw [bset_ok]
  refine hK _ _ ?_; clear hK K
  refine OW_opS (fun K hK r => ?_)
  simp only [x_box, Value.cells, eX, ↓reduceIte, Nat.reduceEqDiff, Int.reduceToNat]
  intro b13 hb13
  have f13_H : H b13 = none := none_of_le lhA hb13
  have n13p : p ≠ b13 := ne_of_none hpH hb13
  try simp only [eX, ↓reduceIte, Nat.reduceEqDiff, Int.reduceToNat]
  refine hK _ _ ?_; clear hK K
  refine OW_as rfl ?_
  refine OW_nil ?_
  try simp only [Ex.thnH, Ex.inBlockH, ↓reduceIte, Nat.reduceEqDiff]
  refine hK4 _ _ ?_; try clear hK4 K4
  refine CW_seq (fun K5 hK5 => ?_)
  refine CW_seq (fun K6 hK6 => ?_)
  refine CW_region ?_
  refine OW_mv rfl ?_
  refine OW_opS (fun K hK r => ?_)
  rw [x_nilCheck _ _ rfl]
  simp only [eX, ↓reduceIte, Nat.reduceEqDiff, Int.reduceToNat]
  refine hK _ _ ?_; clear hK K
  refine OW_opS (fun K hK r => ?_)
  simp only [x_fieldAddr, fa77_1, add_mk, Nat.reduceAdd, Nat.zero_add, eX, ↓reduceIte, Nat.reduceEqDiff, Int.reduceToNat]
  refine hK _ _ ?_; clear hK K
  refine OW_opS (fun K hK r => ?_)
  simp only [x_load, eX, ↓reduceIte, Nat.reduceEqDiff, Int.reduceToNat]
  refine Lt_loadAt1 Try.underlying75 rfl hbA ldA ?_
  try simp only [eX, ↓reduceIte, Nat.reduceEqDiff, Int.reduceToNat]
  refine hK _ _ ?_; clear hK K
  refine OW_opS (fun K hK r => ?_)
  simp only [x_builtin, l_len, List.map_toArray, List.map_cons, List.map_nil, i_len_slice _ _ Try.underlying75, eX, ↓reduceIte, Nat.reduceEqDiff, Int.reduceToNat]
  refine hK _ _ ?_; clear hK K
  refine OW_mv rfl ?_
  refine OW_nil ?_
  try simp only [Ex.thnH, Ex.inBlockH, ↓reduceIte, Nat.reduceEqDiff]
  refine hK6 _ _ ?_; try clear hK6 K6
  refine CW_block ?_
  refine CW_loop (fun m_ e H_ => ∃ (k : Nat) (v : Value) (rs : Option Nat) (cs : List Nat) (Gs : Nat → Hp), k ≤ s.dv.length ∧ m_ = s.dv.length - k ∧ CX H H_ b13 s k v rs cs Gs ∧ Env.has [(3, .pointer (some ⟨b13, 0, none⟩)), (17, .slice (some ⟨rd, 0, none⟩) s.dv.length cap), (18, .int .i64 s.dv.length), (19, .int .i64 k)] e) (s.dv.length) ?_ ?_
  · skip
    refine ⟨0, .slice none 0 0, none, [], fun _ => emptyHp, by omega, by omega, ⟨upd_same _ _ _, rfl, OwnS.nil _ _ _, (fun i hi => absurd hi (by omega)), (fun i hi => absurd hi (by omega)), (fun i hi => absurd hi (by omega)), (fun i j hi => absurd hi (by omega)), (fun i hi => absurd hi (by omega)), (fun r hr => by cases hr), hb13, le_upd _ _ _ hb13⟩, rfl, rfl, rfl, rfl, trivial⟩
  intro m_ e_ H_ hI_
  obtain ⟨k, v, rs, cs, Gs, hk, rfl, hN, he⟩ := hI_
  refine CW_env he.sub ?_; clear he e_
  have kp := hN.hd
  have hOld := hN.old
  obtain ⟨va, vc, rfl⟩ := hN.own.holds.form
  refine CW_seq (fun K7 hK7 => ?_)
  refine CW_region ?_
  refine OW_opS (fun K hK r => ?_)
  simp (disch := (first | omega | decide)) only [x_bin, g_int, b_lss, dec_lt_t, dec_lt_f, dec_le_t, dec_le_f, dec_eq_t, dec_eq_f, Bool.not_true, Bool.not_false, eX, ↓reduceIte, Nat.reduceEqDiff, Int.reduceToNat]
  refine hK _ _ ?_; clear hK K
  refine OW_nil ?_
  try simp only [Ex.thnH, Ex.inBlockH, ↓reduceIte, Nat.reduceEqDiff]
  refine hK7 _ _ ?_; try clear hK7 K7
  refine CW_seq (fun K8 hK8 => ?_)
  refine CW_cond (fun r => rfl) (fun c20 => ?_) (fun c20 => ?_)
  · first
    | (exfalso; exact cnA c20; done)
    | skip
      (try simp only [decide_eq_true_eq, decide_eq_false_iff_not, Bool.not_eq_true, Bool.not_eq_false, Bool.and_eq_true, Bool.or_eq_true, Bool.or_eq_false_iff, Bool.not_eq_true, Bool.not_eq_eq_eq_not, Bool.not_true, Bool.not_false] at c20)
      obtain ⟨cr, Tr, fr, hr1, hr2, hr3⟩ := hX.at (show k < s.dv.length by omega)
      obtain ⟨mb, es, ck, wv, wrs, d1, d2, d3, d4, d5⟩ := hX.dev k (by omega)
      have lFH := Le.trans (hX.le k (by omega)) hle
      have dw := d4.holds.le (Le.trans lFH hOld)
      obtain ⟨wa, wc, rfl⟩ := dw.form
      have D1 := Le.trans lFH hOld _ _ d1
      have D2 := Le.trans lFH hOld _ _ d2
      have nbd : b13 ≠ (bs.getD k 0) := fun e => by have := lFH _ _ d1; rw [← e, hN.frp] at this; cases this
      refine CW_skip ?_
      try simp only [Ex.thnH, Ex.inBlockH, ↓reduceIte, Nat.reduceEqDiff]
      refine hK8 _ _ ?_; try clear hK8 K8
      refine CW_seq (fun K9 hK9 => ?_)
      refine CW_block ?_
      refine CW_seq (fun K10 hK10 => ?_)
      refine CW_region ?_
      refine OW_opS (fun K hK r => ?_)
      simp only [x_indexAddr, eX, ↓reduceIte, Nat.reduceEqDiff, Int.reduceToNat]
      refine Lt_indexS Try.underlying75 sz78 ixA ixA ?_
      try simp only [add_mk, Nat.mul_one, Nat.zero_add, Int.reduceToNat]
      try simp only [eX, ↓reduceIte, Nat.reduceEqDiff, Int.reduceToNat]
      refine hK _ _ ?_; clear hK K
      refine OW_opS (fun K hK r => ?_)
      simp only [x_load, eX, ↓reduceIte, Nat.reduceEqDiff, Int.reduceToNat]
      refine Lt_loadAt1 Try.underlying78 rfl (hOld _ _ (hle _ _ hr1)) (v := ptrV (bs.getD k 0)) (by first | exact hr2 | (rw [Nat.mul_one]; exact hr2) | (simpa using hr2)) ?_
      refine hK _ _ ?_; clear hK K
      refine OW_as rfl ?_
      refine OW_nil ?_
      try simp only [Ex.thnH, Ex.inBlockH, ↓reduceIte, Nat.reduceEqDiff]
      refine hK10 _ _ ?_; try clear hK10 K10
      obtain ⟨R7, hR7⟩ : ∃ R : Hp, R = (emptyHp.upd b13 (.cells #[.int .i64 s.steps, .int .i64 s.left, .bool s.armed, .bool s.gone, .slice va k vc] 77)).upd (bs.getD k 0) (.cells #[.int .i64 (s.dv.getD k default).size, .map (some mb), .slice wa (s.dv.getD k default).wait.length wc] 82) := ⟨_, rfl⟩
      refine CW_drawR [0, 0, 0, 0, 1, 0, 0, 0, 1, 0, 0, 0, 1, 2, 0, 0, 0, 1, 2, 0, 2, 2, 2, 0, 0, 3] [0, 1, 2, 3, 4, 5, 6, 7, 8, 9, 10, 11, 12, 13, 14, 15, 16, 17, 18, 19, 20, 21, 22, 23, 24, 25] R7 (by kernel_rfl) (by kernel_rfl) (by subst hR7; exact le_put (le_put (le_empty _) kp) D1) (fun lR7 => ?_)
      apply TW_pure rfl (lt_some (by decide)) rfl
      · intro r
        simp only [x_move, eX, ↓reduceIte, Nat.reduceEqDiff]
        exact ⟨rfl, Le.refl _⟩
      simp only [eX, ↓reduceIte, Nat.reduceEqDiff, Int.reduceToNat]
      apply TW_pure rfl (lt_some (by decide)) rfl
      · intro r
        simp only [x_move, eX, ↓reduceIte, Nat.reduceEqDiff]
        exact ⟨rfl, Le.refl _⟩
      simp only [eX, ↓reduceIte, Nat.reduceEqDiff, Int.reduceToNat]
      apply TW_pure rfl (lt_some (by decide)) rfl
      · intro r
        rw [x_nilCheck _ _ rfl]
        exact ⟨rfl, Le.refl _⟩
      simp only [eX, ↓reduceIte, Nat.reduceEqDiff, Int.reduceToNat]
      apply TW_pure rfl (lt_some (by decide)) rfl
      · intro r
        simp only [x_fieldAddr, fa77_1, add_mk, Nat.reduceAdd, Nat.zero_add, eX, ↓reduceIte, Nat.reduceEqDiff]
        exact ⟨rfl, Le.refl _⟩
      simp only [eX, ↓reduceIte, Nat.reduceEqDiff, Int.reduceToNat]
      apply TW_look rfl (lt_some (by decide)) rfl
      · intro r
        simp only [x_load, eX, ↓reduceIte, Nat.reduceEqDiff]
        refine Lt_loadAt1 Try.underlying75 rfl (by rw [hR7]; exact (upd_ne _ _ nbd).trans (upd_same _ _ _)) (v := .slice va k vc) rfl ?_
        exact ⟨rfl, Le.refl _⟩
      simp only [eX, ↓reduceIte, Nat.reduceEqDiff, Int.reduceToNat]
      apply TW_pure rfl (lt_some (by decide)) rfl
      · intro r
        simp only [x_move, eX, ↓reduceIte, Nat.reduceEqDiff]
        exact ⟨rfl, Le.refl _⟩
      simp only [eX, ↓reduceIte, Nat.reduceEqDiff, Int.reduceToNat]
      apply TW_pure rfl (lt_some (by decide)) rfl
      · intro r
        rw [x_nilCheck _ _ rfl]
        exact ⟨rfl, Le.refl _⟩
      simp only [eX, ↓reduceIte, Nat.reduceEqDiff, Int.reduceToNat]
      apply TW_pure rfl (lt_some (by decide)) rfl
      · intro r
        simp only [x_fieldAddr, fa82_0, add_mk, Nat.reduceAdd, Nat.zero_add, eX, ↓reduceIte, Nat.reduceEqDiff]
        exact ⟨rfl, Le.refl _⟩
      simp only [eX, ↓reduceIte, Nat.reduceEqDiff, Int.reduceToNat]
      apply TW_look rfl (lt_some (by decide)) rfl
      · intro r
        simp only [x_load, eX, ↓reduceIte, Nat.reduceEqDiff]
        refine Lt_loadAt1 Try.underlying3 rfl (by rw [hR7]; exact upd_same _ _ _) (v := .int .i64 (s.dv.getD k default).size) rfl ?_
        exact ⟨rfl, Le.refl _⟩
      simp only [eX, ↓reduceIte, Nat.reduceEqDiff, Int.reduceToNat]
      apply TW_pure rfl (lt_some (by decide)) rfl
      · intro r
        simp only [x_move, eX, ↓reduceIte, Nat.reduceEqDiff]
        exact ⟨rfl, Le.refl _⟩
      simp only [eX, ↓reduceIte, Nat.reduceEqDiff, Int.reduceToNat]
      apply TW_pure rfl (lt_some (by decide)) rfl
      · intro r
        rw [x_nilCheck _ _ rfl]
        exact ⟨rfl, Le.refl _⟩
      simp only [eX, ↓reduceIte, Nat.reduceEqDiff, Int.reduceToNat]
      apply TW_pure rfl (lt_some (by decide)) rfl
      · intro r
        simp only [x_fieldAddr, fa82_1, add_mk, Nat.reduceAdd, Nat.zero_add, eX, ↓reduceIte, Nat.reduceEqDiff]
        exact ⟨rfl, Le.refl _⟩
      simp only [eX, ↓reduceIte, Nat.reduceEqDiff, Int.reduceToNat]
      apply TW_look rfl (lt_some (by decide)) rfl
      · intro r
        simp only [x_load, eX, ↓reduceIte, Nat.reduceEqDiff]
        refine Lt_loadAt1 Try.underlying79 rfl (by rw [hR7]; exact upd_same _ _ _) (v := .map (some mb)) rfl ?_
        exact ⟨rfl, Le.refl _⟩
      simp only [eX, ↓reduceIte, Nat.reduceEqDiff, Int.reduceToNat]
      refine TW_chain rfl (lt_some (by decide)) rfl (fun K hK r => ?_)
      simp only [x_callF _ bd43, List.map_toArray, List.map_cons, List.map_nil, eX, ↓reduceIte, Nat.reduceEqDiff, Int.reduceToNat]
      refine (mclone_ok _ mb es ck D2).mono ?_
      rintro v36 H36 ⟨r36, rfl, hr36, rfl⟩
      have lR36 : Le R7 (H_.upd r36 (.map es ck)) := le_upd_of lR7 (none_of_le lR7 hr36)
      try simp only [eX, ↓reduceIte, Nat.reduceEqDiff, Int.reduceToNat]
      refine hK _ _ leA ?_; clear hK K
      apply TW_pure rfl (lt_some (by decide)) rfl
      · intro r
        simp only [x_move, eX, ↓reduceIte, Nat.reduceEqDiff]
        exact ⟨rfl, Le.refl _⟩
      simp only [eX, ↓reduceIte, Nat.reduceEqDiff, Int.reduceToNat]
      apply TW_pure rfl (lt_some (by decide)) rfl
      · intro r
        rw [x_nilCheck _ _ rfl]
        exact ⟨rfl, Le.refl _⟩
      simp only [eX, ↓reduceIte, Nat.reduceEqDiff, Int.reduceToNat]
      apply TW_pure rfl (lt_some (by decide)) rfl
      · intro r
        simp only [x_fieldAddr, fa82_2, add_mk, Nat.reduceAdd, Nat.zero_add, eX, ↓reduceIte, Nat.reduceEqDiff]
        exact ⟨rfl, Le.refl _⟩
      simp only [eX, ↓reduceIte, Nat.reduceEqDiff, Int.reduceToNat]
      apply TW_look rfl (lt_some (by decide)) rfl
      · intro r
        simp only [x_load, eX, ↓reduceIte, Nat.reduceEqDiff]
        refine Lt_loadAt1 Try.underlying80 rfl (by rw [hR7]; exact upd_same _ _ _) (v := .slice wa (s.dv.getD k default).wait.length wc) rfl ?_
        exact ⟨rfl, Le.refl _⟩
      simp only [eX, ↓reduceIte, Nat.reduceEqDiff, Int.reduceToNat]
      refine TW_chain rfl (lt_some (by decide)) rfl (fun K hK r => ?_)
      simp only [x_callF _ bd44, List.map_toArray, List.map_cons, List.map_nil, eX, ↓reduceIte, Nat.reduceEqDiff, Int.reduceToNat]
      refine (sclone_ok _ wa wc (s.dv.getD k default).wait (dw.le (le_upd _ _ _ hr36)) (hw k)).mono ?_
      rintro v41 H41 ⟨l41, rs41, ho41, hn41⟩
      obtain ⟨wa41, wc41, rfl⟩ := ho41.holds.form
      have lR41 : Le R7 H41 := Le.trans lR36 l41
      have lHH41 : Le H H41 := Le.trans hOld (Le.trans (le_upd _ _ _ hr36) l41)
      try simp only [eX, ↓reduceIte, Nat.reduceEqDiff, Int.reduceToNat]
      refine hK _ _ leA ?_; clear hK K
      apply TW_pure rfl (lt_some (by decide)) rfl
      · intro r
        simp only [x_build, bp82, List.map_toArray, List.map_cons, List.map_nil, eX, ↓reduceIte, Nat.reduceEqDiff]
        rw [fill_one rfl clA bdA]
        rw [fill_one rfl clA bdA]
        rw [fill_one rfl clA bdA]
        simp only [fill_nil, orF_some, List.setIfInBounds_toArray, List.set_cons_zero, List.set_cons_succ]
        exact ⟨rfl, Le.refl _⟩
      simp only [eX, ↓reduceIte, Nat.reduceEqDiff, Int.reduceToNat]
      refine TW_chain rfl (lt_some (by decide)) rfl (fun K hK r => ?_)
      simp only [x_box, Value.cells, eX, ↓reduceIte, Nat.reduceEqDiff, Int.reduceToNat]
      intro b43 hb43
      try have n43_b13 : b13 ≠ b43 := ne_of_none hbA hb43
      have f43_H : H b43 = none := none_of_le lhA hb43
      have f43_R7 : R7 b43 = none := none_of_le lhA hb43
      try simp only [eX, ↓reduceIte, Nat.reduceEqDiff, Int.reduceToNat]
      refine hK _ _ leA ?_; clear hK K
      refine TW_chain rfl (lt_some (by decide)) rfl (fun K hK r => ?_)
      simp only [x_buildSlice, List.map_toArray, List.map_cons, List.map_nil, eX, ↓reduceIte, Nat.reduceEqDiff, Int.reduceToNat]
      refine Lt_buildSlice (vs := [_]) Try.underlying75 sz78 zr78 rfl bsA (by first | decide | (simp; done)) ?_
      simp only [List.flatMap_cons, List.flatMap_nil, Value.cells, List.append_nil, List.cons_append, List.nil_append, List.length_cons, List.length_nil, Nat.zero_add, Nat.reduceAdd]
      intro b44 hb44
      try have n44_b13 : b13 ≠ b44 := ne_of_none hbA hb44
      try have n44_b43 : b43 ≠ b44 := ne_of_none hbA hb44
      have f44_H : H b44 = none := none_of_le lhA hb44
      have f44_R7 : R7 b44 = none := none_of_le lhA hb44
      try simp only [eX, ↓reduceIte, Nat.reduceEqDiff, Int.reduceToNat]
      refine hK _ _ leA ?_; clear hK K
      refine TW_chain rfl (lt_some (by decide)) rfl (fun K hK r => ?_)
      simp only [x_builtin, l_append, List.map_toArray, List.map_cons, List.map_nil, eX, ↓reduceIte, Nat.reduceEqDiff, Int.reduceToNat]
      obtain ⟨G41, lG41, oG41, xG41⟩ := ho41.part2
      have lH41 : Le H_ H41 := Le.trans (le_upd _ _ _ hr36) l41
      have ow41 := hN.own.stay (H' := H41) (fun b o _ ho => lH41 b o ho)
      have hb43' : H41 b43 = none := hb43
      have hb44' : H41 b44 = none := none_of_le (le_upd _ _ _ hb43') hb44
      have k36 := l41 _ _ (upd_same _ _ _)
      have n3643 : r36 ≠ b43 := ne_of_none k36 hb43'
      have x36 : rs41 ≠ some r36 := fun e => by have := hn41 _ e; rw [upd_same] at this; cases this
      have x43 : rs41 ≠ some b43 := fun e => ho41.known _ e hb43'
      have y43 : H_ b43 = none := none_of_le lH41 hb43'
      have n1344 : b13 ≠ b44 := ne_of_none (lH41 _ _ kp) hb44'
      have n1343 : b13 ≠ b43 := ne_of_none kp y43
      have n4344 : b43 ≠ b44 := ne_of_none (upd_same _ _ _) hb44
      obtain ⟨FK, hFK⟩ : ∃ G : Hp, G = (G41.upd r36 (.map es ck)).upd b43 (.cells #[.int .i64 (s.dv.getD k default).size, .map (some r36), .slice wa41 (s.dv.getD k default).wait.length wc41] 82) := ⟨_, rfl⟩
      have cFK : ∀ x, FK x ≠ none → x = b43 ∨ x = r36 ∨ rs41 = some x := fun x hx => by
        by_cases e : x = b43
        · exact .inl e
        · by_cases e2 : x = r36
          · exact .inr (.inl e2)
          · rw [hFK, upd_ne _ _ e, upd_ne _ _ e2] at hx; exact .inr (.inr (xG41 x hx))
      have nFK : ∀ x, FK x ≠ none → H_ x = none := fun x hx => by
        rcases cFK x hx with rfl | rfl | e
        · exact y43
        · exact hr36
        · exact upd_none (hn41 x e)
      have lFK : Le FK (H41.upd b43 (.cells #[.int .i64 (s.dv.getD k default).size, .map (some r36), .slice wa41 (s.dv.getD k default).wait.length wc41] 82)) := by
        rw [hFK]
        exact le_put (le_upd_of (le_put lG41 k36) (by rw [upd_ne _ _ (Ne.symm n3643)]; exact none_of_le lG41 hb43')) (upd_same _ _ _)
      have dFK : DvX FK b43 (s.dv.getD k default) := by
        rw [hFK]
        exact ⟨r36, es, ck, _, rs41, upd_same _ _ _, (upd_ne _ _ n3643).trans (upd_same _ _ _), d3, (oG41.upd x36).upd x43, fun x hx => (cFK x (by rw [hFK]; exact hx)).elim .inl (fun e => .inr e)⟩
      refine Lt_append1 Try.underlying75 sz78 by78 (by decide) zr78 rfl _ ((ow41.make hb43').make hb44) (x := ptrV b43) hbA rfl (by omega) ?_
      intro v45 H45 rs45 hg45 ho45 hr45
      obtain ⟨wa45, wc45, rfl⟩ := ho45.holds.form
      have xrs : ∀ x, H_ x = none → rs ≠ some x := fun x hx e => hN.own.known x e hx
      have q45 : ∀ x o, (H41.upd b43 (.cells #[.int .i64 (s.dv.getD k default).size, .map (some r36), .slice wa41 (s.dv.getD k default).wait.length wc41] 82)) x = some o → rs ≠ some x → H45 x = some o := fun x o hx hn => hg45.known x o (le_upd _ _ _ hb44 x o hx) hn
      have kp45 := q45 b13 _ (le_upd _ _ _ hb43' _ _ (lH41 _ _ kp)) hN.ne
      have lR45 : Le R7 H45 := by
        rw [hR7]
        exact le_put (le_put (le_empty _) kp45) (q45 _ _ (le_upd _ _ _ hb43' _ _ (lH41 _ _ D1)) (fun e => by have := hN.frr _ e; rw [lFH _ _ d1] at this; cases this))
      refine hK _ _ leA ?_; clear hK K
      apply TW_pure rfl (lt_some (by decide)) rfl
      · intro r
        rw [x_nilCheck _ _ rfl]
        exact ⟨rfl, Le.refl _⟩
      simp only [eX, ↓reduceIte, Nat.reduceEqDiff, Int.reduceToNat]
      apply TW_pure rfl (lt_some (by decide)) rfl
      · intro r
        simp only [x_fieldAddr, fa77_1, add_mk, Nat.reduceAdd, Nat.zero_add, eX, ↓reduceIte, Nat.reduceEqDiff]
        exact ⟨rfl, Le.refl _⟩
      simp only [eX, ↓reduceIte, Nat.reduceEqDiff, Int.reduceToNat]
      refine TW_last rfl (lt_none) rfl (fun K hK r => ?_)
      simp only [x_store, eX, ↓reduceIte, Nat.reduceEqDiff, Int.reduceToNat]
      refine Lt_storeAt1 sz75 hbA bdA plA fzA ?_
      try simp only [setL0, setL1, setL2, setL3, setL4, setL5, setL6, setL7, setL8, setL9]
      try simp only [eX, ↓reduceIte, Nat.reduceEqDiff, Int.reduceToNat]
      refine hK _ _ ?_; clear hK K
      refine TW_nil ?_
      try simp only [Ex.thnH, Ex.inBlockH, ↓reduceIte, Nat.reduceEqDiff]
      refine hK9 _ _ ?_; try clear hK9 K9
      refine CW_region ?_
      refine OW_opS (fun K hK r => ?_)
      simp (disch := (first | omega | decide)) only [x_bin, g_int, b_add, wrap_i64, wrap_u64, wrap_u32, wrap_u8, eX, ↓reduceIte, Nat.reduceEqDiff, Int.reduceToNat]
      refine hK _ _ ?_; clear hK K
      refine OW_mv rfl ?_
      refine OW_nil ?_
      try simp only [Ex.thnH, Ex.inBlockH, ↓reduceIte, Nat.reduceEqDiff]
      have hN' := hN.next (HF := H45.upd b13 (.cells #[.int .i64 s.steps, .int .i64 s.left, .bool s.armed, .bool s.gone, .slice wa45 (k + 1) wc45] 77)) (b := b43) (FK := FK) (v' := .slice wa45 (k + 1) wc45) (rs' := rs45) (upd_same _ _ _) (ho45.upd (ho45.neT kp45 (by decide))) dFK (fun x o hx => by
        have hx0 := nFK x (by rw [hx]; simp)
        exact (upd_ne _ _ (fun e => by rw [e, kp] at hx0; cases hx0)).trans (q45 x o (lFK x o hx) (xrs x hx0))) nFK (fun x o hx hxp hxr => (upd_ne _ _ hxp).trans (q45 x o (le_upd _ _ _ hb43' _ _ (lH41 _ _ hx)) hxr)) (fun r e => (hr45 r e).imp id (fun hn => ⟨none_of_le lH41 (upd_none (upd_none hn)), none_of_le lFK (upd_none hn)⟩))
      exact ⟨s.dv.length - (k + 1), by omega, k + 1, _, rs45, cs ++ [b43], _, by omega, rfl, hN', rfl, rfl, rfl, rfl, trivial⟩
  · first
    | (exfalso; exact cnA c20; done)
    | skip
      (try simp only [decide_eq_true_eq, decide_eq_false_iff_not, Bool.not_eq_true, Bool.not_eq_false, Bool.and_eq_true, Bool.or_eq_true, Bool.or_eq_false_iff, Bool.not_eq_true, Bool.not_eq_eq_eq_not, Bool.not_true, Bool.not_false] at c20)
      have hkn : k = s.dv.length := by omega
      refine CW_exit ?_
      try simp only [Ex.thnH, Ex.inBlockH, ↓reduceIte, Nat.reduceEqDiff]
      refine hK5 _ _ ?_; try clear hK5 K5
      refine CW_seq (fun K11 hK11 => ?_)
      refine CW_region ?_
      refine OW_mv rfl ?_
      refine OW_as rfl ?_
      refine OW_nil ?_
      try simp only [Ex.thnH, Ex.inBlockH, ↓reduceIte, Nat.reduceEqDiff]
      refine hK11 _ _ ?_; try clear hK11 K11
      refine CW_ret ?_
      try simp only [Ex.thnH, Ex.inBlockH, ↓reduceIte, Nat.reduceEqDiff]
      subst hkn
      obtain ⟨F', hF'⟩ := hN.done h1
      exact ⟨[_], ⟨rfl, trivial⟩, _, Le.refl _, b13, F', rfl, hF'⟩

end Go.Proofs.Ytkmjncmdhinlgaa.HL
end
