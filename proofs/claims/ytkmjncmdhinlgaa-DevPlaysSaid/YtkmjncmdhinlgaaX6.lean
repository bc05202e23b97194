/- Parts of the proof, one behind the other: D51, D52. -/
import Derived.Test.YtkmjncmdhinlgaaX5
set_option linter.unusedSimpArgs false
set_option linter.unusedVariables false
section
namespace Go.Proofs.Ytkmjncmdhinlgaa.HL
open Go Go.Proofs
set_option linter.unusedSimpArgs false
set_option linter.unusedVariables false
attribute [local irreducible] Lt Lq CW OW TW CallH


section
variable {k : Nat} {s : St} {m : RSt} {X : List RDX}
theorem PR.at (h : PR k s m) (hm : m.dv = rdv X) {i : Nat} (hi : i < X.length) : RlD (s.dv.getD i default) (X.getD i default).d ∧ i < s.dv.length := by
  have hlen : m.dv.length = X.length := by rw [hm]; simp
  have := h.rl.dv i (by omega)
  rw [hm, rdv_at] at this
  exact ⟨this, by rw [h.rl.len]; omega⟩
theorem PR.su (h : PR k s m) (hm : m.dv = rdv X) {i : Nat} (hi : i < X.length) (z : Int) : s.su i z = if 0 ≤ z ∧ z < (X.getD i default).d.sec.length then (X.getD i default).d.sec.getD z.toNat default else Sec.zero := by
  obtain ⟨h1, h2⟩ := h.at hm hi
  unfold St.su
  rw [if_pos (by omega), Int.toNat_natCast, h1.su]
theorem PR.szE (h : PR k s m) (hm : m.dv = rdv X) {i : Nat} (hi : i < X.length) : s.sz i = (X.getD i default).d.sec.length := by
  obtain ⟨h1, h2⟩ := h.at hm hi
  unfold St.sz
  rw [if_pos (by omega), Int.toNat_natCast, h1.sz]
theorem PR.waE (h : PR k s m) (hm : m.dv = rdv X) {i : Nat} (hi : i < X.length) : s.wa i = (X.getD i default).d.wait.length := by
  obtain ⟨h1, h2⟩ := h.at hm hi
  unfold St.wa
  rw [if_pos (by omega), Int.toNat_natCast, h1.wa]
theorem PR.rdE (h : PR k s m) (hm : m.dv = rdv X) {i j : Nat} (hi : i < X.length) (hj : j < (X.getD i default).d.sec.length) (hg : m.gone = false) : (s.rd i j).2 = none := by
  obtain ⟨h1, h2⟩ := h.at hm hi
  unfold St.rd
  rw [if_neg (by rw [h.rl.go, hg]; simp), if_pos]
  unfold St.has
  rw [Bool.and_eq_true, decide_eq_true_eq, decide_eq_true_eq, Int.toNat_natCast, h1.sz]
  omega
theorem PR.out (h : PR k s m) (hm : m.dv = rdv X) (z i : Int) (hz : ¬ (0 ≤ z ∧ z < X.length)) : s.su z i = Sec.zero ∧ s.sz z = 0 ∧ s.wa z = 0 := by
  have hlen : m.dv.length = X.length := by rw [hm]; simp
  have := h.rl.len
  unfold St.su St.sz St.wa
  rw [if_neg (by omega), if_neg (by omega), if_neg (by omega)]
  exact ⟨rfl, rfl, rfl⟩
end

set_option maxRecDepth 100000 in
set_option maxHeartbeats 16000000 in
theorem stands_ok (Q H F : Hp) (p : Nat) (s : St) (hA : Stn Q H F p s) (a : Option Addr) (cap : Nat) (X : List RDX) (hX : RX Q a cap X) (m : RSt) (hm : m.dv = rdv X) (k : Nat) (hP : PR k s m) (hk : k ≤ 1000) : CallH Try.prog 26 #[.pointer (some ⟨p, 0, none⟩), m.v (.slice a X.length cap)] H (fun v H' => v = .bool true ∧ H' = H) := by
  refine CallH_enter (l := [_, _]) (rl := [.tmp 4]) (n := 140) Try.func26 rfl rfl rfl rfl rfl ?_
  simp only [envOf, Nat.reduceAdd]
  obtain ⟨hl5, hsl⟩ := hP.len hm
  refine CW_seq (fun K1 hK1 => ?_)
  refine CW_region ?_
  refine OW_opS (fun K hK r => ?_)
  simp only [x_box, Value.cells, eX, ↓reduceIte, Nat.reduceEqDiff, Int.reduceToNat]
  intro b3 hb3
  have f3_H : H b3 = none := none_of_le lhA hb3
  have hA3 := hA.put (hA.fresh hb3) (.cells (m.c (.slice a X.length cap)).toArray 59)
  try simp only [eX, ↓reduceIte, Nat.reduceEqDiff, Int.reduceToNat]
  refine hK _ _ ?_; clear hK K
  refine OW_as rfl ?_
  refine OW_nil ?_
  try simp only [Ex.thnH, Ex.inBlockH, ↓reduceIte, Nat.reduceEqDiff]
  refine hK1 _ _ ?_; try clear hK1 K1
  refine CW_seq (fun K2 hK2 => ?_)
  refine CW_seq (fun K3 hK3 => ?_)
  refine CW_region ?_
  refine OW_opS (fun K hK r => ?_)
  simp only [x_fieldAddr, fa59_0, add_mk, Nat.reduceAdd, Nat.zero_add, eX, ↓reduceIte, Nat.reduceEqDiff, Int.reduceToNat]
  refine hK _ _ ?_; clear hK K
  refine OW_opS (fun K hK r => ?_)
  simp only [x_load, eX, ↓reduceIte, Nat.reduceEqDiff, Int.reduceToNat]
  refine Lt_loadAt1 Try.underlying57 rfl hbA ldA ?_
  try simp only [eX, ↓reduceIte, Nat.reduceEqDiff, Int.reduceToNat]
  refine hK _ _ ?_; clear hK K
  refine OW_opS (fun K hK r => ?_)
  simp only [x_builtin, l_len, List.map_toArray, List.map_cons, List.map_nil, i_len_slice _ _ Try.underlying57, eX, ↓reduceIte, Nat.reduceEqDiff, Int.reduceToNat]
  refine hK _ _ ?_; clear hK K
  refine OW_mv rfl ?_
  refine OW_nil ?_
  try simp only [Ex.thnH, Ex.inBlockH, ↓reduceIte, Nat.reduceEqDiff]
  refine hK3 _ _ ?_; try clear hK3 K3
  refine CW_block ?_
  refine CW_loop (fun m_ e H_ => ∃ i : Nat, i ≤ X.length ∧ m_ = X.length - i ∧ Le (H.upd b3 (.cells (m.c (.slice a X.length cap)).toArray 59)) H_ ∧ Env.has [(0, .pointer (some ⟨p, 0, none⟩)), (3, .pointer (some ⟨b3, 0, none⟩)), (15, .slice a X.length cap), (16, .int .i64 X.length), (17, .int .i64 i)] e) (X.length) ?_ ?_
  · skip
    exact ⟨0, by omega, by omega, Le.refl _, rfl, rfl, rfl, rfl, rfl, trivial⟩
  intro m_ e_ H_ hI_
  obtain ⟨i, hi, rfl, hl3, he⟩ := hI_
  refine CW_env he.sub ?_; clear he e_
  obtain ⟨HA, hHA⟩ : ∃ G : Hp, G = H_ := ⟨_, rfl⟩
  subst hHA
  have kb3 := hl3 b3 _ (upd_same _ _ _)
  have hHA3 : Le H HA := Le.trans (le_upd _ _ _ hb3) hl3
  have hSA := hA3.more hl3
  refine CW_seq (fun K4 hK4 => ?_)
  refine CW_region ?_
  refine OW_opS (fun K hK r => ?_)
  simp (disch := (first | omega | decide)) only [x_bin, g_int, b_lss, dec_lt_t, dec_lt_f, dec_le_t, dec_le_f, dec_eq_t, dec_eq_f, Bool.not_true, Bool.not_false, eX, ↓reduceIte, Nat.reduceEqDiff, Int.reduceToNat]
  refine hK _ _ ?_; clear hK K
  refine OW_nil ?_
  try simp only [Ex.thnH, Ex.inBlockH, ↓reduceIte, Nat.reduceEqDiff]
  refine hK4 _ _ ?_; try clear hK4 K4
  refine CW_seq (fun K5 hK5 => ?_)
  refine CW_cond (fun r => rfl) (fun c18 => ?_) (fun c18 => ?_)
  · first
    | (exfalso; exact cnA c18; done)
    | skip
      (try simp only [decide_eq_true_eq, decide_eq_false_iff_not, Bool.not_eq_true, Bool.not_eq_false, Bool.and_eq_true, Bool.or_eq_true, Bool.or_eq_false_iff, Bool.not_eq_true, Bool.not_eq_eq_eq_not, Bool.not_true, Bool.not_false] at c18)
      obtain ⟨bw, ow, cw, Tw, Fw, ew, hbw, hsw, atw⟩ := hX.h.at (by omega)
      have hxok := hX.ok _ (getD_mem' (show i < X.length by omega))
      have hxsz := (hP.rg hm i (by omega)).hi
      have mi := Nat.mul_le_mul_right 2 (show i + 1 ≤ X.length by omega)
      have hQ3 : Le Q HA := Le.trans hA.old hHA3
      refine CW_skip ?_
      try simp only [Ex.thnH, Ex.inBlockH, ↓reduceIte, Nat.reduceEqDiff]
      refine hK5 _ _ ?_; try clear hK5 K5
      refine CW_seq (fun K6 hK6 => ?_)
      refine CW_block ?_
      refine CW_seq (fun K7 hK7 => ?_)
      refine CW_region ?_
      refine OW_mv rfl ?_
      refine OW_opS (fun K hK r => ?_)
      simp only [x_indexAddr, eX, ↓reduceIte, Nat.reduceEqDiff, Int.reduceToNat]
      refine Lt_indexSof Try.underlying57 sz98 ew ixA ixA ?_
      try simp only [Int.toNat_natCast]
      refine hK _ _ ?_; clear hK K
      refine OW_opS (fun K hK r => ?_)
      simp only [x_load, eX, ↓reduceIte, Nat.reduceEqDiff, Int.reduceToNat]
      refine Lt_loadAtA Try.underlying98 rfl sz98 (hQ3 _ _ hbw) (by omega) ?_
      rw [ext_at RDX.len atw rfl i (by omega) hsw]
      refine hK _ _ ?_; clear hK K
      refine OW_opS (fun K hK r => ?_)
      simp only [x_alloc, zr98, orF_some, Value.cells, eX, ↓reduceIte, Nat.reduceEqDiff, Int.reduceToNat]
      intro b6 hb6
      try have n6_b3 : b3 ≠ b6 := ne_of_none hbA hb6
      have f6_H : H b6 = none := none_of_le lhA hb6
      try simp only [eX, ↓reduceIte, Nat.reduceEqDiff, Int.reduceToNat]
      refine hK _ _ ?_; clear hK K
      refine OW_as rfl ?_
      refine OW_op rfl (lt_none) (fun K hK r => ?_)
      simp only [x_store, eX, ↓reduceIte, Nat.reduceEqDiff, Int.reduceToNat]
      first | refine Lt_storeAll sz98 bdA hbA bdA plA (by decide) ?_ | refine Lt_storeAtA sz98 bdA hbA bdA plA (by decide) ?_
      try simp only [eX, ↓reduceIte, Nat.reduceEqDiff, Int.reduceToNat]
      refine hK _ _ ?_; clear hK K
      refine OW_nil ?_
      try simp only [Ex.thnH, Ex.inBlockH, ↓reduceIte, Nat.reduceEqDiff]
      refine hK7 _ _ ?_; try clear hK7 K7
      refine CW_seq (fun K8 hK8 => ?_)
      refine CW_seq (fun K9 hK9 => ?_)
      refine CW_region ?_
      refine OW_opS (fun K hK r => ?_)
      simp only [x_fieldAddr, fa98_0, add_mk, Nat.reduceAdd, Nat.zero_add, eX, ↓reduceIte, Nat.reduceEqDiff, Int.reduceToNat]
      refine hK _ _ ?_; clear hK K
      refine OW_opS (fun K hK r => ?_)
      simp only [x_load, eX, ↓reduceIte, Nat.reduceEqDiff, Int.reduceToNat]
      refine Lt_loadAt1 Try.underlying95 rfl hbA ldA ?_
      try simp only [eX, ↓reduceIte, Nat.reduceEqDiff, Int.reduceToNat]
      refine hK _ _ ?_; clear hK K
      refine OW_opS (fun K hK r => ?_)
      simp only [x_builtin, l_len, List.map_toArray, List.map_cons, List.map_nil, i_len_slice _ _ Try.underlying95, eX, ↓reduceIte, Nat.reduceEqDiff, Int.reduceToNat]
      refine hK _ _ ?_; clear hK K
      refine OW_mv rfl ?_
      refine OW_nil ?_
      try simp only [Ex.thnH, Ex.inBlockH, ↓reduceIte, Nat.reduceEqDiff]
      refine hK9 _ _ ?_; try clear hK9 K9
      refine CW_block ?_
      refine CW_loop (fun m_ e H_ => ∃ j : Nat, j ≤ (X.getD i default).d.sec.length ∧ m_ = (X.getD i default).d.sec.length - j ∧ Le (HA.upd b6 (.cells (X.getD i default).c.toArray 98)) H_ ∧ Env.has [(0, .pointer (some ⟨p, 0, none⟩)), (3, .pointer (some ⟨b3, 0, none⟩)), (5, .int .i64 i), (6, .pointer (some ⟨b6, 0, none⟩)), (15, .slice a X.length cap), (16, .int .i64 X.length), (17, .int .i64 i), (23, .slice (X.getD i default).sa (X.getD i default).d.sec.length (X.getD i default).sc), (24, .int .i64 (X.getD i default).d.sec.length), (25, .int .i64 j)] e) ((X.getD i default).d.sec.length) ?_ ?_
      · skip
        exact ⟨0, by omega, by omega, Le.refl _, rfl, rfl, rfl, rfl, rfl, rfl, rfl, rfl, rfl, rfl, trivial⟩
      intro m_ e_ H_ hI_
      obtain ⟨j, hj, rfl, hl6, he⟩ := hI_
      refine CW_env he.sub ?_; clear he e_
      obtain ⟨HB, hHB⟩ : ∃ G : Hp, G = H_ := ⟨_, rfl⟩
      subst hHB
      have kb6 := hl6 b6 _ (upd_same _ _ _)
      have hSB := hSA.more (Le.trans (le_upd _ _ _ hb6) hl6)
      have kc3 : HB b3 = some (.cells (m.c (.slice a X.length cap)).toArray 59) := hl6 b3 _ ((upd_ne _ _ n6_b3).trans kb3)
      obtain ⟨H6, hH6⟩ : ∃ G : Hp, G = HA.upd b6 (.cells (X.getD i default).c.toArray 98) := ⟨_, rfl⟩
      rw [← hH6] at hl6
      have hOB := hSB.old
      have hH3B : Le H HB := Le.trans hHA3 (Le.trans (by rw [hH6]; exact le_upd _ _ _ hb6) hl6)
      refine CW_seq (fun K10 hK10 => ?_)
      refine CW_region ?_
      refine OW_opS (fun K hK r => ?_)
      simp (disch := (first | omega | decide)) only [x_bin, g_int, b_lss, dec_lt_t, dec_lt_f, dec_le_t, dec_le_f, dec_eq_t, dec_eq_f, Bool.not_true, Bool.not_false, eX, ↓reduceIte, Nat.reduceEqDiff, Int.reduceToNat]
      refine hK _ _ ?_; clear hK K
      refine OW_nil ?_
      try simp only [Ex.thnH, Ex.inBlockH, ↓reduceIte, Nat.reduceEqDiff]
      refine hK10 _ _ ?_; try clear hK10 K10
      refine CW_seq (fun K11 hK11 => ?_)
      refine CW_cond (fun r => rfl) (fun c26 => ?_) (fun c26 => ?_)
      · first
        | (exfalso; exact cnA c26; done)
        | skip
          (try simp only [decide_eq_true_eq, decide_eq_false_iff_not, Bool.not_eq_true, Bool.not_eq_false, Bool.and_eq_true, Bool.or_eq_true, Bool.or_eq_false_iff, Bool.not_eq_true, Bool.not_eq_eq_eq_not, Bool.not_true, Bool.not_false] at c26)
          obtain ⟨bs, os, cs, Ts, Fs, es, hbs, hss, ats⟩ := hxok.s.at (by omega)
          have mj := Nat.mul_le_mul_right 64 (show j + 1 ≤ (X.getD i default).d.sec.length by omega)
          have hsu : s.su i j = ((X.getD i default).d.sec.getD j default) := by rw [hP.su hm (by omega), if_pos (by omega), Int.toNat_natCast]
          refine CW_skip ?_
          try simp only [Ex.thnH, Ex.inBlockH, ↓reduceIte, Nat.reduceEqDiff]
          refine hK11 _ _ ?_; try clear hK11 K11
          refine CW_seq (fun K12 hK12 => ?_)
          refine CW_block ?_
          refine CW_seq (fun K13 hK13 => ?_)
          refine CW_region ?_
          refine OW_mv rfl ?_
          refine OW_opS (fun K hK r => ?_)
          simp only [x_indexAddr, eX, ↓reduceIte, Nat.reduceEqDiff, Int.reduceToNat]
          refine Lt_indexSof Try.underlying95 sz38 es ixA ixA ?_
          try simp only [Int.toNat_natCast]
          refine hK _ _ ?_; clear hK K
          refine OW_opS (fun K hK r => ?_)
          simp only [x_load, eX, ↓reduceIte, Nat.reduceEqDiff, Int.reduceToNat]
          refine Lt_loadAtA Try.underlying38 rfl sz38 ((Le.trans hQ3 (Le.trans (by rw [hH6]; exact le_upd _ _ _ hb6) hl6)) _ _ hbs) (by omega) ?_
          rw [ext_at Sec.len ats rfl j (by omega) hss]
          refine hK _ _ ?_; clear hK K
          refine OW_opS (fun K hK r => ?_)
          simp only [x_alloc, zr38, orF_some, Value.cells, eX, ↓reduceIte, Nat.reduceEqDiff, Int.reduceToNat]
          intro b8 hb8
          try have n8_b3 : b3 ≠ b8 := ne_of_none hbA hb8
          try have n8_b6 : b6 ≠ b8 := ne_of_none hbA hb8
          have f8_H : H b8 = none := none_of_le lhA hb8
          have f8_H6 : H6 b8 = none := none_of_le lhA hb8
          try simp only [eX, ↓reduceIte, Nat.reduceEqDiff, Int.reduceToNat]
          refine hK _ _ ?_; clear hK K
          refine OW_as rfl ?_
          refine OW_op rfl (lt_none) (fun K hK r => ?_)
          simp only [x_store, eX, ↓reduceIte, Nat.reduceEqDiff, Int.reduceToNat]
          refine Lt_storeAll sz38 (by simp [Sec.h]) hbA (by simp [Sec.h]) (PlainL.ints _ _) (by decide) ?_
          try simp only [upd_upd]
          refine hK _ _ ?_; clear hK K
          refine OW_nil ?_
          try simp only [Ex.thnH, Ex.inBlockH, ↓reduceIte, Nat.reduceEqDiff]
          refine hK13 _ _ ?_; try clear hK13 K13
          refine CW_seq (fun K14 hK14 => ?_)
          refine CW_seq (fun K15 hK15 => ?_)
          obtain ⟨R7, hR7⟩ : ∃ R : Hp, R = emptyHp.upd b8 (.cells ((X.getD i default).d.sec.getD j default).c.toArray 38) := ⟨_, rfl⟩
          refine CW_drawR [0, 0, 0, 2, 1, 0] [0, 1, 2, 3, 4, 5] R7 (by kernel_rfl) (by kernel_rfl) (by subst hR7; exact le_put (le_empty _) hbA) (fun lR7 => ?_)
          apply TW_pure rfl (lt_some (by decide)) rfl
          · intro r
            simp only [x_move, eX, ↓reduceIte, Nat.reduceEqDiff]
            exact ⟨rfl, Le.refl _⟩
          simp only [eX, ↓reduceIte, Nat.reduceEqDiff, Int.reduceToNat]
          apply TW_pure rfl (lt_some (by decide)) rfl
          · intro r
            simp only [x_move, eX, ↓reduceIte, Nat.reduceEqDiff]
            exact ⟨rfl, Le.refl _⟩
          simp only [eX, ↓reduceIte, Nat.reduceEqDiff, Int.reduceToNat]
          apply TW_pure rfl (lt_some (by decide)) rfl
          · intro r
            simp only [x_move, eX, ↓reduceIte, Nat.reduceEqDiff]
            exact ⟨rfl, Le.refl _⟩
          simp only [eX, ↓reduceIte, Nat.reduceEqDiff, Int.reduceToNat]
          refine TW_chain rfl (lt_some (by decide)) rfl (fun K hK r => ?_)
          simp only [x_callF _ bd17, List.map_toArray, List.map_cons, List.map_nil, eX, ↓reduceIte, Nat.reduceEqDiff, Int.reduceToNat]
          refine (sureL (hSB.more lhA) hP.sm i j).mono ?_
          rintro v H' ⟨rfl, rfl⟩
          rw [hsu]
          try simp only [eX, ↓reduceIte, Nat.reduceEqDiff, Int.reduceToNat]
          refine hK _ _ leA ?_; clear hK K
          apply TW_look rfl (lt_some (by decide)) rfl
          · intro r
            simp only [x_load, eX, ↓reduceIte, Nat.reduceEqDiff]
            refine Lt_loadAll Try.underlying38 rfl sz38 (by rw [hR7]; exact upd_same _ _ _) (by simp [Sec.h]) ?_
            exact ⟨rfl, Le.refl _⟩
          simp only [eX, ↓reduceIte, Nat.reduceEqDiff, Int.reduceToNat]
          apply TW_pure rfl (lt_some (by decide)) rfl
          · intro r
            simp only [x_bin, g_agg _ _ _ _ _ _ eqg38, eX, ↓reduceIte, Nat.reduceEqDiff]
            rw [e_neq _ _ _ _ (by simp)]
            rw [q_equal]
            rw [q_sec]
            exact ⟨rfl, Le.refl _⟩
          simp only [eX, ↓reduceIte, Nat.reduceEqDiff, Int.reduceToNat]
          refine TW_nil ?_
          try simp only [Ex.thnH, Ex.inBlockH, ↓reduceIte, Nat.reduceEqDiff]
          refine hK15 _ _ ?_; try clear hK15 K15
          refine CW_cond (fun r => rfl) (fun c35 => ?_) (fun c35 => ?_)
          · first
            | (exfalso; exact cnA c35; done)
            | skip
              (try simp only [decide_eq_true_eq, decide_eq_false_iff_not, Bool.not_eq_true, Bool.not_eq_false, Bool.and_eq_true, Bool.or_eq_true, Bool.or_eq_false_iff, Bool.not_eq_true, Bool.not_eq_eq_eq_not, Bool.not_true, Bool.not_false] at c35)
              refine CW_seq (fun K16 hK16 => ?_)
              refine CW_region ?_
              refine OW_as rfl ?_
              refine OW_nil ?_
              try simp only [Ex.thnH, Ex.inBlockH, ↓reduceIte, Nat.reduceEqDiff]
              refine hK16 _ _ ?_; try clear hK16 K16
              refine CW_ret ?_
              try simp only [Ex.thnH, Ex.inBlockH, ↓reduceIte, Nat.reduceEqDiff]
              exfalso; first | omega | (simp_all; done)
          · first
            | (exfalso; exact cnA c35; done)
            | skip
              (try simp only [decide_eq_true_eq, decide_eq_false_iff_not, Bool.not_eq_true, Bool.not_eq_false, Bool.and_eq_true, Bool.or_eq_true, Bool.or_eq_false_iff, Bool.not_eq_true, Bool.not_eq_eq_eq_not, Bool.not_true, Bool.not_false] at c35)
              refine CW_skip ?_
              try simp only [Ex.thnH, Ex.inBlockH, ↓reduceIte, Nat.reduceEqDiff]
              refine hK14 _ _ ?_; try clear hK14 K14
              refine CW_seq (fun K17 hK17 => ?_)
              refine CW_region ?_
              refine OW_mv rfl ?_
              refine OW_mv rfl ?_
              refine OW_mv rfl ?_
              refine OW_opS (fun K hK r => ?_)
              simp only [x_callF _ bd16, List.map_toArray, List.map_cons, List.map_nil, eX, ↓reduceIte, Nat.reduceEqDiff, Int.reduceToNat]
              refine (readL (hSB.more lhA) hP.sm (by omega) i j).mono ?_
              rintro v H' ⟨rfl, rfl⟩
              try simp only [eX, ↓reduceIte, Nat.reduceEqDiff, Int.reduceToNat]
              refine hK _ _ ?_; clear hK K
              refine OW_mv rfl ?_
              refine OW_opS (fun K hK r => ?_)
              simp only [x_extract, i_extract, List.getElem?_toArray, List.getElem?_cons_zero, List.getElem?_cons_succ, orF_some, eX, ↓reduceIte, Nat.reduceEqDiff, Int.reduceToNat]
              refine hK _ _ ?_; clear hK K
              refine OW_opS (fun K hK r => ?_)
              simp only [x_extract, i_extract, List.getElem?_toArray, List.getElem?_cons_zero, List.getElem?_cons_succ, orF_some, eX, ↓reduceIte, Nat.reduceEqDiff, Int.reduceToNat]
              refine hK _ _ ?_; clear hK K
              refine OW_opS (fun K hK r => ?_)
              simp only [x_alloc, zr38, orF_some, Value.cells, eX, ↓reduceIte, Nat.reduceEqDiff, Int.reduceToNat]
              intro b9 hb9
              try have n9_b3 : b3 ≠ b9 := ne_of_none hbA hb9
              try have n9_b6 : b6 ≠ b9 := ne_of_none hbA hb9
              try have n9_b8 : b8 ≠ b9 := ne_of_none hbA hb9
              have f9_H : H b9 = none := none_of_le lhA hb9
              have f9_H6 : H6 b9 = none := none_of_le lhA hb9
              have f9_R7 : R7 b9 = none := none_of_le lhA hb9
              try simp only [eX, ↓reduceIte, Nat.reduceEqDiff, Int.reduceToNat]
              refine hK _ _ ?_; clear hK K
              refine OW_op rfl (lt_none) (fun K hK r => ?_)
              simp only [x_store, eX, ↓reduceIte, Nat.reduceEqDiff, Int.reduceToNat]
              refine Lt_storeAll sz38 (by simp [Sec.h]) hbA (by simp [Sec.h]) (PlainL.ints _ _) (by decide) ?_
              try simp only [upd_upd]
              refine hK _ _ ?_; clear hK K
              refine OW_as rfl ?_
              refine OW_nil ?_
              try simp only [Ex.thnH, Ex.inBlockH, ↓reduceIte, Nat.reduceEqDiff]
              refine hK17 _ _ ?_; try clear hK17 K17
              refine CW_seq (fun K18 hK18 => ?_)
              refine CW_region ?_
              refine OW_opS (fun K hK r => ?_)
              simp only [x_fieldAddr, fa59_4, add_mk, Nat.reduceAdd, Nat.zero_add, eX, ↓reduceIte, Nat.reduceEqDiff, Int.reduceToNat]
              refine hK _ _ ?_; clear hK K
              refine OW_opS (fun K hK r => ?_)
              simp only [x_load, eX, ↓reduceIte, Nat.reduceEqDiff, Int.reduceToNat]
              refine Lt_loadAt1 Try.underlying4 rfl hbA ldA ?_
              try simp only [eX, ↓reduceIte, Nat.reduceEqDiff, Int.reduceToNat]
              refine hK _ _ ?_; clear hK K
              refine OW_opS (fun K hK r => ?_)
              simp only [x_un, u_not, eX, ↓reduceIte, Nat.reduceEqDiff, Int.reduceToNat]
              refine hK _ _ ?_; clear hK K
              refine OW_nil ?_
              try simp only [Ex.thnH, Ex.inBlockH, ↓reduceIte, Nat.reduceEqDiff]
              refine hK18 _ _ ?_; try clear hK18 K18
              refine CW_cond (fun r => rfl) (fun c45 => ?_) (fun c45 => ?_)
              · first
                | (exfalso; exact cnA c45; done)
                | skip
                  (try simp only [decide_eq_true_eq, decide_eq_false_iff_not, Bool.not_eq_true, Bool.not_eq_false, Bool.and_eq_true, Bool.or_eq_true, Bool.or_eq_false_iff, Bool.not_eq_true, Bool.not_eq_eq_eq_not, Bool.not_true, Bool.not_false] at c45)
                  have hgo : m.gone = false := by simpa using c45
                  refine CW_seq (fun K19 hK19 => ?_)
                  refine CW_region ?_
                  refine OW_opS (fun K hK r => ?_)
                  simp only [x_load, eX, ↓reduceIte, Nat.reduceEqDiff, Int.reduceToNat]
                  first | refine Lt_loadAll Try.underlying59 rfl sz59 hbA bdA ?_ | refine Lt_loadAtA Try.underlying59 rfl sz59 hbA bdA ?_
                  try simp only [List.extract_toArray, List.extract_eq_take_drop, Nat.zero_add, Nat.reduceAdd, Nat.reduceSub, Nat.sub_zero, List.drop_succ_cons, List.drop_zero, List.take_succ_cons, List.take_zero, List.take_nil, List.drop_nil]
                  try simp only [eX, ↓reduceIte, Nat.reduceEqDiff, Int.reduceToNat]
                  refine hK _ _ ?_; clear hK K
                  refine OW_mv rfl ?_
                  refine OW_mv rfl ?_
                  refine OW_opS (fun K hK r => ?_)
                  simp only [x_callF _ bd42, List.map_toArray, List.map_cons, List.map_nil, eX, ↓reduceIte, Nat.reduceEqDiff, Int.reduceToNat]
                  refine (rread_ok _ a cap X (hX.le (Le.trans hQ3 (Le.trans (by rw [hH6]; exact le_upd _ _ _ hb6) (show Le H6 _ from lhA)))) m hm hl5 k (by omega) (hP.rg hm) i j).mono ?_
                  rintro v H' ⟨rfl, rfl⟩
                  rw [(hP.rl.read i j).1]
                  rw [hP.rdE hm (by omega) (by omega) hgo]
                  try simp only [eX, ↓reduceIte, Nat.reduceEqDiff, Int.reduceToNat]
                  refine hK _ _ ?_; clear hK K
                  refine OW_mv rfl ?_
                  refine OW_opS (fun K hK r => ?_)
                  simp only [x_extract, i_extract, List.getElem?_toArray, List.getElem?_cons_zero, List.getElem?_cons_succ, orF_some, eX, ↓reduceIte, Nat.reduceEqDiff, Int.reduceToNat]
                  refine hK _ _ ?_; clear hK K
                  refine OW_opS (fun K hK r => ?_)
                  simp only [x_extract, i_extract, List.getElem?_toArray, List.getElem?_cons_zero, List.getElem?_cons_succ, orF_some, eX, ↓reduceIte, Nat.reduceEqDiff, Int.reduceToNat]
                  refine hK _ _ ?_; clear hK K
                  refine OW_opS (fun K hK r => ?_)
                  simp only [x_alloc, zr38, orF_some, Value.cells, eX, ↓reduceIte, Nat.reduceEqDiff, Int.reduceToNat]
                  intro b11 hb11
                  try have n11_b3 : b3 ≠ b11 := ne_of_none hbA hb11
                  try have n11_b6 : b6 ≠ b11 := ne_of_none hbA hb11
                  try have n11_b8 : b8 ≠ b11 := ne_of_none hbA hb11
                  try have n11_b9 : b9 ≠ b11 := ne_of_none hbA hb11
                  have f11_H : H b11 = none := none_of_le lhA hb11
                  have f11_H6 : H6 b11 = none := none_of_le lhA hb11
                  have f11_R7 : R7 b11 = none := none_of_le lhA hb11
                  try simp only [eX, ↓reduceIte, Nat.reduceEqDiff, Int.reduceToNat]
                  refine hK _ _ ?_; clear hK K
                  refine OW_op rfl (lt_none) (fun K hK r => ?_)
                  simp only [x_store, eX, ↓reduceIte, Nat.reduceEqDiff, Int.reduceToNat]
                  refine Lt_storeAll sz38 (by simp [Sec.h]) hbA (by simp [Sec.h]) (PlainL.ints _ _) (by decide) ?_
                  try simp only [upd_upd]
                  refine hK _ _ ?_; clear hK K
                  refine OW_as rfl ?_
                  refine OW_nil ?_
                  try simp only [Ex.thnH, Ex.inBlockH, ↓reduceIte, Nat.reduceEqDiff]
                  refine hK19 _ _ ?_; try clear hK19 K19
                  refine CW_seq (fun K20 hK20 => ?_)
                  refine CW_region ?_
                  refine OW_mv rfl ?_
                  refine OW_opS (fun K hK r => ?_)
                  simp only [x_bin, g_int, g_bool, g_string, g_pointer, g_slice, g_map, g_func, g_nilFunc, g_err, g_iface, g_nil_iface, g_nil_r, g_nil_l, eX, ↓reduceIte, Nat.reduceEqDiff, Int.reduceToNat]
                  first | rw [b_err_neq _ _ Try.underlying28] | (rw [e_neq _ _ _ _ (by simp), q_equal]; first | rw [q_iface_nil _ _ _ Try.underlying28] | rw [q_nil_iface _ _ _ Try.underlying28] | rw [q_nil_nil _ _ _ Try.underlying28])
                  try simp only [eX, ↓reduceIte, Nat.reduceEqDiff, Int.reduceToNat]
                  refine hK _ _ ?_; clear hK K
                  refine OW_mv rfl ?_
                  (first | refine OW_split (d := 55) rfl (fun g55 => ?_) (fun g55 => ?_) | skip)
                  all_goals try (exfalso; exact cnA g55)
                  all_goals (try simp only [decide_eq_true_eq, decide_eq_false_iff_not, Bool.not_eq_true, Bool.not_eq_false, Bool.and_eq_true, Bool.or_eq_true, Bool.or_eq_false_iff, Bool.not_eq_true, Bool.not_eq_eq_eq_not, Bool.not_true, Bool.not_false] at g55)
                  all_goals
                    try simp only [eX, ↓reduceIte, Nat.reduceEqDiff, Int.reduceToNat]
                    first
                    | refine OW_guardT rfl (lt_some (by decide)) rfl (fun K hK r => ?_)
                      simp only [x_load, eX, ↓reduceIte, Nat.reduceEqDiff, Int.reduceToNat]
                      refine Lt_loadAll Try.underlying38 rfl sz38 hbA (by simp [Sec.h]) ?_
                      refine hK _ _ ?_; clear hK K
                    | refine OW_guardF rfl (lt_some (by decide)) rfl ?_
                      simp only [eX, ↓reduceIte, Nat.reduceEqDiff, Int.reduceToNat]
                    first
                    | refine OW_guardT rfl (lt_some (by decide)) rfl (fun K hK r => ?_)
                      simp only [x_load, eX, ↓reduceIte, Nat.reduceEqDiff, Int.reduceToNat]
                      refine Lt_loadAll Try.underlying38 rfl sz38 hbA (by simp [Sec.h]) ?_
                      refine hK _ _ ?_; clear hK K
                    | refine OW_guardF rfl (lt_some (by decide)) rfl ?_
                      simp only [eX, ↓reduceIte, Nat.reduceEqDiff, Int.reduceToNat]
                    first
                    | refine OW_guardT rfl (lt_some (by decide)) rfl (fun K hK r => ?_)
                      simp only [x_bin, g_agg _ _ _ _ _ _ eqg38, eX, ↓reduceIte, Nat.reduceEqDiff, Int.reduceToNat]
                      rw [e_neq _ _ _ _ (by simp)]
                      rw [q_equal]
                      rw [q_sec]
                      refine hK _ _ ?_; clear hK K
                    | refine OW_guardF rfl (lt_some (by decide)) rfl ?_
                      simp only [eX, ↓reduceIte, Nat.reduceEqDiff, Int.reduceToNat]
                    refine OW_opS (fun K hK r => ?_)
                    simp only [x_pick, l_asBool, HL.ite_bool, if_true, if_false, Bool.false_eq_true, eX, ↓reduceIte, Nat.reduceEqDiff, Int.reduceToNat]
                    refine hK _ _ ?_; clear hK K
                    refine OW_nil ?_
                    try simp only [Ex.thnH, Ex.inBlockH, ↓reduceIte, Nat.reduceEqDiff]
                    refine hK20 _ _ ?_; try clear hK20 K20
                    refine CW_cond (fun r => rfl) (fun c59 => ?_) (fun c59 => ?_)
                    · first
                      | (exfalso; exact cnA c59; done)
                      | skip
                        (try simp only [decide_eq_true_eq, decide_eq_false_iff_not, Bool.not_eq_true, Bool.not_eq_false, Bool.and_eq_true, Bool.or_eq_true, Bool.or_eq_false_iff, Bool.not_eq_true, Bool.not_eq_eq_eq_not, Bool.not_true, Bool.not_false] at c59)
                        refine CW_seq (fun K21 hK21 => ?_)
                        refine CW_region ?_
                        refine OW_as rfl ?_
                        refine OW_nil ?_
                        try simp only [Ex.thnH, Ex.inBlockH, ↓reduceIte, Nat.reduceEqDiff]
                        refine hK21 _ _ ?_; try clear hK21 K21
                        refine CW_ret ?_
                        try simp only [Ex.thnH, Ex.inBlockH, ↓reduceIte, Nat.reduceEqDiff]
                        exfalso; first | omega | (simp_all; done)
                    · first
                      | (exfalso; exact cnA c59; done)
                      | skip
                        (try simp only [decide_eq_true_eq, decide_eq_false_iff_not, Bool.not_eq_true, Bool.not_eq_false, Bool.and_eq_true, Bool.or_eq_true, Bool.or_eq_false_iff, Bool.not_eq_true, Bool.not_eq_eq_eq_not, Bool.not_true, Bool.not_false] at c59)
                        refine CW_skip ?_
                        try simp only [Ex.thnH, Ex.inBlockH, ↓reduceIte, Nat.reduceEqDiff]
                        refine hK12 _ _ ?_; try clear hK12 K12
                        refine CW_region ?_
                        refine OW_opS (fun K hK r => ?_)
                        simp (disch := (first | omega | decide)) only [x_bin, g_int, b_add, wrap_i64, wrap_u64, wrap_u32, wrap_u8, eX, ↓reduceIte, Nat.reduceEqDiff, Int.reduceToNat]
                        refine hK _ _ ?_; clear hK K
                        refine OW_mv rfl ?_
                        refine OW_nil ?_
                        try simp only [Ex.thnH, Ex.inBlockH, ↓reduceIte, Nat.reduceEqDiff]
                        exact ⟨(X.getD i default).d.sec.length - (j + 1), by omega, j + 1, by omega, rfl, by rw [← hH6]; exact lhA, rfl, rfl, rfl, rfl, rfl, rfl, rfl, rfl, rfl, rfl, trivial⟩
              · first
                | (exfalso; exact cnA c45; done)
                | skip
                  (try simp only [decide_eq_true_eq, decide_eq_false_iff_not, Bool.not_eq_true, Bool.not_eq_false, Bool.and_eq_true, Bool.or_eq_true, Bool.or_eq_false_iff, Bool.not_eq_true, Bool.not_eq_eq_eq_not, Bool.not_true, Bool.not_false] at c45)
                  refine CW_skip ?_
                  try simp only [Ex.thnH, Ex.inBlockH, ↓reduceIte, Nat.reduceEqDiff]
                  refine hK12 _ _ ?_; try clear hK12 K12
                  refine CW_region ?_
                  refine OW_opS (fun K hK r => ?_)
                  simp (disch := (first | omega | decide)) only [x_bin, g_int, b_add, wrap_i64, wrap_u64, wrap_u32, wrap_u8, eX, ↓reduceIte, Nat.reduceEqDiff, Int.reduceToNat]
                  refine hK _ _ ?_; clear hK K
                  refine OW_mv rfl ?_
                  refine OW_nil ?_
                  try simp only [Ex.thnH, Ex.inBlockH, ↓reduceIte, Nat.reduceEqDiff]
                  exact ⟨(X.getD i default).d.sec.length - (j + 1), by omega, j + 1, by omega, rfl, by rw [← hH6]; exact lhA, rfl, rfl, rfl, rfl, rfl, rfl, rfl, rfl, rfl, rfl, trivial⟩
      · first
        | (exfalso; exact cnA c26; done)
        | skip
          (try simp only [decide_eq_true_eq, decide_eq_false_iff_not, Bool.not_eq_true, Bool.not_eq_false, Bool.and_eq_true, Bool.or_eq_true, Bool.or_eq_false_iff, Bool.not_eq_true, Bool.not_eq_eq_eq_not, Bool.not_true, Bool.not_false] at c26)
          have hs1 : s.su i (-1) = Sec.zero := by rw [hP.su hm (by omega), if_neg (by omega)]
          have hs2 : s.su i (X.getD i default).d.sec.length = Sec.zero := by rw [hP.su hm (by omega), if_neg (by omega)]
          refine CW_exit ?_
          try simp only [Ex.thnH, Ex.inBlockH, ↓reduceIte, Nat.reduceEqDiff]
          refine hK8 _ _ ?_; try clear hK8 K8
          refine CW_seq (fun K22 hK22 => ?_)
          obtain ⟨R15, hR15⟩ : ∃ R : Hp, R = emptyHp.upd b6 (.cells (X.getD i default).c.toArray 98) := ⟨_, rfl⟩
          refine CW_drawR [0, 0, 6, 0, 1, 0, 0, 0, 0, 0, 6, 0, 1, 0, 0, 0, 0, 0, 0, 5, 0, 0, 0, 0, 0, 0, 0, 1, 0, 2, 0, 0, 0] [0, 1, 3, 4, 2, 5, 6, 7, 8, 9, 11, 12, 10, 13, 14, 15, 16, 17, 18, 19, 20, 21, 22, 23, 24, 25, 26, 27, 28, 29, 30, 31, 32] R15 (by kernel_rfl) (by kernel_rfl) (by subst hR15; exact le_put (le_empty _) kb6) (fun lR15 => ?_)
          apply TW_pure rfl (lt_some (by decide)) rfl
          · intro r
            simp only [x_move, eX, ↓reduceIte, Nat.reduceEqDiff]
            exact ⟨rfl, Le.refl _⟩
          simp only [eX, ↓reduceIte, Nat.reduceEqDiff, Int.reduceToNat]
          apply TW_pure rfl (lt_some (by decide)) rfl
          · intro r
            simp only [x_move, eX, ↓reduceIte, Nat.reduceEqDiff]
            exact ⟨rfl, Le.refl _⟩
          simp only [eX, ↓reduceIte, Nat.reduceEqDiff, Int.reduceToNat]
          apply TW_pure rfl (lt_some (by decide)) rfl
          · intro r
            simp only [x_fieldAddr, fa98_0, add_mk, Nat.reduceAdd, Nat.zero_add, eX, ↓reduceIte, Nat.reduceEqDiff]
            exact ⟨rfl, Le.refl _⟩
          simp only [eX, ↓reduceIte, Nat.reduceEqDiff, Int.reduceToNat]
          apply TW_look rfl (lt_some (by decide)) rfl
          · intro r
            simp only [x_load, eX, ↓reduceIte, Nat.reduceEqDiff]
            refine Lt_loadAt1 Try.underlying95 rfl hbA ldA ?_
            exact ⟨rfl, Le.refl _⟩
          simp only [eX, ↓reduceIte, Nat.reduceEqDiff, Int.reduceToNat]
          refine TW_grow rfl (lt_some (by decide)) rfl (fun K hK r => ?_)
          simp only [x_callF _ bd29, List.map_toArray, List.map_cons, List.map_nil, eX, ↓reduceIte, Nat.reduceEqDiff, Int.reduceToNat]
          refine (sizeL hSB hP.sm i).mono ?_
          rintro v H' ⟨rfl, rfl⟩
          rw [hP.szE hm (by omega)]
          try simp only [eX, ↓reduceIte, Nat.reduceEqDiff, Int.reduceToNat]
          refine hK _ _ leA (fun R63_ hR63_ => ?_); clear hK K
          apply TW_pure rfl (lt_some (by decide)) rfl
          · intro r
            simp only [x_builtin, l_len, List.map_toArray, List.map_cons, List.map_nil, i_len_slice _ _ Try.underlying95, eX, ↓reduceIte, Nat.reduceEqDiff]
            exact ⟨rfl, Le.refl _⟩
          simp only [eX, ↓reduceIte, Nat.reduceEqDiff, Int.reduceToNat]
          apply TW_pure rfl (lt_some (by decide)) rfl
          · intro r
            simp (disch := (first | omega | decide)) only [x_bin, g_int, b_neq, dec_lt_t, dec_lt_f, dec_le_t, dec_le_f, dec_eq_t, dec_eq_f, Bool.not_true, Bool.not_false, eX, ↓reduceIte, Nat.reduceEqDiff]
            exact ⟨rfl, Le.refl _⟩
          simp only [eX, ↓reduceIte, Nat.reduceEqDiff, Int.reduceToNat]
          apply TW_pure rfl (lt_some (by decide)) rfl
          · intro r
            simp only [x_move, eX, ↓reduceIte, Nat.reduceEqDiff]
            exact ⟨rfl, Le.refl _⟩
          simp only [eX, ↓reduceIte, Nat.reduceEqDiff, Int.reduceToNat]
          (first | refine TW_split (d := 68) rfl (fun g68 => ?_) (fun g68 => ?_) | skip)
          all_goals try (exfalso; exact cnA g68)
          all_goals (try simp only [decide_eq_true_eq, decide_eq_false_iff_not, Bool.not_eq_true, Bool.not_eq_false, Bool.and_eq_true, Bool.or_eq_true, Bool.or_eq_false_iff, Bool.not_eq_true, Bool.not_eq_eq_eq_not, Bool.not_true, Bool.not_false] at g68)
          all_goals
            try simp only [eX, ↓reduceIte, Nat.reduceEqDiff, Int.reduceToNat]
            first
            | apply TW_pureG rfl (lt_some (by decide)) rfl rfl
              · intro r
                simp only [x_move, eX, ↓reduceIte, Nat.reduceEqDiff]
                exact ⟨rfl, Le.refl _⟩
              simp only [eX, ↓reduceIte, Nat.reduceEqDiff, Int.reduceToNat]
            | refine TW_guardF rfl (lt_some (by decide)) rfl ?_
              simp only [eX, ↓reduceIte, Nat.reduceEqDiff, Int.reduceToNat]
            first
            | apply TW_pureG rfl (lt_some (by decide)) rfl rfl
              · intro r
                simp only [x_move, eX, ↓reduceIte, Nat.reduceEqDiff]
                exact ⟨rfl, Le.refl _⟩
              simp only [eX, ↓reduceIte, Nat.reduceEqDiff, Int.reduceToNat]
            | refine TW_guardF rfl (lt_some (by decide)) rfl ?_
              simp only [eX, ↓reduceIte, Nat.reduceEqDiff, Int.reduceToNat]
            first
            | apply TW_pureG rfl (lt_some (by decide)) rfl rfl
              · intro r
                simp only [x_fieldAddr, fa98_1, add_mk, Nat.reduceAdd, Nat.zero_add, eX, ↓reduceIte, Nat.reduceEqDiff]
                exact ⟨rfl, Le.refl _⟩
              simp only [eX, ↓reduceIte, Nat.reduceEqDiff, Int.reduceToNat]
            | refine TW_guardF rfl (lt_some (by decide)) rfl ?_
              simp only [eX, ↓reduceIte, Nat.reduceEqDiff, Int.reduceToNat]
            first
            | apply TW_lookG rfl (lt_some (by decide)) rfl rfl
              · intro r
                simp only [x_load, eX, ↓reduceIte, Nat.reduceEqDiff]
                refine Lt_loadAt1 Try.underlying96 rfl hbA ldA ?_
                exact ⟨rfl, Le.refl _⟩
              simp only [eX, ↓reduceIte, Nat.reduceEqDiff, Int.reduceToNat]
            | refine TW_guardF rfl (lt_some (by decide)) rfl ?_
              simp only [eX, ↓reduceIte, Nat.reduceEqDiff, Int.reduceToNat]
            first
            | refine TW_growG rfl (lt_some (by decide)) rfl rfl (fun K hK r => ?_)
              simp only [x_callF _ bd18, List.map_toArray, List.map_cons, List.map_nil, eX, ↓reduceIte, Nat.reduceEqDiff, Int.reduceToNat]
              refine (waitingL hSB hP.sm i).mono ?_
              rintro v H' ⟨rfl, rfl⟩
              rw [hP.waE hm (by omega)]
              try simp only [eX, ↓reduceIte, Nat.reduceEqDiff, Int.reduceToNat]
              refine hK _ _ leA (fun R71_ hR71_ => ?_); clear hK K
            | refine TW_guardF rfl (lt_some (by decide)) rfl ?_
              simp only [eX, ↓reduceIte, Nat.reduceEqDiff, Int.reduceToNat]
            first
            | apply TW_pureG rfl (lt_some (by decide)) rfl rfl
              · intro r
                simp only [x_builtin, l_len, List.map_toArray, List.map_cons, List.map_nil, i_len_slice _ _ Try.underlying96, eX, ↓reduceIte, Nat.reduceEqDiff]
                exact ⟨rfl, Le.refl _⟩
              simp only [eX, ↓reduceIte, Nat.reduceEqDiff, Int.reduceToNat]
            | refine TW_guardF rfl (lt_some (by decide)) rfl ?_
              simp only [eX, ↓reduceIte, Nat.reduceEqDiff, Int.reduceToNat]
            first
            | apply TW_pureG rfl (lt_some (by decide)) rfl rfl
              · intro r
                simp (disch := (first | omega | decide)) only [x_bin, g_int, b_neq, dec_lt_t, dec_lt_f, dec_le_t, dec_le_f, dec_eq_t, dec_eq_f, Bool.not_true, Bool.not_false, eX, ↓reduceIte, Nat.reduceEqDiff]
                exact ⟨rfl, Le.refl _⟩
              simp only [eX, ↓reduceIte, Nat.reduceEqDiff, Int.reduceToNat]
            | refine TW_guardF rfl (lt_some (by decide)) rfl ?_
              simp only [eX, ↓reduceIte, Nat.reduceEqDiff, Int.reduceToNat]
            apply TW_pure rfl (lt_some (by decide)) rfl
            · intro r
              simp only [x_pick, l_asBool, HL.ite_bool, if_true, if_false, Bool.false_eq_true, eX, ↓reduceIte, Nat.reduceEqDiff]
              exact ⟨rfl, Le.refl _⟩
            simp only [eX, ↓reduceIte, Nat.reduceEqDiff, Int.reduceToNat]
            apply TW_pure rfl (lt_some (by decide)) rfl
            · intro r
              simp only [x_move, eX, ↓reduceIte, Nat.reduceEqDiff]
              exact ⟨rfl, Le.refl _⟩
            simp only [eX, ↓reduceIte, Nat.reduceEqDiff, Int.reduceToNat]
            (first | refine TW_split (d := 77) rfl (fun g77 => ?_) (fun g77 => ?_) | skip)
            all_goals try (exfalso; exact cnA g77)
            all_goals (try simp only [decide_eq_true_eq, decide_eq_false_iff_not, Bool.not_eq_true, Bool.not_eq_false, Bool.and_eq_true, Bool.or_eq_true, Bool.or_eq_false_iff, Bool.not_eq_true, Bool.not_eq_eq_eq_not, Bool.not_true, Bool.not_false] at g77)
            all_goals
              try simp only [eX, ↓reduceIte, Nat.reduceEqDiff, Int.reduceToNat]
              first
              | apply TW_pureG rfl (lt_some (by decide)) rfl rfl
                · intro r
                  simp only [x_move, eX, ↓reduceIte, Nat.reduceEqDiff]
                  exact ⟨rfl, Le.refl _⟩
                simp only [eX, ↓reduceIte, Nat.reduceEqDiff, Int.reduceToNat]
              | refine TW_guardF rfl (lt_some (by decide)) rfl ?_
                simp only [eX, ↓reduceIte, Nat.reduceEqDiff, Int.reduceToNat]
              first
              | apply TW_pureG rfl (lt_some (by decide)) rfl rfl
                · intro r
                  simp only [x_move, eX, ↓reduceIte, Nat.reduceEqDiff]
                  exact ⟨rfl, Le.refl _⟩
                simp only [eX, ↓reduceIte, Nat.reduceEqDiff, Int.reduceToNat]
              | refine TW_guardF rfl (lt_some (by decide)) rfl ?_
                simp only [eX, ↓reduceIte, Nat.reduceEqDiff, Int.reduceToNat]
              first
              | refine TW_fenceG rfl (lt_some (by decide)) rfl rfl (fun K hK r => ?_)
                simp only [x_callF _ bd17, List.map_toArray, List.map_cons, List.map_nil, eX, ↓reduceIte, Nat.reduceEqDiff, Int.reduceToNat]
                refine (sureL hSB hP.sm i (-1)).mono ?_
                rintro v H' ⟨rfl, rfl⟩
                rw [hs1]
                try simp only [eX, ↓reduceIte, Nat.reduceEqDiff, Int.reduceToNat]
                refine hK _ _ (fun R80_ hR80_ => ?_); clear hK K
              | refine TW_guardF rfl (lt_some (by decide)) rfl ?_
                simp only [eX, ↓reduceIte, Nat.reduceEqDiff, Int.reduceToNat]
              first
              | apply TW_pureG rfl (lt_some (by decide)) rfl rfl
                · intro r
                  simp only [x_build, List.map_toArray, List.map_cons, List.map_nil, eX, ↓reduceIte, Nat.reduceEqDiff]
                  rw [l_buildArr Try.underlying38 sz5 zr38]
                  simp only [Value.cells]
                  simp only [fill_nil, orF_some, List.setIfInBounds_toArray, List.set_cons_zero, List.set_cons_succ]
                  exact ⟨rfl, Le.refl _⟩
                simp only [eX, ↓reduceIte, Nat.reduceEqDiff, Int.reduceToNat]
              | refine TW_guardF rfl (lt_some (by decide)) rfl ?_
                simp only [eX, ↓reduceIte, Nat.reduceEqDiff, Int.reduceToNat]
              first
              | apply TW_pureG rfl (lt_some (by decide)) rfl rfl
                · intro r
                  simp only [x_bin, g_agg _ _ _ _ _ _ eqg38, eX, ↓reduceIte, Nat.reduceEqDiff]
                  rw [e_neq _ _ _ _ (by simp)]
                  rw [q_equal]
                  rw [show (Array.replicate 64 (Value.int .u8 0)) = Sec.zero.c.toArray from rfl]
                  rw [q_sec]
                  exact ⟨rfl, Le.refl _⟩
                simp only [eX, ↓reduceIte, Nat.reduceEqDiff, Int.reduceToNat]
              | refine TW_guardF rfl (lt_some (by decide)) rfl ?_
                simp only [eX, ↓reduceIte, Nat.reduceEqDiff, Int.reduceToNat]
              apply TW_pure rfl (lt_some (by decide)) rfl
              · intro r
                simp only [x_pick, l_asBool, HL.ite_bool, if_true, if_false, Bool.false_eq_true, eX, ↓reduceIte, Nat.reduceEqDiff]
                exact ⟨rfl, Le.refl _⟩
              simp only [eX, ↓reduceIte, Nat.reduceEqDiff, Int.reduceToNat]
              apply TW_pure rfl (lt_some (by decide)) rfl
              · intro r
                simp only [x_move, eX, ↓reduceIte, Nat.reduceEqDiff]
                exact ⟨rfl, Le.refl _⟩
              simp only [eX, ↓reduceIte, Nat.reduceEqDiff, Int.reduceToNat]
              (first | refine TW_split (d := 84) rfl (fun g84 => ?_) (fun g84 => ?_) | skip)
              all_goals try (exfalso; exact cnA g84)
              all_goals (try simp only [decide_eq_true_eq, decide_eq_false_iff_not, Bool.not_eq_true, Bool.not_eq_false, Bool.and_eq_true, Bool.or_eq_true, Bool.or_eq_false_iff, Bool.not_eq_true, Bool.not_eq_eq_eq_not, Bool.not_true, Bool.not_false] at g84)
              all_goals
                try simp only [eX, ↓reduceIte, Nat.reduceEqDiff, Int.reduceToNat]
                first
                | apply TW_pureG rfl (lt_some (by decide)) rfl rfl
                  · intro r
                    simp only [x_move, eX, ↓reduceIte, Nat.reduceEqDiff]
                    exact ⟨rfl, Le.refl _⟩
                  simp only [eX, ↓reduceIte, Nat.reduceEqDiff, Int.reduceToNat]
                | refine TW_guardF rfl (lt_some (by decide)) rfl ?_
                  simp only [eX, ↓reduceIte, Nat.reduceEqDiff, Int.reduceToNat]
                first
                | apply TW_pureG rfl (lt_some (by decide)) rfl rfl
                  · intro r
                    simp only [x_move, eX, ↓reduceIte, Nat.reduceEqDiff]
                    exact ⟨rfl, Le.refl _⟩
                  simp only [eX, ↓reduceIte, Nat.reduceEqDiff, Int.reduceToNat]
                | refine TW_guardF rfl (lt_some (by decide)) rfl ?_
                  simp only [eX, ↓reduceIte, Nat.reduceEqDiff, Int.reduceToNat]
                first
                | apply TW_pureG rfl (lt_some (by decide)) rfl rfl
                  · intro r
                    simp only [x_fieldAddr, fa98_0, add_mk, Nat.reduceAdd, Nat.zero_add, eX, ↓reduceIte, Nat.reduceEqDiff]
                    exact ⟨rfl, Le.refl _⟩
                  simp only [eX, ↓reduceIte, Nat.reduceEqDiff, Int.reduceToNat]
                | refine TW_guardF rfl (lt_some (by decide)) rfl ?_
                  simp only [eX, ↓reduceIte, Nat.reduceEqDiff, Int.reduceToNat]
                first
                | apply TW_lookG rfl (lt_some (by decide)) rfl rfl
                  · intro r
                    simp only [x_load, eX, ↓reduceIte, Nat.reduceEqDiff]
                    refine Lt_loadAt1 Try.underlying95 rfl hbA ldA ?_
                    exact ⟨rfl, Le.refl _⟩
                  simp only [eX, ↓reduceIte, Nat.reduceEqDiff, Int.reduceToNat]
                | refine TW_guardF rfl (lt_some (by decide)) rfl ?_
                  simp only [eX, ↓reduceIte, Nat.reduceEqDiff, Int.reduceToNat]
                first
                | apply TW_pureG rfl (lt_some (by decide)) rfl rfl
                  · intro r
                    simp only [x_builtin, l_len, List.map_toArray, List.map_cons, List.map_nil, i_len_slice _ _ Try.underlying95, eX, ↓reduceIte, Nat.reduceEqDiff]
                    exact ⟨rfl, Le.refl _⟩
                  simp only [eX, ↓reduceIte, Nat.reduceEqDiff, Int.reduceToNat]
                | refine TW_guardF rfl (lt_some (by decide)) rfl ?_
                  simp only [eX, ↓reduceIte, Nat.reduceEqDiff, Int.reduceToNat]
                first
                | refine TW_chainG rfl (lt_some (by decide)) rfl rfl (fun K hK r => ?_)
                  simp only [x_callF _ bd17, List.map_toArray, List.map_cons, List.map_nil, eX, ↓reduceIte, Nat.reduceEqDiff, Int.reduceToNat]
                  refine (sureL hSB hP.sm i (X.getD i default).d.sec.length).mono ?_
                  rintro v H' ⟨rfl, rfl⟩
                  rw [hs2]
                  try simp only [eX, ↓reduceIte, Nat.reduceEqDiff, Int.reduceToNat]
                  refine hK _ _ leA ?_; clear hK K
                | refine TW_guardF rfl (lt_some (by decide)) rfl ?_
                  simp only [eX, ↓reduceIte, Nat.reduceEqDiff, Int.reduceToNat]
                first
                | apply TW_pureG rfl (lt_some (by decide)) rfl rfl
                  · intro r
                    simp only [x_build, List.map_toArray, List.map_cons, List.map_nil, eX, ↓reduceIte, Nat.reduceEqDiff]
                    rw [l_buildArr Try.underlying38 sz5 zr38]
                    simp only [Value.cells]
                    simp only [fill_nil, orF_some, List.setIfInBounds_toArray, List.set_cons_zero, List.set_cons_succ]
                    exact ⟨rfl, Le.refl _⟩
                  simp only [eX, ↓reduceIte, Nat.reduceEqDiff, Int.reduceToNat]
                | refine TW_guardF rfl (lt_some (by decide)) rfl ?_
                  simp only [eX, ↓reduceIte, Nat.reduceEqDiff, Int.reduceToNat]
                first
                | apply TW_pureG rfl (lt_some (by decide)) rfl rfl
                  · intro r
                    simp only [x_bin, g_agg _ _ _ _ _ _ eqg38, eX, ↓reduceIte, Nat.reduceEqDiff]
                    rw [e_neq _ _ _ _ (by simp)]
                    rw [q_equal]
                    rw [show (Array.replicate 64 (Value.int .u8 0)) = Sec.zero.c.toArray from rfl]
                    rw [q_sec]
                    exact ⟨rfl, Le.refl _⟩
                  simp only [eX, ↓reduceIte, Nat.reduceEqDiff, Int.reduceToNat]
                | refine TW_guardF rfl (lt_some (by decide)) rfl ?_
                  simp only [eX, ↓reduceIte, Nat.reduceEqDiff, Int.reduceToNat]
                apply TW_pure rfl (lt_some (by decide)) rfl
                · intro r
                  simp only [x_pick, l_asBool, HL.ite_bool, if_true, if_false, Bool.false_eq_true, eX, ↓reduceIte, Nat.reduceEqDiff]
                  exact ⟨rfl, Le.refl _⟩
                simp only [eX, ↓reduceIte, Nat.reduceEqDiff, Int.reduceToNat]
                refine TW_nil ?_
                try simp only [Ex.thnH, Ex.inBlockH, ↓reduceIte, Nat.reduceEqDiff]
                refine hK22 _ _ ?_; try clear hK22 K22
                refine CW_cond (fun r => rfl) (fun c93 => ?_) (fun c93 => ?_)
                · first
                  | (exfalso; exact cnA c93; done)
                  | skip
                    (try simp only [decide_eq_true_eq, decide_eq_false_iff_not, Bool.not_eq_true, Bool.not_eq_false, Bool.and_eq_true, Bool.or_eq_true, Bool.or_eq_false_iff, Bool.not_eq_true, Bool.not_eq_eq_eq_not, Bool.not_true, Bool.not_false] at c93)
                    refine CW_seq (fun K23 hK23 => ?_)
                    refine CW_region ?_
                    refine OW_as rfl ?_
                    refine OW_nil ?_
                    try simp only [Ex.thnH, Ex.inBlockH, ↓reduceIte, Nat.reduceEqDiff]
                    refine hK23 _ _ ?_; try clear hK23 K23
                    refine CW_ret ?_
                    try simp only [Ex.thnH, Ex.inBlockH, ↓reduceIte, Nat.reduceEqDiff]
                    exfalso; first | omega | (simp_all; done)
                · first
                  | (exfalso; exact cnA c93; done)
                  | skip
                    (try simp only [decide_eq_true_eq, decide_eq_false_iff_not, Bool.not_eq_true, Bool.not_eq_false, Bool.and_eq_true, Bool.or_eq_true, Bool.or_eq_false_iff, Bool.not_eq_true, Bool.not_eq_eq_eq_not, Bool.not_true, Bool.not_false] at c93)
                    refine CW_skip ?_
                    try simp only [Ex.thnH, Ex.inBlockH, ↓reduceIte, Nat.reduceEqDiff]
                    refine hK6 _ _ ?_; try clear hK6 K6
                    refine CW_region ?_
                    refine OW_opS (fun K hK r => ?_)
                    simp (disch := (first | omega | decide)) only [x_bin, g_int, b_add, wrap_i64, wrap_u64, wrap_u32, wrap_u8, eX, ↓reduceIte, Nat.reduceEqDiff, Int.reduceToNat]
                    refine hK _ _ ?_; clear hK K
                    refine OW_mv rfl ?_
                    refine OW_nil ?_
                    try simp only [Ex.thnH, Ex.inBlockH, ↓reduceIte, Nat.reduceEqDiff]
                    exact ⟨X.length - (i + 1), by omega, i + 1, by omega, rfl, Le.trans hl3 (Le.trans (by rw [hH6]; exact le_upd _ _ _ hb6) hl6), rfl, rfl, rfl, rfl, rfl, trivial⟩
  · first
    | (exfalso; exact cnA c18; done)
    | skip
      (try simp only [decide_eq_true_eq, decide_eq_false_iff_not, Bool.not_eq_true, Bool.not_eq_false, Bool.and_eq_true, Bool.or_eq_true, Bool.or_eq_false_iff, Bool.not_eq_true, Bool.not_eq_eq_eq_not, Bool.not_true, Bool.not_false] at c18)
      have hin : i = X.length := by omega
      have ho1 := hP.out hm (-1) 0 (by omega)
      have ho2 := hP.out hm (X.length : Int) 0 (by omega)
      refine CW_exit ?_
      try simp only [Ex.thnH, Ex.inBlockH, ↓reduceIte, Nat.reduceEqDiff]
      refine hK2 _ _ ?_; try clear hK2 K2
      refine CW_seq (fun K24 hK24 => ?_)
      refine CW_region ?_
      refine OW_opS (fun K hK r => ?_)
      simp only [x_fieldAddr, fa59_0, add_mk, Nat.reduceAdd, Nat.zero_add, eX, ↓reduceIte, Nat.reduceEqDiff, Int.reduceToNat]
      refine hK _ _ ?_; clear hK K
      refine OW_opS (fun K hK r => ?_)
      simp only [x_load, eX, ↓reduceIte, Nat.reduceEqDiff, Int.reduceToNat]
      refine Lt_loadAt1 Try.underlying57 rfl hbA ldA ?_
      try simp only [eX, ↓reduceIte, Nat.reduceEqDiff, Int.reduceToNat]
      refine hK _ _ ?_; clear hK K
      refine OW_opS (fun K hK r => ?_)
      simp only [x_builtin, l_len, List.map_toArray, List.map_cons, List.map_nil, i_len_slice _ _ Try.underlying57, eX, ↓reduceIte, Nat.reduceEqDiff, Int.reduceToNat]
      refine hK _ _ ?_; clear hK K
      refine OW_as rfl ?_
      refine OW_nil ?_
      try simp only [Ex.thnH, Ex.inBlockH, ↓reduceIte, Nat.reduceEqDiff]
      refine hK24 _ _ ?_; try clear hK24 K24
      refine CW_seq (fun K25 hK25 => ?_)
      obtain ⟨R19, hR19⟩ : ∃ R : Hp, R = emptyHp.upd b3 (.cells (m.c (.slice a X.length cap)).toArray 59) := ⟨_, rfl⟩
      refine CW_drawR [0, 5, 0, 0, 0, 0, 6, 0, 1, 0, 0, 0, 0, 2, 0, 1, 0, 0, 0, 0, 2, 0, 0, 0, 0, 0, 2, 0, 0, 0, 0, 0, 2, 0, 0, 0, 0, 0, 2, 0, 0, 0, 0] [0, 1, 2, 3, 4, 5, 7, 8, 6, 9, 10, 11, 12, 13, 14, 15, 16, 17, 18, 19, 20, 21, 22, 23, 24, 25, 26, 27, 28, 29, 30, 31, 32, 33, 34, 35, 36, 37, 38, 39, 40, 41, 42] R19 (by kernel_rfl) (by kernel_rfl) (by subst hR19; exact le_put (le_empty _) kb3) (fun lR19 => ?_)
      apply TW_pure rfl (lt_some (by decide)) rfl
      · intro r
        simp only [x_move, eX, ↓reduceIte, Nat.reduceEqDiff]
        exact ⟨rfl, Le.refl _⟩
      simp only [eX, ↓reduceIte, Nat.reduceEqDiff, Int.reduceToNat]
      refine TW_fence rfl (lt_some (by decide)) rfl (fun K hK r => ?_)
      simp only [x_callF _ bd24, List.map_toArray, List.map_cons, List.map_nil, eX, ↓reduceIte, Nat.reduceEqDiff, Int.reduceToNat]
      refine (manyL hSA).mono ?_
      rintro v H' ⟨rfl, rfl⟩
      rw [hsl]
      try simp only [eX, ↓reduceIte, Nat.reduceEqDiff, Int.reduceToNat]
      refine hK _ _ (fun R99_ hR99_ => ?_); clear hK K
      apply TW_pure rfl (lt_some (by decide)) rfl
      · intro r
        simp only [x_move, eX, ↓reduceIte, Nat.reduceEqDiff]
        exact ⟨rfl, Le.refl _⟩
      simp only [eX, ↓reduceIte, Nat.reduceEqDiff, Int.reduceToNat]
      apply TW_pure rfl (lt_some (by decide)) rfl
      · intro r
        simp (disch := (first | omega | decide)) only [x_bin, g_int, b_eql, dec_lt_t, dec_lt_f, dec_le_t, dec_le_f, dec_eq_t, dec_eq_f, Bool.not_true, Bool.not_false, eX, ↓reduceIte, Nat.reduceEqDiff]
        exact ⟨rfl, Le.refl _⟩
      simp only [eX, ↓reduceIte, Nat.reduceEqDiff, Int.reduceToNat]
      apply TW_pure rfl (lt_some (by decide)) rfl
      · intro r
        simp only [x_move, eX, ↓reduceIte, Nat.reduceEqDiff]
        exact ⟨rfl, Le.refl _⟩
      simp only [eX, ↓reduceIte, Nat.reduceEqDiff, Int.reduceToNat]
      (first | refine TW_split (d := 102) rfl (fun g102 => ?_) (fun g102 => ?_) | skip)
      all_goals try (exfalso; exact cnA g102)
      all_goals (try simp only [decide_eq_true_eq, decide_eq_false_iff_not, Bool.not_eq_true, Bool.not_eq_false, Bool.and_eq_true, Bool.or_eq_true, Bool.or_eq_false_iff, Bool.not_eq_true, Bool.not_eq_eq_eq_not, Bool.not_true, Bool.not_false] at g102)
      all_goals
        try simp only [eX, ↓reduceIte, Nat.reduceEqDiff, Int.reduceToNat]
        first
        | apply TW_pureG rfl (lt_some (by decide)) rfl rfl
          · intro r
            simp only [x_move, eX, ↓reduceIte, Nat.reduceEqDiff]
            exact ⟨rfl, Le.refl _⟩
          simp only [eX, ↓reduceIte, Nat.reduceEqDiff, Int.reduceToNat]
        | refine TW_guardF rfl (lt_some (by decide)) rfl ?_
          simp only [eX, ↓reduceIte, Nat.reduceEqDiff, Int.reduceToNat]
        first
        | apply TW_pureG rfl (lt_some (by decide)) rfl rfl
          · intro r
            simp only [x_fieldAddr, fa59_1, add_mk, Nat.reduceAdd, Nat.zero_add, eX, ↓reduceIte, Nat.reduceEqDiff]
            exact ⟨rfl, Le.refl _⟩
          simp only [eX, ↓reduceIte, Nat.reduceEqDiff, Int.reduceToNat]
        | refine TW_guardF rfl (lt_some (by decide)) rfl ?_
          simp only [eX, ↓reduceIte, Nat.reduceEqDiff, Int.reduceToNat]
        first
        | apply TW_lookG rfl (lt_some (by decide)) rfl rfl
          · intro r
            simp only [x_load, eX, ↓reduceIte, Nat.reduceEqDiff]
            refine Lt_loadAt1 Try.underlying3 rfl hbA ldA ?_
            exact ⟨rfl, Le.refl _⟩
          simp only [eX, ↓reduceIte, Nat.reduceEqDiff, Int.reduceToNat]
        | refine TW_guardF rfl (lt_some (by decide)) rfl ?_
          simp only [eX, ↓reduceIte, Nat.reduceEqDiff, Int.reduceToNat]
        first
        | refine TW_growG rfl (lt_some (by decide)) rfl rfl (fun K hK r => ?_)
          simp only [x_callF _ bd21, List.map_toArray, List.map_cons, List.map_nil, eX, ↓reduceIte, Nat.reduceEqDiff, Int.reduceToNat]
          refine (stepsL hSA).mono ?_
          rintro v H' ⟨rfl, rfl⟩
          rw [hP.rl.st]
          try simp only [eX, ↓reduceIte, Nat.reduceEqDiff, Int.reduceToNat]
          refine hK _ _ leA (fun R104_ hR104_ => ?_); clear hK K
        | refine TW_guardF rfl (lt_some (by decide)) rfl ?_
          simp only [eX, ↓reduceIte, Nat.reduceEqDiff, Int.reduceToNat]
        first
        | apply TW_pureG rfl (lt_some (by decide)) rfl rfl
          · intro r
            simp (disch := (first | omega | decide)) only [x_bin, g_int, b_eql, dec_lt_t, dec_lt_f, dec_le_t, dec_le_f, dec_eq_t, dec_eq_f, Bool.not_true, Bool.not_false, eX, ↓reduceIte, Nat.reduceEqDiff]
            exact ⟨rfl, Le.refl _⟩
          simp only [eX, ↓reduceIte, Nat.reduceEqDiff, Int.reduceToNat]
        | refine TW_guardF rfl (lt_some (by decide)) rfl ?_
          simp only [eX, ↓reduceIte, Nat.reduceEqDiff, Int.reduceToNat]
        apply TW_pure rfl (lt_some (by decide)) rfl
        · intro r
          simp only [x_pick, l_asBool, HL.ite_bool, if_true, if_false, Bool.false_eq_true, eX, ↓reduceIte, Nat.reduceEqDiff]
          exact ⟨rfl, Le.refl _⟩
        simp only [eX, ↓reduceIte, Nat.reduceEqDiff, Int.reduceToNat]
        apply TW_pure rfl (lt_some (by decide)) rfl
        · intro r
          simp only [x_move, eX, ↓reduceIte, Nat.reduceEqDiff]
          exact ⟨rfl, Le.refl _⟩
        simp only [eX, ↓reduceIte, Nat.reduceEqDiff, Int.reduceToNat]
        (first | refine TW_split (d := 109) rfl (fun g109 => ?_) (fun g109 => ?_) | skip)
        all_goals try (exfalso; exact cnA g109)
        all_goals (try simp only [decide_eq_true_eq, decide_eq_false_iff_not, Bool.not_eq_true, Bool.not_eq_false, Bool.and_eq_true, Bool.or_eq_true, Bool.or_eq_false_iff, Bool.not_eq_true, Bool.not_eq_eq_eq_not, Bool.not_true, Bool.not_false] at g109)
        all_goals
          try simp only [eX, ↓reduceIte, Nat.reduceEqDiff, Int.reduceToNat]
          first
          | apply TW_pureG rfl (lt_some (by decide)) rfl rfl
            · intro r
              simp only [x_move, eX, ↓reduceIte, Nat.reduceEqDiff]
              exact ⟨rfl, Le.refl _⟩
            simp only [eX, ↓reduceIte, Nat.reduceEqDiff, Int.reduceToNat]
          | refine TW_guardF rfl (lt_some (by decide)) rfl ?_
            simp only [eX, ↓reduceIte, Nat.reduceEqDiff, Int.reduceToNat]
          first
          | refine TW_chainG rfl (lt_some (by decide)) rfl rfl (fun K hK r => ?_)
            simp only [x_callF _ bd19, List.map_toArray, List.map_cons, List.map_nil, eX, ↓reduceIte, Nat.reduceEqDiff, Int.reduceToNat]
            refine (downL hSA).mono ?_
            rintro v H' ⟨rfl, rfl⟩
            rw [hP.rl.go]
            try simp only [eX, ↓reduceIte, Nat.reduceEqDiff, Int.reduceToNat]
            refine hK _ _ leA ?_; clear hK K
          | refine TW_guardF rfl (lt_some (by decide)) rfl ?_
            simp only [eX, ↓reduceIte, Nat.reduceEqDiff, Int.reduceToNat]
          first
          | apply TW_pureG rfl (lt_some (by decide)) rfl rfl
            · intro r
              simp only [x_fieldAddr, fa59_4, add_mk, Nat.reduceAdd, Nat.zero_add, eX, ↓reduceIte, Nat.reduceEqDiff]
              exact ⟨rfl, Le.refl _⟩
            simp only [eX, ↓reduceIte, Nat.reduceEqDiff, Int.reduceToNat]
          | refine TW_guardF rfl (lt_some (by decide)) rfl ?_
            simp only [eX, ↓reduceIte, Nat.reduceEqDiff, Int.reduceToNat]
          first
          | apply TW_lookG rfl (lt_some (by decide)) rfl rfl
            · intro r
              simp only [x_load, eX, ↓reduceIte, Nat.reduceEqDiff]
              refine Lt_loadAt1 Try.underlying4 rfl hbA ldA ?_
              exact ⟨rfl, Le.refl _⟩
            simp only [eX, ↓reduceIte, Nat.reduceEqDiff, Int.reduceToNat]
          | refine TW_guardF rfl (lt_some (by decide)) rfl ?_
            simp only [eX, ↓reduceIte, Nat.reduceEqDiff, Int.reduceToNat]
          first
          | apply TW_pureG rfl (lt_some (by decide)) rfl rfl
            · intro r
              simp only [x_bin, g_int, g_bool, g_string, g_pointer, g_slice, g_map, g_func, g_nilFunc, g_iface, g_nil_iface, g_nil_r, g_nil_l, eX, ↓reduceIte, Nat.reduceEqDiff]
              rw [e_eql _ _ _ _ (by simp)]
              rw [q_equal, q_bool _ _ Try.underlying4]
              exact ⟨rfl, Le.refl _⟩
            simp only [eX, ↓reduceIte, Nat.reduceEqDiff, Int.reduceToNat]
          | refine TW_guardF rfl (lt_some (by decide)) rfl ?_
            simp only [eX, ↓reduceIte, Nat.reduceEqDiff, Int.reduceToNat]
          apply TW_pure rfl (lt_some (by decide)) rfl
          · intro r
            simp only [x_pick, l_asBool, HL.ite_bool, if_true, if_false, Bool.false_eq_true, eX, ↓reduceIte, Nat.reduceEqDiff]
            exact ⟨rfl, Le.refl _⟩
          simp only [eX, ↓reduceIte, Nat.reduceEqDiff, Int.reduceToNat]
          apply TW_pure rfl (lt_some (by decide)) rfl
          · intro r
            simp only [x_move, eX, ↓reduceIte, Nat.reduceEqDiff]
            exact ⟨rfl, Le.refl _⟩
          simp only [eX, ↓reduceIte, Nat.reduceEqDiff, Int.reduceToNat]
          (first | refine TW_split (d := 116) rfl (fun g116 => ?_) (fun g116 => ?_) | skip)
          all_goals try (exfalso; exact cnA g116)
          all_goals (try simp only [decide_eq_true_eq, decide_eq_false_iff_not, Bool.not_eq_true, Bool.not_eq_false, Bool.and_eq_true, Bool.or_eq_true, Bool.or_eq_false_iff, Bool.not_eq_true, Bool.not_eq_eq_eq_not, Bool.not_true, Bool.not_false] at g116)
          all_goals
            try simp only [eX, ↓reduceIte, Nat.reduceEqDiff, Int.reduceToNat]
            first
            | apply TW_pureG rfl (lt_some (by decide)) rfl rfl
              · intro r
                simp only [x_move, eX, ↓reduceIte, Nat.reduceEqDiff]
                exact ⟨rfl, Le.refl _⟩
              simp only [eX, ↓reduceIte, Nat.reduceEqDiff, Int.reduceToNat]
            | refine TW_guardF rfl (lt_some (by decide)) rfl ?_
              simp only [eX, ↓reduceIte, Nat.reduceEqDiff, Int.reduceToNat]
            first
            | refine TW_chainG rfl (lt_some (by decide)) rfl rfl (fun K hK r => ?_)
              simp only [x_callF _ bd29, List.map_toArray, List.map_cons, List.map_nil, eX, ↓reduceIte, Nat.reduceEqDiff, Int.reduceToNat]
              refine (sizeL hSA hP.sm (-1)).mono ?_
              rintro v H' ⟨rfl, rfl⟩
              rw [ho1.2.1]
              try simp only [eX, ↓reduceIte, Nat.reduceEqDiff, Int.reduceToNat]
              refine hK _ _ leA ?_; clear hK K
            | refine TW_guardF rfl (lt_some (by decide)) rfl ?_
              simp only [eX, ↓reduceIte, Nat.reduceEqDiff, Int.reduceToNat]
            first
            | apply TW_pureG rfl (lt_some (by decide)) rfl rfl
              · intro r
                simp (disch := (first | omega | decide)) only [x_bin, g_int, b_eql, dec_lt_t, dec_lt_f, dec_le_t, dec_le_f, dec_eq_t, dec_eq_f, Bool.not_true, Bool.not_false, eX, ↓reduceIte, Nat.reduceEqDiff]
                exact ⟨rfl, Le.refl _⟩
              simp only [eX, ↓reduceIte, Nat.reduceEqDiff, Int.reduceToNat]
            | refine TW_guardF rfl (lt_some (by decide)) rfl ?_
              simp only [eX, ↓reduceIte, Nat.reduceEqDiff, Int.reduceToNat]
            apply TW_pure rfl (lt_some (by decide)) rfl
            · intro r
              simp only [x_pick, l_asBool, HL.ite_bool, if_true, if_false, Bool.false_eq_true, eX, ↓reduceIte, Nat.reduceEqDiff]
              exact ⟨rfl, Le.refl _⟩
            simp only [eX, ↓reduceIte, Nat.reduceEqDiff, Int.reduceToNat]
            apply TW_pure rfl (lt_some (by decide)) rfl
            · intro r
              simp only [x_move, eX, ↓reduceIte, Nat.reduceEqDiff]
              exact ⟨rfl, Le.refl _⟩
            simp only [eX, ↓reduceIte, Nat.reduceEqDiff, Int.reduceToNat]
            (first | refine TW_split (d := 121) rfl (fun g121 => ?_) (fun g121 => ?_) | skip)
            all_goals try (exfalso; exact cnA g121)
            all_goals (try simp only [decide_eq_true_eq, decide_eq_false_iff_not, Bool.not_eq_true, Bool.not_eq_false, Bool.and_eq_true, Bool.or_eq_true, Bool.or_eq_false_iff, Bool.not_eq_true, Bool.not_eq_eq_eq_not, Bool.not_true, Bool.not_false] at g121)
            all_goals
              try simp only [eX, ↓reduceIte, Nat.reduceEqDiff, Int.reduceToNat]
              first
              | apply TW_pureG rfl (lt_some (by decide)) rfl rfl
                · intro r
                  simp only [x_move, eX, ↓reduceIte, Nat.reduceEqDiff]
                  exact ⟨rfl, Le.refl _⟩
                simp only [eX, ↓reduceIte, Nat.reduceEqDiff, Int.reduceToNat]
              | refine TW_guardF rfl (lt_some (by decide)) rfl ?_
                simp only [eX, ↓reduceIte, Nat.reduceEqDiff, Int.reduceToNat]
              first
              | apply TW_pureG rfl (lt_some (by decide)) rfl rfl
                · intro r
                  simp only [x_move, eX, ↓reduceIte, Nat.reduceEqDiff]
                  exact ⟨rfl, Le.refl _⟩
                simp only [eX, ↓reduceIte, Nat.reduceEqDiff, Int.reduceToNat]
              | refine TW_guardF rfl (lt_some (by decide)) rfl ?_
                simp only [eX, ↓reduceIte, Nat.reduceEqDiff, Int.reduceToNat]
              first
              | refine TW_chainG rfl (lt_some (by decide)) rfl rfl (fun K hK r => ?_)
                simp only [x_callF _ bd29, List.map_toArray, List.map_cons, List.map_nil, eX, ↓reduceIte, Nat.reduceEqDiff, Int.reduceToNat]
                refine (sizeL hSA hP.sm X.length).mono ?_
                rintro v H' ⟨rfl, rfl⟩
                rw [ho2.2.1]
                try simp only [eX, ↓reduceIte, Nat.reduceEqDiff, Int.reduceToNat]
                refine hK _ _ leA ?_; clear hK K
              | refine TW_guardF rfl (lt_some (by decide)) rfl ?_
                simp only [eX, ↓reduceIte, Nat.reduceEqDiff, Int.reduceToNat]
              first
              | apply TW_pureG rfl (lt_some (by decide)) rfl rfl
                · intro r
                  simp (disch := (first | omega | decide)) only [x_bin, g_int, b_eql, dec_lt_t, dec_lt_f, dec_le_t, dec_le_f, dec_eq_t, dec_eq_f, Bool.not_true, Bool.not_false, eX, ↓reduceIte, Nat.reduceEqDiff]
                  exact ⟨rfl, Le.refl _⟩
                simp only [eX, ↓reduceIte, Nat.reduceEqDiff, Int.reduceToNat]
              | refine TW_guardF rfl (lt_some (by decide)) rfl ?_
                simp only [eX, ↓reduceIte, Nat.reduceEqDiff, Int.reduceToNat]
              apply TW_pure rfl (lt_some (by decide)) rfl
              · intro r
                simp only [x_pick, l_asBool, HL.ite_bool, if_true, if_false, Bool.false_eq_true, eX, ↓reduceIte, Nat.reduceEqDiff]
                exact ⟨rfl, Le.refl _⟩
              simp only [eX, ↓reduceIte, Nat.reduceEqDiff, Int.reduceToNat]
              apply TW_pure rfl (lt_some (by decide)) rfl
              · intro r
                simp only [x_move, eX, ↓reduceIte, Nat.reduceEqDiff]
                exact ⟨rfl, Le.refl _⟩
              simp only [eX, ↓reduceIte, Nat.reduceEqDiff, Int.reduceToNat]
              (first | refine TW_split (d := 127) rfl (fun g127 => ?_) (fun g127 => ?_) | skip)
              all_goals try (exfalso; exact cnA g127)
              all_goals (try simp only [decide_eq_true_eq, decide_eq_false_iff_not, Bool.not_eq_true, Bool.not_eq_false, Bool.and_eq_true, Bool.or_eq_true, Bool.or_eq_false_iff, Bool.not_eq_true, Bool.not_eq_eq_eq_not, Bool.not_true, Bool.not_false] at g127)
              all_goals
                try simp only [eX, ↓reduceIte, Nat.reduceEqDiff, Int.reduceToNat]
                first
                | apply TW_pureG rfl (lt_some (by decide)) rfl rfl
                  · intro r
                    simp only [x_move, eX, ↓reduceIte, Nat.reduceEqDiff]
                    exact ⟨rfl, Le.refl _⟩
                  simp only [eX, ↓reduceIte, Nat.reduceEqDiff, Int.reduceToNat]
                | refine TW_guardF rfl (lt_some (by decide)) rfl ?_
                  simp only [eX, ↓reduceIte, Nat.reduceEqDiff, Int.reduceToNat]
                first
                | apply TW_pureG rfl (lt_some (by decide)) rfl rfl
                  · intro r
                    simp only [x_move, eX, ↓reduceIte, Nat.reduceEqDiff]
                    exact ⟨rfl, Le.refl _⟩
                  simp only [eX, ↓reduceIte, Nat.reduceEqDiff, Int.reduceToNat]
                | refine TW_guardF rfl (lt_some (by decide)) rfl ?_
                  simp only [eX, ↓reduceIte, Nat.reduceEqDiff, Int.reduceToNat]
                first
                | refine TW_chainG rfl (lt_some (by decide)) rfl rfl (fun K hK r => ?_)
                  simp only [x_callF _ bd18, List.map_toArray, List.map_cons, List.map_nil, eX, ↓reduceIte, Nat.reduceEqDiff, Int.reduceToNat]
                  refine (waitingL hSA hP.sm X.length).mono ?_
                  rintro v H' ⟨rfl, rfl⟩
                  rw [ho2.2.2]
                  try simp only [eX, ↓reduceIte, Nat.reduceEqDiff, Int.reduceToNat]
                  refine hK _ _ leA ?_; clear hK K
                | refine TW_guardF rfl (lt_some (by decide)) rfl ?_
                  simp only [eX, ↓reduceIte, Nat.reduceEqDiff, Int.reduceToNat]
                first
                | apply TW_pureG rfl (lt_some (by decide)) rfl rfl
                  · intro r
                    simp (disch := (first | omega | decide)) only [x_bin, g_int, b_eql, dec_lt_t, dec_lt_f, dec_le_t, dec_le_f, dec_eq_t, dec_eq_f, Bool.not_true, Bool.not_false, eX, ↓reduceIte, Nat.reduceEqDiff]
                    exact ⟨rfl, Le.refl _⟩
                  simp only [eX, ↓reduceIte, Nat.reduceEqDiff, Int.reduceToNat]
                | refine TW_guardF rfl (lt_some (by decide)) rfl ?_
                  simp only [eX, ↓reduceIte, Nat.reduceEqDiff, Int.reduceToNat]
                apply TW_pure rfl (lt_some (by decide)) rfl
                · intro r
                  simp only [x_pick, l_asBool, HL.ite_bool, if_true, if_false, Bool.false_eq_true, eX, ↓reduceIte, Nat.reduceEqDiff]
                  exact ⟨rfl, Le.refl _⟩
                simp only [eX, ↓reduceIte, Nat.reduceEqDiff, Int.reduceToNat]
                apply TW_pure rfl (lt_some (by decide)) rfl
                · intro r
                  simp only [x_move, eX, ↓reduceIte, Nat.reduceEqDiff]
                  exact ⟨rfl, Le.refl _⟩
                simp only [eX, ↓reduceIte, Nat.reduceEqDiff, Int.reduceToNat]
                (first | refine TW_split (d := 133) rfl (fun g133 => ?_) (fun g133 => ?_) | skip)
                all_goals try (exfalso; exact cnA g133)
                all_goals (try simp only [decide_eq_true_eq, decide_eq_false_iff_not, Bool.not_eq_true, Bool.not_eq_false, Bool.and_eq_true, Bool.or_eq_true, Bool.or_eq_false_iff, Bool.not_eq_true, Bool.not_eq_eq_eq_not, Bool.not_true, Bool.not_false] at g133)
                all_goals
                  try simp only [eX, ↓reduceIte, Nat.reduceEqDiff, Int.reduceToNat]
                  first
                  | apply TW_pureG rfl (lt_some (by decide)) rfl rfl
                    · intro r
                      simp only [x_move, eX, ↓reduceIte, Nat.reduceEqDiff]
                      exact ⟨rfl, Le.refl _⟩
                    simp only [eX, ↓reduceIte, Nat.reduceEqDiff, Int.reduceToNat]
                  | refine TW_guardF rfl (lt_some (by decide)) rfl ?_
                    simp only [eX, ↓reduceIte, Nat.reduceEqDiff, Int.reduceToNat]
                  first
                  | apply TW_pureG rfl (lt_some (by decide)) rfl rfl
                    · intro r
                      simp only [x_move, eX, ↓reduceIte, Nat.reduceEqDiff]
                      exact ⟨rfl, Le.refl _⟩
                    simp only [eX, ↓reduceIte, Nat.reduceEqDiff, Int.reduceToNat]
                  | refine TW_guardF rfl (lt_some (by decide)) rfl ?_
                    simp only [eX, ↓reduceIte, Nat.reduceEqDiff, Int.reduceToNat]
                  first
                  | refine TW_chainG rfl (lt_some (by decide)) rfl rfl (fun K hK r => ?_)
                    simp only [x_callF _ bd17, List.map_toArray, List.map_cons, List.map_nil, eX, ↓reduceIte, Nat.reduceEqDiff, Int.reduceToNat]
                    refine (sureL hSA hP.sm X.length 0).mono ?_
                    rintro v H' ⟨rfl, rfl⟩
                    rw [ho2.1]
                    try simp only [eX, ↓reduceIte, Nat.reduceEqDiff, Int.reduceToNat]
                    refine hK _ _ leA ?_; clear hK K
                  | refine TW_guardF rfl (lt_some (by decide)) rfl ?_
                    simp only [eX, ↓reduceIte, Nat.reduceEqDiff, Int.reduceToNat]
                  first
                  | apply TW_pureG rfl (lt_some (by decide)) rfl rfl
                    · intro r
                      simp only [x_build, List.map_toArray, List.map_cons, List.map_nil, eX, ↓reduceIte, Nat.reduceEqDiff]
                      rw [l_buildArr Try.underlying38 sz5 zr38]
                      simp only [Value.cells]
                      simp only [fill_nil, orF_some, List.setIfInBounds_toArray, List.set_cons_zero, List.set_cons_succ]
                      exact ⟨rfl, Le.refl _⟩
                    simp only [eX, ↓reduceIte, Nat.reduceEqDiff, Int.reduceToNat]
                  | refine TW_guardF rfl (lt_some (by decide)) rfl ?_
                    simp only [eX, ↓reduceIte, Nat.reduceEqDiff, Int.reduceToNat]
                  first
                  | apply TW_pureG rfl (lt_some (by decide)) rfl rfl
                    · intro r
                      simp only [x_bin, g_agg _ _ _ _ _ _ eqg38, eX, ↓reduceIte, Nat.reduceEqDiff]
                      rw [e_eql _ _ _ _ (by simp)]
                      rw [q_equal]
                      rw [show (Array.replicate 64 (Value.int .u8 0)) = Sec.zero.c.toArray from rfl]
                      rw [q_sec]
                      exact ⟨rfl, Le.refl _⟩
                    simp only [eX, ↓reduceIte, Nat.reduceEqDiff, Int.reduceToNat]
                  | refine TW_guardF rfl (lt_some (by decide)) rfl ?_
                    simp only [eX, ↓reduceIte, Nat.reduceEqDiff, Int.reduceToNat]
                  apply TW_pure rfl (lt_some (by decide)) rfl
                  · intro r
                    simp only [x_pick, l_asBool, HL.ite_bool, if_true, if_false, Bool.false_eq_true, eX, ↓reduceIte, Nat.reduceEqDiff]
                    exact ⟨rfl, Le.refl _⟩
                  simp only [eX, ↓reduceIte, Nat.reduceEqDiff, Int.reduceToNat]
                  apply TW_pure rfl (lt_some (by decide)) rfl
                  · intro r
                    simp only [x_assign, eX, ↓reduceIte, Nat.reduceEqDiff]
                    exact ⟨rfl, Le.refl _⟩
                  simp only [eX, ↓reduceIte, Nat.reduceEqDiff, Int.reduceToNat]
                  refine TW_nil ?_
                  try simp only [Ex.thnH, Ex.inBlockH, ↓reduceIte, Nat.reduceEqDiff]
                  refine hK25 _ _ ?_; try clear hK25 K25
                  refine CW_ret ?_
                  try simp only [Ex.thnH, Ex.inBlockH, ↓reduceIte, Nat.reduceEqDiff]
                  refine ⟨[_], ⟨rfl, trivial⟩, H, lhA, ?_, rfl⟩
                  first | rfl | (simp; done)

end Go.Proofs.Ytkmjncmdhinlgaa.HL
end
section
namespace Go.Proofs.Ytkmjncmdhinlgaa.HL
open Go Go.Proofs
set_option linter.unusedSimpArgs false
set_option linter.unusedVariables false
attribute [local irreducible] Lt Lq CW OW TW CallH


theorem Stn.del {H K F : Hp} {p : Nat} {s : St} (hA : Stn H K F p s) {b : Nat} (hF : F b = none) (hH : H b = none) : Stn H (K.del b) F p s :=
  ⟨hA.set, fun x o hx => (del_ne _ (fun e => by subst e; rw [hF] at hx; cases hx)).trans (hA.le x o hx), fun x o hx => (del_ne _ (fun e => by subst e; rw [hH] at hx; cases hx)).trans (hA.old x o hx), hA.ap⟩
theorem newAny (H : Hp) (a : Option Addr) (cap : Nat) (l : List Int) (hv : Holds H 1 (.slice a l.length cap) l.length (l.map (Value.int .i64))) (hl : l.length ≤ 1000) : CallH Try.prog 10 #[.slice a l.length cap] H (fun v H' => ∃ pv, v = .tuple #[pv, errV (if goodN l = true then none else some 1)] ∧ Le H H' ∧ (goodN l = false → pv = .pointer none) ∧ (goodN l = true → ∃ p F, pv = ptrV p ∧ Stn H H' F p (newSt l))) := by
  refine (new_ok H a cap l hv hl).mono ?_
  rintro v H' (⟨h1, rfl, rfl⟩ | ⟨h1, hle, p, rfl, F, hX, hF, hd⟩)
  · exact ⟨_, by rw [if_neg (by rw [h1]; simp)], Le.refl _, fun _ => rfl, fun h => by rw [h1] at h; cases h⟩
  · refine ⟨_, by rw [if_pos h1], hle, fun h => (by rw [h1] at h; cases h), fun _ => ⟨p, F, rfl, hX, hF, hle, fun b hb => ?_⟩⟩
    cases hc : F b with
    | none => rfl
    | some o => exact absurd (hd b (by rw [hc]; simp)) hb
theorem bad_num (b : Bool) : ((if b = true then none else some 1 : Option Int)).getD 0 = (if b = true then 0 else 1) := by cases b <;> rfl
theorem bad_err (b : Bool) : errOk (if b = true then none else some 1) := fun k hk => by
  cases b
  · simp at hk; subst hk; decide
  · simp at hk
/-- a set and the document's, at a step of a law's script -/
structure Both (H0 Q K F : Hp) (p : Nat) (s : St) (a : Option Addr) (cap : Nat) (X : List RDX) (m : RSt) (n : Nat) (b : Nat) : Prop where
  old : Le H0 Q
  st : Stn Q K F p s
  rx : RX Q a cap X
  dv : m.dv = rdv X
  pr : PR n s m
  q : Q b = none
  f : F b = none
  box : K b = some (.cells (m.c (.slice a X.length cap)).toArray 59)
theorem Both.more {H0 Q K F K' : Hp} {p : Nat} {s : St} {a : Option Addr} {cap : Nat} {X : List RDX} {m : RSt} {n b : Nat} (h : Both H0 Q K F p s a cap X m n b) (hl : Le K K') : Both H0 Q K' F p s a cap X m n b := ⟨h.old, h.st.more hl, h.rx, h.dv, h.pr, h.q, h.f, hl _ _ h.box⟩
/-- an act by both, where the document's set lies in a box of its own -/
theorem doL {H0 Q K F : Hp} {p : Nat} {s : St} {a : Option Addr} {cap : Nat} {X : List RDX} {m : RSt} {n b : Nat} (h : Both H0 Q K F p s a cap X m n b) (hn : n ≤ 1000) (o : Op1) (ho : o.ok H0) (hol : o.keep.length ≤ 60) : CallH Try.prog 25 #[.pointer (some ⟨p, 0, none⟩), m.v (.slice a X.length cap), .agg o.c.toArray] K (fun v K' => ∃ Q' F' a' cap' X', v = .tuple #[(m.act o).v (.slice a' X'.length cap'), .bool true] ∧ Le H0 Q' ∧ Stn Q' K' F' p (s.act o) ∧ RX Q' a' cap' X' ∧ (m.act o).dv = rdv X' ∧ PR (n + 1) (s.act o) (m.act o) ∧ Q' b = none ∧ F' b = none ∧ K' b = some (.cells (m.c (.slice a X.length cap)).toArray 59)) := by
  have hoq : o.ok Q := ⟨ho.hk.le h.old, ho.d0, ho.d1, ho.n0, ho.n1, ho.b0, ho.b1⟩
  refine (CallH.use (do_ok Q (K.del b) F p s (h.st.del h.f h.q) a cap X h.rx m h.dv n h.pr hn o hoq hol) (le_del K b)).mono ?_
  rintro v K' ⟨G, ⟨Q', F', a', cap', X', hl, hq, hS, rfl, hX, hd⟩, lG, hk⟩
  obtain ⟨k1, g1⟩ := hk b _ h.box (del_self _ _)
  exact ⟨Q', F', a', cap', X', rfl, Le.trans h.old hq, hS.more lG, hX, hd, h.pr.act o ho.n1, none_of_le hS.old g1, none_of_le hS.le g1, k1⟩
theorem Both.of {H0 Q K F : Hp} {p : Nat} {s : St} {a : Option Addr} {cap : Nat} {X : List RDX} {m : RSt} {n b : Nat} (h1 : Le H0 Q) (h2 : Stn Q K F p s) (h3 : RX Q a cap X) (h4 : m.dv = rdv X) (h5 : PR n s m) (h6 : Q b = none) (h7 : F b = none) : Both H0 Q (K.upd b (.cells (m.c (.slice a X.length cap)).toArray 59)) F p s a cap X m n b := ⟨h1, h2.off h7 h6 _, h3, h4, h5, h6, h7, upd_same _ _ _⟩
theorem standsL {H0 Q K F : Hp} {p : Nat} {s : St} {a : Option Addr} {cap : Nat} {X : List RDX} {m : RSt} {n b : Nat} (h : Both H0 Q K F p s a cap X m n b) (hn : n ≤ 1000) : CallH Try.prog 26 #[.pointer (some ⟨p, 0, none⟩), m.v (.slice a X.length cap)] K (fun v K' => v = .bool true ∧ K' = K) := stands_ok Q K F p s h.st a cap X h.rx m h.dv n h.pr hn

set_option maxRecDepth 100000 in
set_option maxHeartbeats 8000000 in
theorem lawPlays (H : Hp) (a : Option Addr) (cap : Nat) (sz : List Int) (hsz : Holds H 1 (.slice a sz.length cap) sz.length (sz.map (Value.int .i64))) (a2 : Option Addr) (cap2 : Nat) (l : List Op1) (hv : Holds H 5 (.slice a2 l.length cap2) l.length (ops l)) (ho : ∀ x ∈ l, x.ok H) : CallH Try.prog 6 #[.slice a sz.length cap, .slice a2 l.length cap2] H (fun v H' => v = .bool true ∧ Le H H') := by
  refine CallH_enter (l := [_, _]) (rl := [.tmp 4]) (n := 82) Try.func6 rfl rfl rfl rfl rfl ?_
  simp only [envOf, Nat.reduceAdd]
  refine CW_seq (fun K1 hK1 => ?_)
  refine CW_region ?_
  refine OW_as rfl ?_
  refine OW_nil ?_
  try simp only [Ex.thnH, Ex.inBlockH, ↓reduceIte, Nat.reduceEqDiff]
  refine hK1 _ _ ?_; try clear hK1 K1
  refine CW_seq (fun K2 hK2 => ?_)
  refine CW_seq (fun K3 hK3 => ?_)
  refine CW_region ?_
  refine OW_opS (fun K hK r => ?_)
  simp only [x_callF _ bd8, List.map_toArray, List.map_cons, List.map_nil, eX, ↓reduceIte, Nat.reduceEqDiff, Int.reduceToNat]
  refine (alive_ok _).mono ?_
  rintro v15 H' ⟨rfl, hq⟩
  have hq := hq.symm
  subst hq
  try simp only [eX, ↓reduceIte, Nat.reduceEqDiff, Int.reduceToNat]
  refine hK _ _ ?_; clear hK K
  refine OW_opS (fun K hK r => ?_)
  simp only [x_un, u_not, eX, ↓reduceIte, Nat.reduceEqDiff, Int.reduceToNat]
  refine hK _ _ ?_; clear hK K
  refine OW_nil ?_
  try simp only [Ex.thnH, Ex.inBlockH, ↓reduceIte, Nat.reduceEqDiff]
  refine hK3 _ _ ?_; try clear hK3 K3
  refine CW_cond (fun r => rfl) (fun c16 => ?_) (fun c16 => ?_)
  · first
    | (exfalso; exact cnA c16; done)
    | skip
      skip
      refine CW_seq (fun K4 hK4 => ?_)
      refine CW_region ?_
      refine OW_as rfl ?_
      refine OW_nil ?_
      try simp only [Ex.thnH, Ex.inBlockH, ↓reduceIte, Nat.reduceEqDiff]
      refine hK4 _ _ ?_; try clear hK4 K4
      refine CW_ret ?_
      try simp only [Ex.thnH, Ex.inBlockH, ↓reduceIte, Nat.reduceEqDiff]
      skip
  · first
    | (exfalso; exact cnA c16; done)
    | skip
      skip
      refine CW_skip ?_
      try simp only [Ex.thnH, Ex.inBlockH, ↓reduceIte, Nat.reduceEqDiff]
      refine hK2 _ _ ?_; try clear hK2 K2
      refine CW_seq (fun K5 hK5 => ?_)
      refine CW_seq (fun K6 hK6 => ?_)
      refine CW_region ?_
      refine OW_mv rfl ?_
      refine OW_opS (fun K hK r => ?_)
      simp only [x_callF _ bd9, List.map_toArray, List.map_cons, List.map_nil, eX, ↓reduceIte, Nat.reduceEqDiff, Int.reduceToNat]
      refine (long_ok _ a2 cap2 l hv).mono ?_
      rintro v18 H' ⟨t, rfl, hsh, hq⟩
      have hq := hq.symm
      subst hq
      try simp only [eX, ↓reduceIte, Nat.reduceEqDiff, Int.reduceToNat]
      refine hK _ _ ?_; clear hK K
      refine OW_mv rfl ?_
      (first | refine OW_split (d := 19) rfl (fun g19 => ?_) (fun g19 => ?_) | skip)
      all_goals try (exfalso; exact cnA g19)
      all_goals (try simp only [decide_eq_true_eq, decide_eq_false_iff_not, Bool.not_eq_true, Bool.not_eq_false, Bool.and_eq_true, Bool.or_eq_true, Bool.or_eq_false_iff, Bool.not_eq_true, Bool.not_eq_eq_eq_not, Bool.not_true, Bool.not_false] at g19)
      all_goals
        try simp only [eX, ↓reduceIte, Nat.reduceEqDiff, Int.reduceToNat]
        first
        | refine OW_guardT rfl (lt_some (by decide)) rfl (fun K hK r => ?_)
          simp only [x_move, eX, ↓reduceIte, Nat.reduceEqDiff, Int.reduceToNat]
          refine hK _ _ ?_; clear hK K
        | refine OW_guardF rfl (lt_some (by decide)) rfl ?_
          simp only [eX, ↓reduceIte, Nat.reduceEqDiff, Int.reduceToNat]
        first
        | refine OW_guardT rfl (lt_some (by decide)) rfl (fun K hK r => ?_)
          simp only [x_builtin, l_len, List.map_toArray, List.map_cons, List.map_nil, i_len_slice _ _ Try.underlying56, eX, ↓reduceIte, Nat.reduceEqDiff, Int.reduceToNat]
          refine hK _ _ ?_; clear hK K
        | refine OW_guardF rfl (lt_some (by decide)) rfl ?_
          simp only [eX, ↓reduceIte, Nat.reduceEqDiff, Int.reduceToNat]
        first
        | refine OW_guardT rfl (lt_some (by decide)) rfl (fun K hK r => ?_)
          simp (disch := (first | omega | decide)) only [x_bin, g_int, b_gtr, dec_lt_t, dec_lt_f, dec_le_t, dec_le_f, dec_eq_t, dec_eq_f, Bool.not_true, Bool.not_false, eX, ↓reduceIte, Nat.reduceEqDiff, Int.reduceToNat]
          refine hK _ _ ?_; clear hK K
        | refine OW_guardF rfl (lt_some (by decide)) rfl ?_
          simp only [eX, ↓reduceIte, Nat.reduceEqDiff, Int.reduceToNat]
        refine OW_opS (fun K hK r => ?_)
        simp only [x_pick, l_asBool, HL.ite_bool, if_true, if_false, Bool.false_eq_true, eX, ↓reduceIte, Nat.reduceEqDiff, Int.reduceToNat]
        refine hK _ _ ?_; clear hK K
        refine OW_nil ?_
        try simp only [Ex.thnH, Ex.inBlockH, ↓reduceIte, Nat.reduceEqDiff]
        refine hK6 _ _ ?_; try clear hK6 K6
        refine CW_cond (fun r => rfl) (fun c23 => ?_) (fun c23 => ?_)
        · first
          | (exfalso; exact cnA c23; done)
          | skip
            (try simp only [decide_eq_true_eq, decide_eq_false_iff_not, Bool.not_eq_true, Bool.not_eq_false, Bool.and_eq_true, Bool.or_eq_true, Bool.or_eq_false_iff, Bool.not_eq_true, Bool.not_eq_eq_eq_not, Bool.not_true, Bool.not_false] at c23)
            refine CW_seq (fun K7 hK7 => ?_)
            refine CW_region ?_
            refine OW_as rfl ?_
            refine OW_nil ?_
            try simp only [Ex.thnH, Ex.inBlockH, ↓reduceIte, Nat.reduceEqDiff]
            refine hK7 _ _ ?_; try clear hK7 K7
            refine CW_ret ?_
            try simp only [Ex.thnH, Ex.inBlockH, ↓reduceIte, Nat.reduceEqDiff]
            exact ⟨[_], ⟨rfl, trivial⟩, H, lhA, rfl, Le.refl _⟩
        · first
          | (exfalso; exact cnA c23; done)
          | skip
            (try simp only [decide_eq_true_eq, decide_eq_false_iff_not, Bool.not_eq_true, Bool.not_eq_false, Bool.and_eq_true, Bool.or_eq_true, Bool.or_eq_false_iff, Bool.not_eq_true, Bool.not_eq_eq_eq_not, Bool.not_true, Bool.not_false] at c23)
            have hshort := hsh (by first | assumption | simp_all)
            have hl81 := hshort.1
            have hsh2 := hshort.2
            have hsl : sz.length ≤ 20 := by omega
            refine CW_skip ?_
            try simp only [Ex.thnH, Ex.inBlockH, ↓reduceIte, Nat.reduceEqDiff]
            refine hK5 _ _ ?_; try clear hK5 K5
            refine CW_seq (fun K8 hK8 => ?_)
            refine CW_region ?_
            refine OW_mv rfl ?_
            refine OW_opS (fun K hK r => ?_)
            simp only [x_callF _ bd10, List.map_toArray, List.map_cons, List.map_nil, eX, ↓reduceIte, Nat.reduceEqDiff, Int.reduceToNat]
            refine (newAny H a cap sz hsz (by omega)).mono ?_
            rintro v26 H26 ⟨pv, rfl, lH26, hb26, hg26⟩
            try simp only [eX, ↓reduceIte, Nat.reduceEqDiff, Int.reduceToNat]
            refine hK _ _ ?_; clear hK K
            refine OW_mv rfl ?_
            refine OW_opS (fun K hK r => ?_)
            simp only [x_extract, i_extract, List.getElem?_toArray, List.getElem?_cons_zero, List.getElem?_cons_succ, orF_some, eX, ↓reduceIte, Nat.reduceEqDiff, Int.reduceToNat]
            refine hK _ _ ?_; clear hK K
            refine OW_opS (fun K hK r => ?_)
            simp only [x_extract, i_extract, List.getElem?_toArray, List.getElem?_cons_zero, List.getElem?_cons_succ, orF_some, eX, ↓reduceIte, Nat.reduceEqDiff, Int.reduceToNat]
            refine hK _ _ ?_; clear hK K
            refine OW_as rfl ?_
            refine OW_as rfl ?_
            refine OW_nil ?_
            try simp only [Ex.thnH, Ex.inBlockH, ↓reduceIte, Nat.reduceEqDiff]
            refine hK8 _ _ ?_; try clear hK8 K8
            refine CW_seq (fun K9 hK9 => ?_)
            refine CW_region ?_
            refine OW_mv rfl ?_
            refine OW_opS (fun K hK r => ?_)
            simp only [x_callF _ bd22, List.map_toArray, List.map_cons, List.map_nil, eX, ↓reduceIte, Nat.reduceEqDiff, Int.reduceToNat]
            refine (CallH.use (rnew_ok H a cap sz hsz (by omega)) lH26).mono ?_
            rintro v31 H31 ⟨G, hR31, lG, hkeep⟩
            obtain ⟨m, a', cap', X, rfl, hgo⟩ : ∃ (m : RSt) (a' : Option Addr) (cap' : Nat) (X : List RDX), v31 = .tuple #[m.v (.slice a' X.length cap'), .int .i64 (if goodN sz = true then 0 else 1)] ∧ (goodN sz = true → m = newRs sz ∧ RX G a' cap' X ∧ m.dv = rdv X ∧ Le H G) := by
              rcases hR31 with ⟨h1, rfl, _⟩ | ⟨h1, h2, a', cap', X, rfl, h3, h4⟩
              · exact ⟨⟨[], 0, 0, false, false⟩, none, 0, [], by rw [if_neg (by rw [h1]; simp)]; rfl, fun h => by rw [h1] at h; cases h⟩
              · exact ⟨newRs sz, a', cap', X, by rw [if_pos h1], fun _ => ⟨rfl, h3, h4, h2⟩⟩
            have lH31 : Le H H31 := by
              rcases hR31 with ⟨h1, _, rfl⟩ | ⟨h1, h2, _⟩
              · exact lG
              · exact Le.trans h2 lG
            try simp only [eX, ↓reduceIte, Nat.reduceEqDiff, Int.reduceToNat]
            refine hK _ _ ?_; clear hK K
            refine OW_mv rfl ?_
            refine OW_opS (fun K hK r => ?_)
            simp only [x_extract, i_extract, List.getElem?_toArray, List.getElem?_cons_zero, List.getElem?_cons_succ, orF_some, eX, ↓reduceIte, Nat.reduceEqDiff, Int.reduceToNat]
            refine hK _ _ ?_; clear hK K
            refine OW_opS (fun K hK r => ?_)
            simp only [x_extract, i_extract, List.getElem?_toArray, List.getElem?_cons_zero, List.getElem?_cons_succ, orF_some, eX, ↓reduceIte, Nat.reduceEqDiff, Int.reduceToNat]
            refine hK _ _ ?_; clear hK K
            refine OW_opS (fun K hK r => ?_)
            simp only [x_alloc, zr59, orF_some, Value.cells, eX, ↓reduceIte, Nat.reduceEqDiff, Int.reduceToNat]
            intro b7 hb7
            have f7_H : H b7 = none := none_of_le lhA hb7
            try simp only [eX, ↓reduceIte, Nat.reduceEqDiff, Int.reduceToNat]
            refine hK _ _ ?_; clear hK K
            refine OW_op rfl (lt_none) (fun K hK r => ?_)
            simp only [x_store, eX, ↓reduceIte, Nat.reduceEqDiff, Int.reduceToNat]
            first | refine Lt_storeAll sz59 bdA hbA bdA plA (by decide) ?_ | refine Lt_storeAtA sz59 bdA hbA bdA plA (by decide) ?_
            try simp only [eX, ↓reduceIte, Nat.reduceEqDiff, Int.reduceToNat]
            refine hK _ _ ?_; clear hK K
            refine OW_as rfl ?_
            refine OW_nil ?_
            try simp only [Ex.thnH, Ex.inBlockH, ↓reduceIte, Nat.reduceEqDiff]
            refine hK9 _ _ ?_; try clear hK9 K9
            refine CW_seq (fun K10 hK10 => ?_)
            refine CW_seq (fun K11 hK11 => ?_)
            refine CW_region ?_
            refine OW_mv rfl ?_
            refine OW_opS (fun K hK r => ?_)
            simp only [x_callF _ bd23, List.map_toArray, List.map_cons, List.map_nil, eX, ↓reduceIte, Nat.reduceEqDiff, Int.reduceToNat]
            refine (num_Num _ (if goodN sz = true then none else some 1) (bad_err _)).mono ?_
            rintro v H' ⟨rfl, rfl⟩
            rw [bad_num]
            try simp only [eX, ↓reduceIte, Nat.reduceEqDiff, Int.reduceToNat]
            refine hK _ _ ?_; clear hK K
            refine OW_mv rfl ?_
            refine OW_opS (fun K hK r => ?_)
            simp (disch := (first | omega | decide)) only [x_bin, g_int, b_neq, dec_lt_t, dec_lt_f, dec_le_t, dec_le_f, dec_eq_t, dec_eq_f, Bool.not_true, Bool.not_false, eX, ↓reduceIte, Nat.reduceEqDiff, Int.reduceToNat]
            refine hK _ _ ?_; clear hK K
            refine OW_nil ?_
            try simp only [Ex.thnH, Ex.inBlockH, ↓reduceIte, Nat.reduceEqDiff]
            refine hK11 _ _ ?_; try clear hK11 K11
            refine CW_cond (fun r => rfl) (fun c37 => ?_) (fun c37 => ?_)
            · first
              | (exfalso; exact cnA c37; done)
              | skip
                exfalso; revert c37; simp
                refine CW_seq (fun K12 hK12 => ?_)
                refine CW_region ?_
                refine OW_as rfl ?_
                refine OW_nil ?_
                try simp only [Ex.thnH, Ex.inBlockH, ↓reduceIte, Nat.reduceEqDiff]
                refine hK12 _ _ ?_; try clear hK12 K12
                refine CW_ret ?_
                try simp only [Ex.thnH, Ex.inBlockH, ↓reduceIte, Nat.reduceEqDiff]
                skip
            · first
              | (exfalso; exact cnA c37; done)
              | skip
                (try simp only [decide_eq_true_eq, decide_eq_false_iff_not, Bool.not_eq_true, Bool.not_eq_false, Bool.and_eq_true, Bool.or_eq_true, Bool.or_eq_false_iff, Bool.not_eq_true, Bool.not_eq_eq_eq_not, Bool.not_true, Bool.not_false] at c37)
                refine CW_skip ?_
                try simp only [Ex.thnH, Ex.inBlockH, ↓reduceIte, Nat.reduceEqDiff]
                refine hK10 _ _ ?_; try clear hK10 K10
                refine CW_seq (fun K13 hK13 => ?_)
                refine CW_seq (fun K14 hK14 => ?_)
                refine CW_region ?_
                refine OW_mv rfl ?_
                refine OW_opS (fun K hK r => ?_)
                simp (disch := (first | omega | decide)) only [x_bin, g_int, b_neq, dec_lt_t, dec_lt_f, dec_le_t, dec_le_f, dec_eq_t, dec_eq_f, Bool.not_true, Bool.not_false, eX, ↓reduceIte, Nat.reduceEqDiff, Int.reduceToNat]
                refine hK _ _ ?_; clear hK K
                refine OW_nil ?_
                try simp only [Ex.thnH, Ex.inBlockH, ↓reduceIte, Nat.reduceEqDiff]
                refine hK14 _ _ ?_; try clear hK14 K14
                refine CW_cond (fun r => rfl) (fun c39 => ?_) (fun c39 => ?_)
                · first
                  | (exfalso; exact cnA c39; done)
                  | skip
                    have hg : goodN sz = false := by
                      cases hgg : goodN sz with
                      | false => rfl
                      | true => rw [hgg] at c39; exact absurd c39 (by decide)
                    have hpv := hb26 hg
                    subst hpv
                    refine CW_seq (fun K15 hK15 => ?_)
                    refine CW_region ?_
                    refine OW_mv rfl ?_
                    refine OW_opS (fun K hK r => ?_)
                    simp only [x_bin, g_int, g_bool, g_string, g_pointer, g_slice, g_map, g_func, g_nilFunc, g_iface, g_nil_iface, g_nil_r, g_nil_l, eX, ↓reduceIte, Nat.reduceEqDiff, Int.reduceToNat]
                    rw [e_eql _ _ _ _ (by simp)]
                    rw [q_equal]
                    first | rw [q_ptr_nil _ _ _ Try.underlying26] | rw [q_nil_ptr _ _ _ Try.underlying26]
                    try simp only [eX, ↓reduceIte, Nat.reduceEqDiff, Int.reduceToNat]
                    refine hK _ _ ?_; clear hK K
                    refine OW_as rfl ?_
                    refine OW_nil ?_
                    try simp only [Ex.thnH, Ex.inBlockH, ↓reduceIte, Nat.reduceEqDiff]
                    refine hK15 _ _ ?_; try clear hK15 K15
                    refine CW_ret ?_
                    try simp only [Ex.thnH, Ex.inBlockH, ↓reduceIte, Nat.reduceEqDiff]
                    exact ⟨[_], ⟨rfl, trivial⟩, H, lhA, by first | rfl | (simp; done) | (simp; rfl), Le.refl _⟩
                · first
                  | (exfalso; exact cnA c39; done)
                  | skip
                    have hg : goodN sz = true := by
                      cases hgg : goodN sz with
                      | true => rfl
                      | false => rw [hgg] at c39; exact absurd c39 (by decide)
                    obtain ⟨p, F26, hpv, hA26⟩ := hg26 hg
                    subst hpv
                    obtain ⟨hm, hXG, hdv, lHG⟩ := hgo hg
                    have hBo : Both H G (H31.upd b7 (.cells (m.c (.slice a' X.length cap')).toArray 59)) F26 p (newSt sz) a' cap' X m 0 b7 := Both.of lHG (hA26.side lG hkeep) hXG hdv (by rw [hm]; exact PR.new hg) (none_of_le lG hb7) ((hA26.side lG hkeep).fresh hb7)
                    have hlB : Le H (H31.upd b7 (.cells (m.c (.slice a' X.length cap')).toArray 59)) := le_upd_of lH31 f7_H
                    refine CW_skip ?_
                    try simp only [Ex.thnH, Ex.inBlockH, ↓reduceIte, Nat.reduceEqDiff]
                    refine hK13 _ _ ?_; try clear hK13 K13
                    refine CW_seq (fun K16 hK16 => ?_)
                    refine CW_seq (fun K17 hK17 => ?_)
                    refine CW_region ?_
                    refine OW_mv rfl ?_
                    refine OW_opS (fun K hK r => ?_)
                    simp only [x_builtin, l_len, List.map_toArray, List.map_cons, List.map_nil, i_len_slice _ _ Try.underlying56, eX, ↓reduceIte, Nat.reduceEqDiff, Int.reduceToNat]
                    refine hK _ _ ?_; clear hK K
                    refine OW_mv rfl ?_
                    refine OW_nil ?_
                    try simp only [Ex.thnH, Ex.inBlockH, ↓reduceIte, Nat.reduceEqDiff]
                    refine hK17 _ _ ?_; try clear hK17 K17
                    refine CW_block ?_
                    refine CW_loop (fun m_ e H_ => ∃ i : Nat, i ≤ sz.length ∧ m_ = sz.length - i ∧ H_ = H31.upd b7 (.cells (m.c (.slice a' X.length cap')).toArray 59) ∧ Env.has [(0, .slice a sz.length cap), (1, .slice a2 l.length cap2), (5, .pointer (some ⟨p, 0, none⟩)), (7, .pointer (some ⟨b7, 0, none⟩)), (42, .slice a sz.length cap), (43, .int .i64 sz.length), (44, .int .i64 i)] e) (sz.length) ?_ ?_
                    · skip
                      exact ⟨0, by omega, by omega, rfA, rfl, rfl, rfl, rfl, rfl, rfl, rfl, trivial⟩
                    intro m_ e_ H_ hI_
                    obtain ⟨i, hi, rfl, hHe, he⟩ := hI_
                    refine CW_env he.sub ?_; clear he e_
                    subst hHe
                    refine CW_seq (fun K18 hK18 => ?_)
                    refine CW_region ?_
                    refine OW_opS (fun K hK r => ?_)
                    simp (disch := (first | omega | decide)) only [x_bin, g_int, b_lss, dec_lt_t, dec_lt_f, dec_le_t, dec_le_f, dec_eq_t, dec_eq_f, Bool.not_true, Bool.not_false, eX, ↓reduceIte, Nat.reduceEqDiff, Int.reduceToNat]
                    refine hK _ _ ?_; clear hK K
                    refine OW_nil ?_
                    try simp only [Ex.thnH, Ex.inBlockH, ↓reduceIte, Nat.reduceEqDiff]
                    refine hK18 _ _ ?_; try clear hK18 K18
                    refine CW_seq (fun K19 hK19 => ?_)
                    refine CW_cond (fun r => rfl) (fun c45 => ?_) (fun c45 => ?_)
                    · first
                      | (exfalso; exact cnA c45; done)
                      | skip
                        (try simp only [decide_eq_true_eq, decide_eq_false_iff_not, Bool.not_eq_true, Bool.not_eq_false, Bool.and_eq_true, Bool.or_eq_true, Bool.or_eq_false_iff, Bool.not_eq_true, Bool.not_eq_eq_eq_not, Bool.not_true, Bool.not_false] at c45)
                        obtain ⟨bz, oz, cz, Tz, Fz, ez, hbz, hsz2, atz⟩ := (hsz.le hlB).at (by omega)
                        refine CW_skip ?_
                        try simp only [Ex.thnH, Ex.inBlockH, ↓reduceIte, Nat.reduceEqDiff]
                        refine hK19 _ _ ?_; try clear hK19 K19
                        refine CW_seq (fun K20 hK20 => ?_)
                        refine CW_block ?_
                        refine CW_seq (fun K21 hK21 => ?_)
                        refine CW_region ?_
                        refine OW_opS (fun K hK r => ?_)
                        simp only [x_indexAddr, eX, ↓reduceIte, Nat.reduceEqDiff, Int.reduceToNat]
                        refine Lt_indexSof Try.underlying56 sz3 ez ixA ixA ?_
                        try simp only [Int.toNat_natCast, Nat.mul_one]
                        refine hK _ _ ?_; clear hK K
                        refine OW_opS (fun K hK r => ?_)
                        simp only [x_load, eX, ↓reduceIte, Nat.reduceEqDiff, Int.reduceToNat]
                        refine Lt_loadAt1 Try.underlying3 rfl hbz (v := .int .i64 (sz.getD i default)) (by first | exact ints_get atz rfl i (by omega) | (rw [Nat.mul_one]; exact ints_get atz rfl i (by omega))) ?_
                        refine hK _ _ ?_; clear hK K
                        refine OW_as rfl ?_
                        refine OW_nil ?_
                        try simp only [Ex.thnH, Ex.inBlockH, ↓reduceIte, Nat.reduceEqDiff]
                        refine hK21 _ _ ?_; try clear hK21 K21
                        refine CW_seq (fun K22 hK22 => ?_)
                        refine CW_region ?_
                        refine OW_mv rfl ?_
                        refine OW_opS (fun K hK r => ?_)
                        simp (disch := (first | omega | decide)) only [x_bin, g_int, b_gtr, dec_lt_t, dec_lt_f, dec_le_t, dec_le_f, dec_eq_t, dec_eq_f, Bool.not_true, Bool.not_false, eX, ↓reduceIte, Nat.reduceEqDiff, Int.reduceToNat]
                        refine hK _ _ ?_; clear hK K
                        refine OW_nil ?_
                        try simp only [Ex.thnH, Ex.inBlockH, ↓reduceIte, Nat.reduceEqDiff]
                        refine hK22 _ _ ?_; try clear hK22 K22
                        refine CW_cond (fun r => rfl) (fun c49 => ?_) (fun c49 => ?_)
                        · first
                          | (exfalso; exact cnA c49; done)
                          | skip
                            (try simp only [decide_eq_true_eq, decide_eq_false_iff_not, Bool.not_eq_true, Bool.not_eq_false, Bool.and_eq_true, Bool.or_eq_true, Bool.or_eq_false_iff, Bool.not_eq_true, Bool.not_eq_eq_eq_not, Bool.not_true, Bool.not_false] at c49)
                            refine CW_seq (fun K23 hK23 => ?_)
                            refine CW_region ?_
                            refine OW_mv rfl ?_
                            refine OW_opS (fun K hK r => ?_)
                            simp only [x_callF _ bd24, List.map_toArray, List.map_cons, List.map_nil, eX, ↓reduceIte, Nat.reduceEqDiff, Int.reduceToNat]
                            refine (manyL hBo.st).mono ?_
                            rintro v H' ⟨rfl, rfl⟩
                            try simp only [eX, ↓reduceIte, Nat.reduceEqDiff, Int.reduceToNat]
                            refine hK _ _ ?_; clear hK K
                            refine OW_mv rfl ?_
                            refine OW_opS (fun K hK r => ?_)
                            simp only [x_builtin, l_len, List.map_toArray, List.map_cons, List.map_nil, i_len_slice _ _ Try.underlying56, eX, ↓reduceIte, Nat.reduceEqDiff, Int.reduceToNat]
                            refine hK _ _ ?_; clear hK K
                            refine OW_opS (fun K hK r => ?_)
                            simp (disch := (first | omega | decide)) only [x_bin, g_int, b_eql, dec_lt_t, dec_lt_f, dec_le_t, dec_le_f, dec_eq_t, dec_eq_f, Bool.not_true, Bool.not_false, eX, ↓reduceIte, Nat.reduceEqDiff, Int.reduceToNat]
                            refine hK _ _ ?_; clear hK K
                            refine OW_as rfl ?_
                            refine OW_nil ?_
                            try simp only [Ex.thnH, Ex.inBlockH, ↓reduceIte, Nat.reduceEqDiff]
                            refine hK23 _ _ ?_; try clear hK23 K23
                            refine CW_ret ?_
                            try simp only [Ex.thnH, Ex.inBlockH, ↓reduceIte, Nat.reduceEqDiff]
                            exact ⟨[_], ⟨rfl, trivial⟩, H, by first | assumption | exact lhA, by first | rfl | (simp [hm, newSt]; done) | (simp [hm, newSt]; rfl), Le.refl _⟩
                        · first
                          | (exfalso; exact cnA c49; done)
                          | skip
                            (try simp only [decide_eq_true_eq, decide_eq_false_iff_not, Bool.not_eq_true, Bool.not_eq_false, Bool.and_eq_true, Bool.or_eq_true, Bool.or_eq_false_iff, Bool.not_eq_true, Bool.not_eq_eq_eq_not, Bool.not_true, Bool.not_false] at c49)
                            refine CW_skip ?_
                            try simp only [Ex.thnH, Ex.inBlockH, ↓reduceIte, Nat.reduceEqDiff]
                            refine hK20 _ _ ?_; try clear hK20 K20
                            refine CW_region ?_
                            refine OW_opS (fun K hK r => ?_)
                            simp (disch := (first | omega | decide)) only [x_bin, g_int, b_add, wrap_i64, wrap_u64, wrap_u32, wrap_u8, eX, ↓reduceIte, Nat.reduceEqDiff, Int.reduceToNat]
                            refine hK _ _ ?_; clear hK K
                            refine OW_mv rfl ?_
                            refine OW_nil ?_
                            try simp only [Ex.thnH, Ex.inBlockH, ↓reduceIte, Nat.reduceEqDiff]
                            exact ⟨sz.length - (i + 1), by omega, i + 1, by omega, rfl, rfA, rfl, rfl, rfl, rfl, rfl, rfl, rfl, trivial⟩
                    · first
                      | (exfalso; exact cnA c45; done)
                      | skip
                        (try simp only [decide_eq_true_eq, decide_eq_false_iff_not, Bool.not_eq_true, Bool.not_eq_false, Bool.and_eq_true, Bool.or_eq_true, Bool.or_eq_false_iff, Bool.not_eq_true, Bool.not_eq_eq_eq_not, Bool.not_true, Bool.not_false] at c45)
                        refine CW_exit ?_
                        try simp only [Ex.thnH, Ex.inBlockH, ↓reduceIte, Nat.reduceEqDiff]
                        refine hK16 _ _ ?_; try clear hK16 K16
                        refine CW_seq (fun K24 hK24 => ?_)
                        refine CW_seq (fun K25 hK25 => ?_)
                        refine CW_region ?_
                        refine OW_mv rfl ?_
                        refine OW_opS (fun K hK r => ?_)
                        simp only [x_builtin, l_len, List.map_toArray, List.map_cons, List.map_nil, i_len_slice _ _ Try.underlying22, eX, ↓reduceIte, Nat.reduceEqDiff, Int.reduceToNat]
                        refine hK _ _ ?_; clear hK K
                        refine OW_mv rfl ?_
                        refine OW_nil ?_
                        try simp only [Ex.thnH, Ex.inBlockH, ↓reduceIte, Nat.reduceEqDiff]
                        refine hK25 _ _ ?_; try clear hK25 K25
                        refine CW_block ?_
                        refine CW_loop (fun m_ e H_ => ∃ (k : Nat) (Q F : Hp) (s : St) (ma : Option Addr) (mc : Nat) (X : List RDX) (m : RSt), k ≤ l.length ∧ m_ = l.length - k ∧ Both H Q H_ F p s ma mc X m k b7 ∧ Env.has [(5, .pointer (some ⟨p, 0, none⟩)), (7, .pointer (some ⟨b7, 0, none⟩)), (56, .slice a2 l.length cap2), (57, .int .i64 l.length), (58, .int .i64 k)] e) (l.length) ?_ ?_
                        · skip
                          exact ⟨0, _, _, _, _, _, _, _, by omega, by omega, hBo, rfl, rfl, rfl, rfl, rfl, trivial⟩
                        intro m_ e_ H_ hI_
                        obtain ⟨k, Q, F, s, ma, mc, X, m, hk, rfl, hB, he⟩ := hI_
                        refine CW_env he.sub ?_; clear he e_
                        have kb7 := hB.box
                        have hHH : Le H H_ := Le.trans hB.old hB.st.old
                        refine CW_seq (fun K26 hK26 => ?_)
                        refine CW_region ?_
                        refine OW_opS (fun K hK r => ?_)
                        simp (disch := (first | omega | decide)) only [x_bin, g_int, b_lss, dec_lt_t, dec_lt_f, dec_le_t, dec_le_f, dec_eq_t, dec_eq_f, Bool.not_true, Bool.not_false, eX, ↓reduceIte, Nat.reduceEqDiff, Int.reduceToNat]
                        refine hK _ _ ?_; clear hK K
                        refine OW_nil ?_
                        try simp only [Ex.thnH, Ex.inBlockH, ↓reduceIte, Nat.reduceEqDiff]
                        refine hK26 _ _ ?_; try clear hK26 K26
                        refine CW_seq (fun K27 hK27 => ?_)
                        refine CW_cond (fun r => rfl) (fun c59 => ?_) (fun c59 => ?_)
                        · first
                          | (exfalso; exact cnA c59; done)
                          | skip
                            (try simp only [decide_eq_true_eq, decide_eq_false_iff_not, Bool.not_eq_true, Bool.not_eq_false, Bool.and_eq_true, Bool.or_eq_true, Bool.or_eq_false_iff, Bool.not_eq_true, Bool.not_eq_eq_eq_not, Bool.not_true, Bool.not_false] at c59)
                            obtain ⟨bw, ow, cw, Tw, Fw, ew, hbw, hsw, atw⟩ := (hv.le (Le.trans hB.old hB.st.old)).at (by omega)
                            have hok := ho (l.getD k default) (by rw [List.getD_eq_getElem?_getD, List.getElem?_eq_getElem (by omega)]; exact List.getElem_mem _)
                            refine CW_skip ?_
                            try simp only [Ex.thnH, Ex.inBlockH, ↓reduceIte, Nat.reduceEqDiff]
                            refine hK27 _ _ ?_; try clear hK27 K27
                            refine CW_seq (fun K28 hK28 => ?_)
                            refine CW_block ?_
                            refine CW_seq (fun K29 hK29 => ?_)
                            refine CW_region ?_
                            refine OW_opS (fun K hK r => ?_)
                            simp only [x_indexAddr, eX, ↓reduceIte, Nat.reduceEqDiff, Int.reduceToNat]
                            refine Lt_indexSof Try.underlying22 sz35 ew ixA ixA ?_
                            try simp only [Int.toNat_natCast]
                            refine hK _ _ ?_; clear hK K
                            refine OW_opS (fun K hK r => ?_)
                            simp only [x_load, eX, ↓reduceIte, Nat.reduceEqDiff, Int.reduceToNat]
                            refine Lt_loadAtA Try.underlying35 rfl sz35 hbw (by omega) ?_
                            rw [ext_at Op1.len atw rfl k (by omega) hsw]
                            refine hK _ _ ?_; clear hK K
                            refine OW_opS (fun K hK r => ?_)
                            simp only [x_alloc, zr35, orF_some, Value.cells, eX, ↓reduceIte, Nat.reduceEqDiff, Int.reduceToNat]
                            intro b12 hb12
                            try have n12_b7 : b7 ≠ b12 := ne_of_none hbA hb12
                            have f12_H : H b12 = none := none_of_le lhA hb12
                            try simp only [eX, ↓reduceIte, Nat.reduceEqDiff, Int.reduceToNat]
                            refine hK _ _ ?_; clear hK K
                            refine OW_op rfl (lt_none) (fun K hK r => ?_)
                            simp only [x_store, eX, ↓reduceIte, Nat.reduceEqDiff, Int.reduceToNat]
                            refine Lt_storeAll sz35 (by simp) hbA (by simp) (Op1.plain _) (by decide) ?_
                            refine hK _ _ ?_; clear hK K
                            refine OW_nil ?_
                            try simp only [Ex.thnH, Ex.inBlockH, ↓reduceIte, Nat.reduceEqDiff]
                            refine hK29 _ _ ?_; try clear hK29 K29
                            refine CW_seq (fun K30 hK30 => ?_)
                            refine CW_region ?_
                            refine OW_mv rfl ?_
                            refine OW_opS (fun K hK r => ?_)
                            simp only [x_load, eX, ↓reduceIte, Nat.reduceEqDiff, Int.reduceToNat]
                            first | refine Lt_loadAll Try.underlying59 rfl sz59 hbA bdA ?_ | refine Lt_loadAtA Try.underlying59 rfl sz59 hbA bdA ?_
                            try simp only [List.extract_toArray, List.extract_eq_take_drop, Nat.zero_add, Nat.reduceAdd, Nat.reduceSub, Nat.sub_zero, List.drop_succ_cons, List.drop_zero, List.take_succ_cons, List.take_zero, List.take_nil, List.drop_nil]
                            try simp only [eX, ↓reduceIte, Nat.reduceEqDiff, Int.reduceToNat]
                            refine hK _ _ ?_; clear hK K
                            refine OW_opS (fun K hK r => ?_)
                            simp only [x_load, eX, ↓reduceIte, Nat.reduceEqDiff, Int.reduceToNat]
                            first | refine Lt_loadAll Try.underlying35 rfl sz35 hbA bdA ?_ | refine Lt_loadAtA Try.underlying35 rfl sz35 hbA bdA ?_
                            try simp only [List.extract_toArray, List.extract_eq_take_drop, Nat.zero_add, Nat.reduceAdd, Nat.reduceSub, Nat.sub_zero, List.drop_succ_cons, List.drop_zero, List.take_succ_cons, List.take_zero, List.take_nil, List.drop_nil]
                            try simp only [eX, ↓reduceIte, Nat.reduceEqDiff, Int.reduceToNat]
                            refine hK _ _ ?_; clear hK K
                            refine OW_opS (fun K hK r => ?_)
                            simp only [x_callF _ bd25, List.map_toArray, List.map_cons, List.map_nil, eX, ↓reduceIte, Nat.reduceEqDiff, Int.reduceToNat]
                            refine (doL (hB.more (le_upd _ _ _ hb12)) (by omega) (l.getD k default) hok (hsh2 k (by omega))).mono ?_
                            rintro v66 H66 ⟨Q', F', a2', cap2', X', rfl, hQ', hS', hX', hd', hP', hq', hf', hk'⟩
                            have hH66 : Le H H66 := Le.trans hQ' hS'.old
                            try simp only [eX, ↓reduceIte, Nat.reduceEqDiff, Int.reduceToNat]
                            refine hK _ _ ?_; clear hK K
                            refine OW_mv rfl ?_
                            refine OW_opS (fun K hK r => ?_)
                            simp only [x_extract, i_extract, List.getElem?_toArray, List.getElem?_cons_zero, List.getElem?_cons_succ, orF_some, eX, ↓reduceIte, Nat.reduceEqDiff, Int.reduceToNat]
                            refine hK _ _ ?_; clear hK K
                            refine OW_opS (fun K hK r => ?_)
                            simp only [x_extract, i_extract, List.getElem?_toArray, List.getElem?_cons_zero, List.getElem?_cons_succ, orF_some, eX, ↓reduceIte, Nat.reduceEqDiff, Int.reduceToNat]
                            refine hK _ _ ?_; clear hK K
                            refine OW_opS (fun K hK r => ?_)
                            simp only [x_alloc, zr59, orF_some, Value.cells, eX, ↓reduceIte, Nat.reduceEqDiff, Int.reduceToNat]
                            intro b13 hb13
                            try have n13_b7 : b7 ≠ b13 := ne_of_none hbA hb13
                            try have n13_b12 : b12 ≠ b13 := ne_of_none hbA hb13
                            have f13_H : H b13 = none := none_of_le lhA hb13
                            have g13 := hf'
                            try simp only [eX, ↓reduceIte, Nat.reduceEqDiff, Int.reduceToNat]
                            refine hK _ _ ?_; clear hK K
                            refine OW_op rfl (lt_none) (fun K hK r => ?_)
                            simp only [x_store, eX, ↓reduceIte, Nat.reduceEqDiff, Int.reduceToNat]
                            first | refine Lt_storeAll sz59 bdA hbA bdA plA (by decide) ?_ | refine Lt_storeAtA sz59 bdA hbA bdA plA (by decide) ?_
                            try simp only [eX, ↓reduceIte, Nat.reduceEqDiff, Int.reduceToNat]
                            refine hK _ _ ?_; clear hK K
                            refine OW_as rfl ?_
                            refine OW_nil ?_
                            try simp only [Ex.thnH, Ex.inBlockH, ↓reduceIte, Nat.reduceEqDiff]
                            refine hK30 _ _ ?_; try clear hK30 K30
                            refine CW_seq (fun K31 hK31 => ?_)
                            refine CW_region ?_
                            refine OW_opS (fun K hK r => ?_)
                            simp only [x_load, eX, ↓reduceIte, Nat.reduceEqDiff, Int.reduceToNat]
                            first | refine Lt_loadAll Try.underlying59 rfl sz59 hbA bdA ?_ | refine Lt_loadAtA Try.underlying59 rfl sz59 hbA bdA ?_
                            try simp only [List.extract_toArray, List.extract_eq_take_drop, Nat.zero_add, Nat.reduceAdd, Nat.reduceSub, Nat.sub_zero, List.drop_succ_cons, List.drop_zero, List.take_succ_cons, List.take_zero, List.take_nil, List.drop_nil]
                            try simp only [eX, ↓reduceIte, Nat.reduceEqDiff, Int.reduceToNat]
                            refine hK _ _ ?_; clear hK K
                            refine OW_op rfl (lt_none) (fun K hK r => ?_)
                            simp only [x_store, eX, ↓reduceIte, Nat.reduceEqDiff, Int.reduceToNat]
                            first | refine Lt_storeAll sz59 bdA hbA bdA plA (by decide) ?_ | refine Lt_storeAtA sz59 bdA hbA bdA plA (by decide) ?_
                            try simp only [eX, ↓reduceIte, Nat.reduceEqDiff, Int.reduceToNat]
                            refine hK _ _ ?_; clear hK K
                            refine OW_nil ?_
                            try simp only [Ex.thnH, Ex.inBlockH, ↓reduceIte, Nat.reduceEqDiff]
                            refine hK31 _ _ ?_; try clear hK31 K31
                            refine CW_seq (fun K32 hK32 => ?_)
                            refine CW_region ?_
                            refine OW_mv rfl ?_
                            refine OW_opS (fun K hK r => ?_)
                            simp only [x_un, u_not, eX, ↓reduceIte, Nat.reduceEqDiff, Int.reduceToNat]
                            refine hK _ _ ?_; clear hK K
                            refine OW_mv rfl ?_
                            (first | refine OW_split (d := 72) rfl (fun g72 => ?_) (fun g72 => ?_) | skip)
                            all_goals try (exfalso; exact cnA g72)
                            all_goals (try simp only [decide_eq_true_eq, decide_eq_false_iff_not, Bool.not_eq_true, Bool.not_eq_false, Bool.and_eq_true, Bool.or_eq_true, Bool.or_eq_false_iff, Bool.not_eq_true, Bool.not_eq_eq_eq_not, Bool.not_true, Bool.not_false] at g72)
                            all_goals
                              try simp only [eX, ↓reduceIte, Nat.reduceEqDiff, Int.reduceToNat]
                              first
                              | refine OW_guardT rfl (lt_some (by decide)) rfl (fun K hK r => ?_)
                                simp only [x_move, eX, ↓reduceIte, Nat.reduceEqDiff, Int.reduceToNat]
                                refine hK _ _ ?_; clear hK K
                              | refine OW_guardF rfl (lt_some (by decide)) rfl ?_
                                simp only [eX, ↓reduceIte, Nat.reduceEqDiff, Int.reduceToNat]
                              first
                              | refine OW_guardT rfl (lt_some (by decide)) rfl (fun K hK r => ?_)
                                simp only [x_load, eX, ↓reduceIte, Nat.reduceEqDiff, Int.reduceToNat]
                                first | refine Lt_loadAll Try.underlying59 rfl sz59 hbA bdA ?_ | refine Lt_loadAtA Try.underlying59 rfl sz59 hbA bdA ?_
                                try simp only [List.extract_toArray, List.extract_eq_take_drop, Nat.zero_add, Nat.reduceAdd, Nat.reduceSub, Nat.sub_zero, List.drop_succ_cons, List.drop_zero, List.take_succ_cons, List.take_zero, List.take_nil, List.drop_nil]
                                try simp only [eX, ↓reduceIte, Nat.reduceEqDiff, Int.reduceToNat]
                                refine hK _ _ ?_; clear hK K
                              | refine OW_guardF rfl (lt_some (by decide)) rfl ?_
                                simp only [eX, ↓reduceIte, Nat.reduceEqDiff, Int.reduceToNat]
                              first
                              | refine OW_guardT rfl (lt_some (by decide)) rfl (fun K hK r => ?_)
                                simp only [x_callF _ bd26, List.map_toArray, List.map_cons, List.map_nil, eX, ↓reduceIte, Nat.reduceEqDiff, Int.reduceToNat]
                                have hB2 := Both.of (K := H66.upd b13 (.cells ((m.act (l.getD k default)).c (.slice a2' X'.length cap2')).toArray 59)) hQ' (hS'.more (le_upd _ _ _ hb13)) hX' hd' hP' hq' hf'
                                refine (standsL hB2 (by omega)).mono ?_
                                rintro v H' ⟨rfl, rfl⟩
                                try simp only [eX, ↓reduceIte, Nat.reduceEqDiff, Int.reduceToNat]
                                refine hK _ _ ?_; clear hK K
                              | refine OW_guardF rfl (lt_some (by decide)) rfl ?_
                                simp only [eX, ↓reduceIte, Nat.reduceEqDiff, Int.reduceToNat]
                              first
                              | refine OW_guardT rfl (lt_some (by decide)) rfl (fun K hK r => ?_)
                                simp only [x_un, u_not, eX, ↓reduceIte, Nat.reduceEqDiff, Int.reduceToNat]
                                refine hK _ _ ?_; clear hK K
                              | refine OW_guardF rfl (lt_some (by decide)) rfl ?_
                                simp only [eX, ↓reduceIte, Nat.reduceEqDiff, Int.reduceToNat]
                              refine OW_opS (fun K hK r => ?_)
                              simp only [x_pick, l_asBool, HL.ite_bool, if_true, if_false, Bool.false_eq_true, eX, ↓reduceIte, Nat.reduceEqDiff, Int.reduceToNat]
                              refine hK _ _ ?_; clear hK K
                              refine OW_nil ?_
                              try simp only [Ex.thnH, Ex.inBlockH, ↓reduceIte, Nat.reduceEqDiff]
                              refine hK32 _ _ ?_; try clear hK32 K32
                              refine CW_cond (fun r => rfl) (fun c77 => ?_) (fun c77 => ?_)
                              · first
                                | (exfalso; exact cnA c77; done)
                                | skip
                                  skip
                                  refine CW_seq (fun K33 hK33 => ?_)
                                  refine CW_region ?_
                                  refine OW_as rfl ?_
                                  refine OW_nil ?_
                                  try simp only [Ex.thnH, Ex.inBlockH, ↓reduceIte, Nat.reduceEqDiff]
                                  refine hK33 _ _ ?_; try clear hK33 K33
                                  refine CW_ret ?_
                                  try simp only [Ex.thnH, Ex.inBlockH, ↓reduceIte, Nat.reduceEqDiff]
                                  skip
                              · first
                                | (exfalso; exact cnA c77; done)
                                | skip
                                  skip
                                  refine CW_skip ?_
                                  try simp only [Ex.thnH, Ex.inBlockH, ↓reduceIte, Nat.reduceEqDiff]
                                  refine hK28 _ _ ?_; try clear hK28 K28
                                  refine CW_region ?_
                                  refine OW_opS (fun K hK r => ?_)
                                  simp (disch := (first | omega | decide)) only [x_bin, g_int, b_add, wrap_i64, wrap_u64, wrap_u32, wrap_u8, eX, ↓reduceIte, Nat.reduceEqDiff, Int.reduceToNat]
                                  refine hK _ _ ?_; clear hK K
                                  refine OW_mv rfl ?_
                                  refine OW_nil ?_
                                  try simp only [Ex.thnH, Ex.inBlockH, ↓reduceIte, Nat.reduceEqDiff]
                                  exact ⟨l.length - (k + 1), by omega, k + 1, _, _, _, _, _, _, _, by omega, rfl, hB2, rfl, rfl, rfl, rfl, rfl, trivial⟩
                        · first
                          | (exfalso; exact cnA c59; done)
                          | skip
                            (try simp only [decide_eq_true_eq, decide_eq_false_iff_not, Bool.not_eq_true, Bool.not_eq_false, Bool.and_eq_true, Bool.or_eq_true, Bool.or_eq_false_iff, Bool.not_eq_true, Bool.not_eq_eq_eq_not, Bool.not_true, Bool.not_false] at c59)
                            have hkn : k = l.length := by omega
                            refine CW_exit ?_
                            try simp only [Ex.thnH, Ex.inBlockH, ↓reduceIte, Nat.reduceEqDiff]
                            refine hK24 _ _ ?_; try clear hK24 K24
                            refine CW_seq (fun K34 hK34 => ?_)
                            refine CW_region ?_
                            refine OW_mv rfl ?_
                            refine OW_opS (fun K hK r => ?_)
                            simp only [x_load, eX, ↓reduceIte, Nat.reduceEqDiff, Int.reduceToNat]
                            first | refine Lt_loadAll Try.underlying59 rfl sz59 hbA bdA ?_ | refine Lt_loadAtA Try.underlying59 rfl sz59 hbA bdA ?_
                            try simp only [List.extract_toArray, List.extract_eq_take_drop, Nat.zero_add, Nat.reduceAdd, Nat.reduceSub, Nat.sub_zero, List.drop_succ_cons, List.drop_zero, List.take_succ_cons, List.take_zero, List.take_nil, List.drop_nil]
                            try simp only [eX, ↓reduceIte, Nat.reduceEqDiff, Int.reduceToNat]
                            refine hK _ _ ?_; clear hK K
                            refine OW_opS (fun K hK r => ?_)
                            simp only [x_callF _ bd26, List.map_toArray, List.map_cons, List.map_nil, eX, ↓reduceIte, Nat.reduceEqDiff, Int.reduceToNat]
                            refine (standsL hB (by omega)).mono ?_
                            rintro v H' ⟨rfl, rfl⟩
                            try simp only [eX, ↓reduceIte, Nat.reduceEqDiff, Int.reduceToNat]
                            refine hK _ _ ?_; clear hK K
                            refine OW_as rfl ?_
                            refine OW_nil ?_
                            try simp only [Ex.thnH, Ex.inBlockH, ↓reduceIte, Nat.reduceEqDiff]
                            refine hK34 _ _ ?_; try clear hK34 K34
                            refine CW_ret ?_
                            try simp only [Ex.thnH, Ex.inBlockH, ↓reduceIte, Nat.reduceEqDiff]
                            exact ⟨[_], ⟨rfl, trivial⟩, H, by first | assumption | exact lhA, by first | rfl | (simp; done) | (simp; rfl), Le.refl _⟩

end Go.Proofs.Ytkmjncmdhinlgaa.HL
end
