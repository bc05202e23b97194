/- A part of the proof. -/
import Derived.Test.YtlkopcgoaldpeaaQ44
namespace Go.Proofs.Ytlkopcgoaldpeaa.HL
open Go Go.Proofs
set_option linter.unusedSimpArgs false
set_option linter.unusedVariables false
attribute [local irreducible] Lt Lq CW OW TW CallH


theorem upd_id {H : Hp} {b : Nat} {o : Obj} (h : H b = some o) : H.upd b o = H := by
  funext x; by_cases e : x = b
  · subst e; rw [upd_same, h]
  · rw [upd_ne _ _ e]
def SameB (a a' : Option Addr) : Prop := ∀ A, a' = some A → ∃ A0, a = some A0 ∧ A0.block = A.block
theorem SameB.refl (a : Option Addr) : SameB a a := fun A h => ⟨A, h, rfl⟩
theorem SameB.none (a : Option Addr) : SameB a none := fun A h => by cases h
theorem SameB.trans {a b c : Option Addr} (h : SameB a b) (k : SameB b c) : SameB a c := fun A e => by
  obtain ⟨B, h1, h2⟩ := k A e
  obtain ⟨C, h3, h4⟩ := h B h1
  exact ⟨C, h3, h4.trans h2⟩
theorem take_all (H : Hp) (p : Nat) (a : Option Addr) (cap : Nat) (l : List Int) (hr : RD H p a cap l false) (n : Nat) (hl : l.length ≤ 10000000) : CallH Try.prog 60 #[.pointer (some ⟨p, 0, none⟩), .int .u64 n] H (fun v H' => ∃ w ok, v = .tuple #[w, .bool ok] ∧ (ok = false → l.length < n ∧ w = .slice none 0 0 ∧ H' = rst H p none 0 0 true) ∧ (ok = true → n ≤ l.length ∧ ∃ a0 a1, w = .slice a0 n n ∧ H' = rst H p a1 (l.length - n) (cap - n) false ∧ RD H' p a1 (cap - n) (l.drop n) false ∧ Holds H' 1 (.slice a0 n n) n (u8s (l.take n)) ∧ (∀ B o, a = some ⟨B, o, none⟩ → a0 = some ⟨B, o, none⟩ ∧ (n < l.length → a1 = some ⟨B, o + n, none⟩)) ∧ SameB a a1)) := by
  by_cases hn : n ≤ l.length
  · refine (take_ok H p a cap l hr n hn hl).mono ?_
    rintro v H' ⟨a0, a1, rfl, h⟩
    exact ⟨_, true, rfl, (fun h => by cases h), fun _ => ⟨hn, a0, a1, rfl, h⟩⟩
  · refine (take_few H p a cap l hr n (by omega) hl).mono ?_
    rintro v H' ⟨rfl, rfl⟩
    exact ⟨_, false, rfl, (fun _ => ⟨by omega, rfl, rfl⟩), (fun h => by cases h)⟩

set_option maxRecDepth 100000 in
set_option maxHeartbeats 4000000 in
theorem rCount_ok (H : Hp) (p : Nat) (a : Option Addr) (cap : Nat) (l : List Int) (hr : RD H p a cap l false) (hB : ByteL l) (hl : l.length ≤ 10000000) : CallH Try.prog 53 #[.pointer (some ⟨p, 0, none⟩)] H (fun v H' => ∃ res, RC l res ∧ v = .int .u64 (rcN res) ∧ ∃ a' cap', RD H' p a' cap' (rcL res) res.isNone ∧ (∃ o, H' = H.upd p o) ∧ SameB a a') := by
  refine CallH_enter (l := [_]) (rl := [.tmp 2]) (n := 49) Try.func53 rfl rfl rfl rfl rfl ?_
  simp only [envOf, Nat.reduceAdd]
  refine CW_seq (fun K1 hK1 => ?_)
  refine CW_region ?_
  refine OW_as rfl ?_
  refine OW_nil ?_
  try simp only [Ex.thnH, Ex.inBlockH, ↓reduceIte, Nat.reduceEqDiff]
  refine hK1 _ _ ?_; try clear hK1 K1
  refine CW_seq (fun K2 hK2 => ?_)
  refine CW_region ?_
  refine OW_as rfl ?_
  refine OW_nil ?_
  try simp only [Ex.thnH, Ex.inBlockH, ↓reduceIte, Nat.reduceEqDiff]
  refine hK2 _ _ ?_; try clear hK2 K2
  refine CW_seq (fun K3 hK3 => ?_)
  refine CW_seq (fun K4 hK4 => ?_)
  refine CW_region ?_
  refine OW_mv rfl ?_
  refine OW_nil ?_
  try simp only [Ex.thnH, Ex.inBlockH, ↓reduceIte, Nat.reduceEqDiff]
  refine hK4 _ _ ?_; try clear hK4 K4
  refine CW_block ?_
  refine CW_loop (fun m e H_ => ∃ (s rest : List Int) (a1 : Option Addr) (cap1 : Nat), m = 10 - s.length ∧ l = s ++ rest ∧ Big1 s ∧ s.length ≤ 9 ∧ RD H_ p a1 cap1 rest false ∧ (∃ o, H_ = H.upd p o) ∧ SameB a a1 ∧ Env.has [(0, .pointer (some ⟨p, 0, none⟩)), (3, .int .u64 (valL s)), (8, .int .i64 s.length)] e) (10) ?_ ?_
  · skip
    exact ⟨[], l, a, cap, rfl, rfl, Big1.nil, by simp, hr, ⟨_, (upd_id hr.1).symm⟩, SameB.refl _, rfl, rfl, rfl, trivial⟩
  intro m_ e_ H_ hI_
  obtain ⟨s, rest, a1, cap1, rfl, rfl, hs, hs9, hr1, ⟨o1, rfl⟩, hsb, he⟩ := hI_
  refine CW_env he.sub ?_; clear he e_
  have hlr : rest.length ≤ 10000000 := by simp at hl; omega
  refine CW_seq (fun K5 hK5 => ?_)
  refine CW_region ?_
  refine OW_opS (fun K hK r => ?_)
  simp (disch := (first | omega | decide)) only [x_bin, g_int, b_lss, dec_lt_t, dec_lt_f, dec_le_t, dec_le_f, dec_eq_t, dec_eq_f, Bool.not_true, Bool.not_false, eX, ↓reduceIte, Nat.reduceEqDiff, Int.reduceToNat]
  refine hK _ _ ?_; clear hK K
  refine OW_nil ?_
  try simp only [Ex.thnH, Ex.inBlockH, ↓reduceIte, Nat.reduceEqDiff]
  refine hK5 _ _ ?_; try clear hK5 K5
  refine CW_seq (fun K6 hK6 => ?_)
  refine CW_cond (fun r => rfl) (fun c9 => ?_) (fun c9 => ?_)
  · first
    | (exfalso; exact cnA c9; done)
    | skip
      (try simp only [decide_eq_true_eq, decide_eq_false_iff_not, Bool.not_eq_true, Bool.not_eq_false, Bool.and_eq_true, Bool.or_eq_true, Bool.or_eq_false_iff, Bool.not_eq_true, Bool.not_eq_eq_eq_not, Bool.not_true, Bool.not_false] at c9)
      refine CW_skip ?_
      try simp only [Ex.thnH, Ex.inBlockH, ↓reduceIte, Nat.reduceEqDiff]
      refine hK6 _ _ ?_; try clear hK6 K6
      refine CW_seq (fun K7 hK7 => ?_)
      refine CW_block ?_
      refine CW_seq (fun K8 hK8 => ?_)
      refine CW_region ?_
      refine OW_mv rfl ?_
      refine OW_as rfl ?_
      refine OW_nil ?_
      try simp only [Ex.thnH, Ex.inBlockH, ↓reduceIte, Nat.reduceEqDiff]
      refine hK8 _ _ ?_; try clear hK8 K8
      refine CW_seq (fun K9 hK9 => ?_)
      refine CW_region ?_
      refine OW_mv rfl ?_
      refine OW_opS (fun K hK r => ?_)
      simp only [x_callF _ bd60, List.map_toArray, List.map_cons, List.map_nil, eX, ↓reduceIte, Nat.reduceEqDiff, Int.reduceToNat]
      refine (take_all _ p a1 cap1 rest hr1 1 hlr).mono ?_
      rintro v13 H13 ⟨w13, ok, rfl, hno, hyes⟩
      try simp only [eX, ↓reduceIte, Nat.reduceEqDiff, Int.reduceToNat]
      refine hK _ _ ?_; clear hK K
      refine OW_mv rfl ?_
      refine OW_opS (fun K hK r => ?_)
      simp only [x_extract, i_extract, List.getElem?_toArray, List.getElem?_cons_zero, List.getElem?_cons_succ, orF_some, eX, ↓reduceIte, Nat.reduceEqDiff, Int.reduceToNat]
      refine hK _ _ ?_; clear hK K
      refine OW_opS (fun K hK r => ?_)
      simp only [x_extract, i_extract, List.getElem?_toArray, List.getElem?_cons_zero, List.getElem?_cons_succ, orF_some, eX, ↓reduceIte, Nat.reduceEqDiff, Int.reduceToNat]
      refine hK _ _ ?_; clear hK K
      refine OW_as rfl ?_
      refine OW_as rfl ?_
      refine OW_nil ?_
      try simp only [Ex.thnH, Ex.inBlockH, ↓reduceIte, Nat.reduceEqDiff]
      refine hK9 _ _ ?_; try clear hK9 K9
      refine CW_seq (fun K10 hK10 => ?_)
      refine CW_seq (fun K11 hK11 => ?_)
      refine CW_region ?_
      refine OW_mv rfl ?_
      refine OW_opS (fun K hK r => ?_)
      simp only [x_un, u_not, eX, ↓reduceIte, Nat.reduceEqDiff, Int.reduceToNat]
      refine hK _ _ ?_; clear hK K
      refine OW_nil ?_
      try simp only [Ex.thnH, Ex.inBlockH, ↓reduceIte, Nat.reduceEqDiff]
      refine hK11 _ _ ?_; try clear hK11 K11
      refine CW_cond (fun r => rfl) (fun c17 => ?_) (fun c17 => ?_)
      · first
        | (exfalso; exact cnA c17; done)
        | skip
          (try simp only [decide_eq_true_eq, decide_eq_false_iff_not, Bool.not_eq_true, Bool.not_eq_false, Bool.and_eq_true, Bool.or_eq_true, Bool.or_eq_false_iff, Bool.not_eq_true, Bool.not_eq_eq_eq_not, Bool.not_true, Bool.not_false] at c17)
          obtain ⟨hfew, rfl, hH13⟩ := hno (by first | assumption | simp_all)
          subst hH13
          have hre : rest = [] := List.eq_nil_of_length_eq_zero (by omega)
          subst hre
          refine CW_seq (fun K12 hK12 => ?_)
          refine CW_region ?_
          refine OW_as rfl ?_
          refine OW_nil ?_
          try simp only [Ex.thnH, Ex.inBlockH, ↓reduceIte, Nat.reduceEqDiff]
          refine hK12 _ _ ?_; try clear hK12 K12
          refine CW_ret ?_
          try simp only [Ex.thnH, Ex.inBlockH, ↓reduceIte, Nat.reduceEqDiff]
          exact ⟨[_], ⟨rfl, trivial⟩, _, Le.refl _, none, by rw [List.append_nil]; exact RC_end hs, rfl, none, 0, RD.bad _ _, ⟨_, (by first | rfl | exact upd_upd _ _ _ _)⟩, SameB.none _⟩
      · first
        | (exfalso; exact cnA c17; done)
        | skip
          (try simp only [decide_eq_true_eq, decide_eq_false_iff_not, Bool.not_eq_true, Bool.not_eq_false, Bool.and_eq_true, Bool.or_eq_true, Bool.or_eq_false_iff, Bool.not_eq_true, Bool.not_eq_eq_eq_not, Bool.not_true, Bool.not_false] at c17)
          obtain ⟨hge, a0, a13, rfl, hH13, hr13, hx13, hpos, hsb13⟩ := hyes (by first | assumption | simp_all)
          obtain ⟨c, t, rfl⟩ : ∃ c t, rest = c :: t := by
            cases rest with
            | nil => simp at hge
            | cons c t => exact ⟨c, t, rfl⟩
          simp only [List.drop_succ_cons, List.drop_zero, List.take_succ_cons, List.take_zero] at hr13 hx13
          have hcB : 0 ≤ c ∧ c ≤ 255 := by have := hB c (by simp); omega
          have hc255 := hcB.2
          obtain ⟨bI, oI, qI, TI, FI, rfl, hbI, hsI, atI⟩ := hx13.at (by omega)
          refine CW_skip ?_
          try simp only [Ex.thnH, Ex.inBlockH, ↓reduceIte, Nat.reduceEqDiff]
          refine hK10 _ _ ?_; try clear hK10 K10
          refine CW_seq (fun K13 hK13 => ?_)
          refine CW_region ?_
          refine OW_mv rfl ?_
          refine OW_opS (fun K hK r => ?_)
          simp only [x_indexAddr, eX, ↓reduceIte, Nat.reduceEqDiff, Int.reduceToNat]
          refine Lt_indexS Try.underlying33 sz5 ixA ixA ?_
          try simp only [add_mk, Nat.mul_one, Nat.zero_add, Int.reduceToNat]
          try simp only [eX, ↓reduceIte, Nat.reduceEqDiff, Int.reduceToNat]
          refine hK _ _ ?_; clear hK K
          refine OW_opS (fun K hK r => ?_)
          simp only [x_load, eX, ↓reduceIte, Nat.reduceEqDiff, Int.reduceToNat]
          refine Lt_loadAt1 Try.underlying5 rfl hbI (v := .int .u8 c) (by have := atI 0 (by simp); simpa using this) ?_
          refine hK _ _ ?_; clear hK K
          refine OW_as rfl ?_
          refine OW_nil ?_
          try simp only [Ex.thnH, Ex.inBlockH, ↓reduceIte, Nat.reduceEqDiff]
          refine hK13 _ _ ?_; try clear hK13 K13
          refine CW_seq (fun K14 hK14 => ?_)
          refine CW_seq (fun K15 hK15 => ?_)
          refine CW_region ?_
          refine OW_mv rfl ?_
          refine OW_opS (fun K hK r => ?_)
          simp (disch := (first | omega | decide)) only [x_bin, g_int, b_eql, dec_lt_t, dec_lt_f, dec_le_t, dec_le_f, dec_eq_t, dec_eq_f, Bool.not_true, Bool.not_false, eX, ↓reduceIte, Nat.reduceEqDiff, Int.reduceToNat]
          refine hK _ _ ?_; clear hK K
          refine OW_mv rfl ?_
          (first | refine OW_split (d := 23) rfl (fun g23 => ?_) (fun g23 => ?_) | skip)
          all_goals try (exfalso; exact cnA g23)
          all_goals (try simp only [decide_eq_true_eq, decide_eq_false_iff_not, Bool.not_eq_true, Bool.not_eq_false, Bool.and_eq_true, Bool.or_eq_true, Bool.or_eq_false_iff, Bool.not_eq_true, Bool.not_eq_eq_eq_not, Bool.not_true, Bool.not_false] at g23)
          all_goals
            try simp only [eX, ↓reduceIte, Nat.reduceEqDiff, Int.reduceToNat]
            first
            | refine OW_guardT rfl (lt_some (by decide)) rfl (fun K hK r => ?_)
              simp only [x_move, eX, ↓reduceIte, Nat.reduceEqDiff, Int.reduceToNat]
              refine hK _ _ ?_; clear hK K
            | refine OW_guardF rfl (lt_some (by decide)) rfl ?_
              simp only [eX, ↓reduceIte, Nat.reduceEqDiff, Int.reduceToNat]
            first
            | refine OW_guardT rfl (lt_some (by decide)) rfl (fun K hK r => ?_)
              simp (disch := (first | omega | decide)) only [x_bin, g_int, b_gtr, dec_lt_t, dec_lt_f, dec_le_t, dec_le_f, dec_eq_t, dec_eq_f, Bool.not_true, Bool.not_false, eX, ↓reduceIte, Nat.reduceEqDiff, Int.reduceToNat]
              refine hK _ _ ?_; clear hK K
            | refine OW_guardF rfl (lt_some (by decide)) rfl ?_
              simp only [eX, ↓reduceIte, Nat.reduceEqDiff, Int.reduceToNat]
            refine OW_opS (fun K hK r => ?_)
            simp only [x_pick, l_asBool, HL.ite_bool, if_true, if_false, Bool.false_eq_true, eX, ↓reduceIte, Nat.reduceEqDiff, Int.reduceToNat]
            refine hK _ _ ?_; clear hK K
            refine OW_mv rfl ?_
            (first | refine OW_split (d := 27) rfl (fun g27 => ?_) (fun g27 => ?_) | skip)
            all_goals try (exfalso; exact cnA g27)
            all_goals (try simp only [decide_eq_true_eq, decide_eq_false_iff_not, Bool.not_eq_true, Bool.not_eq_false, Bool.and_eq_true, Bool.or_eq_true, Bool.or_eq_false_iff, Bool.not_eq_true, Bool.not_eq_eq_eq_not, Bool.not_true, Bool.not_false] at g27)
            all_goals
              try simp only [eX, ↓reduceIte, Nat.reduceEqDiff, Int.reduceToNat]
              first
              | refine OW_guardT rfl (lt_some (by decide)) rfl (fun K hK r => ?_)
                simp only [x_move, eX, ↓reduceIte, Nat.reduceEqDiff, Int.reduceToNat]
                refine hK _ _ ?_; clear hK K
              | refine OW_guardF rfl (lt_some (by decide)) rfl ?_
                simp only [eX, ↓reduceIte, Nat.reduceEqDiff, Int.reduceToNat]
              first
              | refine OW_guardT rfl (lt_some (by decide)) rfl (fun K hK r => ?_)
                simp (disch := (first | omega | decide)) only [x_bin, g_int, b_gtr, dec_lt_t, dec_lt_f, dec_le_t, dec_le_f, dec_eq_t, dec_eq_f, Bool.not_true, Bool.not_false, eX, ↓reduceIte, Nat.reduceEqDiff, Int.reduceToNat]
                refine hK _ _ ?_; clear hK K
              | refine OW_guardF rfl (lt_some (by decide)) rfl ?_
                simp only [eX, ↓reduceIte, Nat.reduceEqDiff, Int.reduceToNat]
              first
              | refine OW_guardT rfl (lt_some (by decide)) rfl (fun K hK r => ?_)
                simp only [x_move, eX, ↓reduceIte, Nat.reduceEqDiff, Int.reduceToNat]
                refine hK _ _ ?_; clear hK K
              | refine OW_guardF rfl (lt_some (by decide)) rfl ?_
                simp only [eX, ↓reduceIte, Nat.reduceEqDiff, Int.reduceToNat]
              (first | refine OW_split (d := 30) rfl (fun g30 => ?_) (fun g30 => ?_) | skip)
              all_goals try (exfalso; exact cnA g30)
              all_goals (try simp only [decide_eq_true_eq, decide_eq_false_iff_not, Bool.not_eq_true, Bool.not_eq_false, Bool.and_eq_true, Bool.or_eq_true, Bool.or_eq_false_iff, Bool.not_eq_true, Bool.not_eq_eq_eq_not, Bool.not_true, Bool.not_false] at g30)
              all_goals
                try simp only [eX, ↓reduceIte, Nat.reduceEqDiff, Int.reduceToNat]
                first
                | refine OW_guardT rfl (lt_some (by decide)) rfl (fun K hK r => ?_)
                  simp only [x_move, eX, ↓reduceIte, Nat.reduceEqDiff, Int.reduceToNat]
                  refine hK _ _ ?_; clear hK K
                | refine OW_guardF rfl (lt_some (by decide)) rfl ?_
                  simp only [eX, ↓reduceIte, Nat.reduceEqDiff, Int.reduceToNat]
                first
                | refine OW_guardT rfl (lt_some (by decide)) rfl (fun K hK r => ?_)
                  simp (disch := (first | omega | decide)) only [x_bin, g_int, b_eql, dec_lt_t, dec_lt_f, dec_le_t, dec_le_f, dec_eq_t, dec_eq_f, Bool.not_true, Bool.not_false, eX, ↓reduceIte, Nat.reduceEqDiff, Int.reduceToNat]
                  refine hK _ _ ?_; clear hK K
                | refine OW_guardF rfl (lt_some (by decide)) rfl ?_
                  simp only [eX, ↓reduceIte, Nat.reduceEqDiff, Int.reduceToNat]
                first
                | refine OW_guardT rfl (lt_some (by decide)) rfl (fun K hK r => ?_)
                  simp only [x_pick, l_asBool, HL.ite_bool, if_true, if_false, Bool.false_eq_true, eX, ↓reduceIte, Nat.reduceEqDiff, Int.reduceToNat]
                  refine hK _ _ ?_; clear hK K
                | refine OW_guardF rfl (lt_some (by decide)) rfl ?_
                  simp only [eX, ↓reduceIte, Nat.reduceEqDiff, Int.reduceToNat]
                refine OW_opS (fun K hK r => ?_)
                simp only [x_pick, l_asBool, HL.ite_bool, if_true, if_false, Bool.false_eq_true, eX, ↓reduceIte, Nat.reduceEqDiff, Int.reduceToNat]
                refine hK _ _ ?_; clear hK K
                refine OW_nil ?_
                try simp only [Ex.thnH, Ex.inBlockH, ↓reduceIte, Nat.reduceEqDiff]
                refine hK15 _ _ ?_; try clear hK15 K15
                refine CW_cond (fun r => rfl) (fun c34 => ?_) (fun c34 => ?_)
                · first
                  | (exfalso; exact cnA c34; done)
                  | skip
                    have hnone : RC (s ++ c :: t) none := by
                      by_cases h9 : s.length = 9 ∧ 1 < c
                      · exact RC_over hs h9.1 h9.2 hc255
                      · have h0 : 0 < s.length ∧ c = 0 := by (try simp only [decide_eq_true_eq, decide_eq_false_iff_not, Bool.not_eq_true, Bool.not_eq_false, Bool.and_eq_true, Bool.or_eq_true, Bool.or_eq_false_iff, Bool.not_eq_true, Bool.not_eq_eq_eq_not, Bool.not_true, Bool.not_false] at c34); first | omega | (simp_all; done) | (simp_all; omega)
                        rw [h0.2]
                        exact RC_zero hs (fun e => by rw [e] at h0; simp at h0)
                    refine CW_exit ?_
                    try simp only [Ex.thnH, Ex.inBlockH, ↓reduceIte, Nat.reduceEqDiff]
                    refine hK3 _ _ ?_; try clear hK3 K3
                    refine CW_seq (fun K16 hK16 => ?_)
                    refine CW_region ?_
                    refine OW_mv rfl ?_
                    refine OW_opS (fun K hK r => ?_)
                    simp only [x_callF _ bd61, List.map_toArray, List.map_cons, List.map_nil, eX, ↓reduceIte, Nat.reduceEqDiff, Int.reduceToNat]
                    refine (fail_ok _ p _ _ hr13.1).mono ?_
                    rintro v48 H48 rfl
                    rw [hH13]
                    try simp only [eX, ↓reduceIte, Nat.reduceEqDiff, Int.reduceToNat]
                    refine hK _ _ ?_; clear hK K
                    refine OW_nil ?_
                    try simp only [Ex.thnH, Ex.inBlockH, ↓reduceIte, Nat.reduceEqDiff]
                    refine hK16 _ _ ?_; try clear hK16 K16
                    refine CW_seq (fun K17 hK17 => ?_)
                    refine CW_region ?_
                    refine OW_as rfl ?_
                    refine OW_nil ?_
                    try simp only [Ex.thnH, Ex.inBlockH, ↓reduceIte, Nat.reduceEqDiff]
                    refine hK17 _ _ ?_; try clear hK17 K17
                    refine CW_ret ?_
                    try simp only [Ex.thnH, Ex.inBlockH, ↓reduceIte, Nat.reduceEqDiff]
                    exact ⟨[_], ⟨rfl, trivial⟩, _, Le.refl _, none, hnone, rfl, none, 0, RD.bad _ _, ⟨_, (by first | rfl | exact upd_upd _ _ _ _)⟩, SameB.none _⟩
                · first
                  | (exfalso; exact cnA c34; done)
                  | skip
                    have hgo : (s.length = 9 → c ≤ 1) ∧ (0 < s.length → c ≠ 0) := by (try simp only [decide_eq_true_eq, decide_eq_false_iff_not, Bool.not_eq_true, Bool.not_eq_false, Bool.and_eq_true, Bool.or_eq_true, Bool.or_eq_false_iff, Bool.not_eq_true, Bool.not_eq_eq_eq_not, Bool.not_true, Bool.not_false] at c34); first | omega | (simp_all; done) | (simp_all; omega)
                    have hacc := shl_acc (p := s) hcB.1 hcB.2 hs9 hgo.1
                    refine CW_skip ?_
                    try simp only [Ex.thnH, Ex.inBlockH, ↓reduceIte, Nat.reduceEqDiff]
                    refine hK14 _ _ ?_; try clear hK14 K14
                    refine CW_seq (fun K18 hK18 => ?_)
                    refine CW_region ?_
                    refine OW_mv rfl ?_
                    refine OW_mv rfl ?_
                    refine OW_opS (fun K hK r => ?_)
                    simp only [x_bin, g_int, b_and, eX, ↓reduceIte, Nat.reduceEqDiff, Int.reduceToNat]
                    rw [and127 hcB.1 hcB.2]
                    refine hK _ _ ?_; clear hK K
                    refine OW_opS (fun K hK r => ?_)
                    simp (disch := (first | omega | decide)) only [x_convert, c_int _ _ _ _ Try.underlying5 Try.underlying60, wrap_i64, wrap_u64, wrap_u32, wrap_u8, eX, ↓reduceIte, Nat.reduceEqDiff, Int.reduceToNat]
                    refine hK _ _ ?_; clear hK K
                    refine OW_mv rfl ?_
                    refine OW_opS (fun K hK r => ?_)
                    simp (disch := (first | omega | decide)) only [x_bin, g_int, b_mul, wrap_i64, wrap_u64, wrap_u32, wrap_u8, eX, ↓reduceIte, Nat.reduceEqDiff, Int.reduceToNat]
                    refine hK _ _ ?_; clear hK K
                    refine OW_opS (fun K hK r => ?_)
                    simp (disch := (first | omega | decide)) only [x_bin, g_int, b_shl, wrap_i64, wrap_u64, wrap_u32, wrap_u8, eX, ↓reduceIte, Nat.reduceEqDiff, Int.reduceToNat]
                    refine hK _ _ ?_; clear hK K
                    refine OW_opS (fun K hK r => ?_)
                    simp only [x_bin, g_int, b_or, eX, ↓reduceIte, Nat.reduceEqDiff, Int.reduceToNat]
                    rw [hacc.1]
                    refine hK _ _ ?_; clear hK K
                    refine OW_as rfl ?_
                    refine OW_nil ?_
                    try simp only [Ex.thnH, Ex.inBlockH, ↓reduceIte, Nat.reduceEqDiff]
                    refine hK18 _ _ ?_; try clear hK18 K18
                    refine CW_seq (fun K19 hK19 => ?_)
                    refine CW_region ?_
                    refine OW_mv rfl ?_
                    refine OW_opS (fun K hK r => ?_)
                    simp (disch := (first | omega | decide)) only [x_bin, g_int, b_lss, dec_lt_t, dec_lt_f, dec_le_t, dec_le_f, dec_eq_t, dec_eq_f, Bool.not_true, Bool.not_false, eX, ↓reduceIte, Nat.reduceEqDiff, Int.reduceToNat]
                    refine hK _ _ ?_; clear hK K
                    refine OW_nil ?_
                    try simp only [Ex.thnH, Ex.inBlockH, ↓reduceIte, Nat.reduceEqDiff]
                    refine hK19 _ _ ?_; try clear hK19 K19
                    refine CW_cond (fun r => rfl) (fun c44 => ?_) (fun c44 => ?_)
                    · first
                      | (exfalso; exact cnA c44; done)
                      | skip
                        (try simp only [decide_eq_true_eq, decide_eq_false_iff_not, Bool.not_eq_true, Bool.not_eq_false, Bool.and_eq_true, Bool.or_eq_true, Bool.or_eq_false_iff, Bool.not_eq_true, Bool.not_eq_eq_eq_not, Bool.not_true, Bool.not_false] at c44)
                        refine CW_seq (fun K20 hK20 => ?_)
                        refine CW_region ?_
                        refine OW_mv rfl ?_
                        refine OW_as rfl ?_
                        refine OW_nil ?_
                        try simp only [Ex.thnH, Ex.inBlockH, ↓reduceIte, Nat.reduceEqDiff]
                        refine hK20 _ _ ?_; try clear hK20 K20
                        refine CW_ret ?_
                        try simp only [Ex.thnH, Ex.inBlockH, ↓reduceIte, Nat.reduceEqDiff]
                        have hlt : c < 128 := by first | assumption | omega
                        exact ⟨[_], ⟨rfl, trivial⟩, _, Le.refl _, some (valL (s ++ [c]), t), RC_good hs hcB.1 hlt (by
                          by_cases h0 : s = []
                          · exact .inl h0
                          · exact .inr (hgo.2 (len_pos h0))) hacc.2, rfl, _, _, hr13, ⟨_, hH13.trans (upd_upd _ _ _ _)⟩, hsb.trans hsb13⟩
                    · first
                      | (exfalso; exact cnA c44; done)
                      | skip
                        (try simp only [decide_eq_true_eq, decide_eq_false_iff_not, Bool.not_eq_true, Bool.not_eq_false, Bool.and_eq_true, Bool.or_eq_true, Bool.or_eq_false_iff, Bool.not_eq_true, Bool.not_eq_eq_eq_not, Bool.not_true, Bool.not_false] at c44)
                        refine CW_skip ?_
                        try simp only [Ex.thnH, Ex.inBlockH, ↓reduceIte, Nat.reduceEqDiff]
                        refine hK7 _ _ ?_; try clear hK7 K7
                        refine CW_region ?_
                        refine OW_opS (fun K hK r => ?_)
                        simp (disch := (first | omega | decide)) only [x_bin, g_int, b_add, wrap_i64, wrap_u64, wrap_u32, wrap_u8, eX, ↓reduceIte, Nat.reduceEqDiff, Int.reduceToNat]
                        refine hK _ _ ?_; clear hK K
                        refine OW_mv rfl ?_
                        refine OW_nil ?_
                        try simp only [Ex.thnH, Ex.inBlockH, ↓reduceIte, Nat.reduceEqDiff]
                        refine ⟨10 - (s.length + 1), by omega, s ++ [c], t, a13, _, by simp, by simp, hs.snoc (by omega) hc255, ?_, hr13, ⟨_, hH13.trans (upd_upd _ _ _ _)⟩, hsb.trans hsb13, rfl, rfl, ?_, trivial⟩
                        · simp; omega
                        · show some (Value.int _ _) = some (Value.int _ _)
                          simp
  · first
    | (exfalso; exact cnA c9; done)
    | skip
      (try simp only [decide_eq_true_eq, decide_eq_false_iff_not, Bool.not_eq_true, Bool.not_eq_false, Bool.and_eq_true, Bool.or_eq_true, Bool.or_eq_false_iff, Bool.not_eq_true, Bool.not_eq_eq_eq_not, Bool.not_true, Bool.not_false] at c9)
      exfalso; omega
      refine CW_exit ?_
      try simp only [Ex.thnH, Ex.inBlockH, ↓reduceIte, Nat.reduceEqDiff]
      refine hK3 _ _ ?_; try clear hK3 K3
      refine CW_seq (fun K21 hK21 => ?_)
      refine CW_region ?_
      refine OW_mv rfl ?_
      refine OW_opS (fun K hK r => ?_)
      simp only [x_callF _ bd61, List.map_toArray, List.map_cons, List.map_nil, eX, ↓reduceIte, Nat.reduceEqDiff, Int.reduceToNat]
      refine (fail_ok _ p _ _ hr13.1).mono ?_
      rintro v48 H48 rfl
      rw [hH13]
      try simp only [eX, ↓reduceIte, Nat.reduceEqDiff, Int.reduceToNat]
      refine hK _ _ ?_; clear hK K
      refine OW_nil ?_
      try simp only [Ex.thnH, Ex.inBlockH, ↓reduceIte, Nat.reduceEqDiff]
      refine hK21 _ _ ?_; try clear hK21 K21
      refine CW_seq (fun K22 hK22 => ?_)
      refine CW_region ?_
      refine OW_as rfl ?_
      refine OW_nil ?_
      try simp only [Ex.thnH, Ex.inBlockH, ↓reduceIte, Nat.reduceEqDiff]
      refine hK22 _ _ ?_; try clear hK22 K22
      refine CW_ret ?_
      try simp only [Ex.thnH, Ex.inBlockH, ↓reduceIte, Nat.reduceEqDiff]
      exfalso; omega

end Go.Proofs.Ytlkopcgoaldpeaa.HL
