/- Parts of the proof, one behind the other: V76, V74, V77, V78. -/
import Derived.Test.YtigofhhonnbkmaaX5
set_option linter.unusedSimpArgs false
set_option linter.unusedVariables false
section
namespace Go.Proofs.Ytigofhhonnbkmaa.HL
open Go Go.Proofs
set_option linter.unusedSimpArgs false
set_option linter.unusedVariables false
attribute [local irreducible] Lt Lq CW OW TW CallH


theorem OwnS.part {H : Hp} {E : TypeId} {w : Nat} {v : Value} {n : Nat} {cs : List Value} {rs : Option Nat} (h : OwnS H E w v n cs rs) : ∃ G, Le G H ∧ Holds G w v n cs ∧ ∀ x, G x ≠ none → rs = some x := by
  obtain ⟨h1, ⟨h2, h3, h4⟩ | ⟨r, cap, c, h2, h3, h4, h5, h6, h7⟩⟩ := h
  · exact ⟨emptyHp, le_empty _, ⟨h1, .inl ⟨none, 0, h2, h3⟩⟩, fun x hx => absurd rfl hx⟩
  · refine ⟨emptyHp.upd r (.cells c E), le_put (le_empty _) h3, OwnS.holds (E := E) (rs := rs) ⟨h1, .inr ⟨r, cap, c, h2, upd_same _ _ _, h4, h5, h6, h7⟩⟩, fun x hx => ?_⟩
    by_cases e : x = r
    · rw [e]; exact h7
    · rw [upd_ne _ _ e] at hx; exact absurd rfl hx
/-- an act on the two sectors -/
structure Op15 where
  kind : Int
  n : Int
  m : Mf
  ma : Option Addr
  mc : Nat
  x : Sec
  ka : Option Addr
  kc : Nat
  keep : List Kp
instance : Inhabited Op15 := ⟨⟨0, 0, ⟨0, 0, 0, 0, 0, []⟩, none, 0, Sec.zero, none, 0, []⟩⟩
abbrev Op15.c (o : Op15) : List Value := .int .i64 o.kind :: .int .i64 o.n :: .int .i64 o.m.gen :: .int .i64 o.m.ep :: .int .i64 o.m.ba :: .int .i64 o.m.ar :: .int .i64 o.m.ln :: .slice o.ma o.m.hd.length o.mc :: (o.x.c ++ [.slice o.ka o.keep.length o.kc])
theorem Op15.len (o : Op15) : o.c.length = 73 := by
  show (o.x.c ++ [_]).length + 8 = 73
  rw [List.length_append, Sec.len]; rfl
theorem Op15.plain (o : Op15) : PlainL o.c := PlainL.cons (plain_int _ _) (PlainL.cons (plain_int _ _) (PlainL.cons (plain_int _ _) (PlainL.cons (plain_int _ _) (PlainL.cons (plain_int _ _) (PlainL.cons (plain_int _ _) (PlainL.cons (plain_int _ _) (PlainL.cons (plain_slice _ _ _) (fun v hv => by
  rcases List.mem_append.1 hv with h | h
  · exact PlainL.ints _ _ v h
  · simp at h; subst h; exact plain_slice _ _ _))))))))
theorem Op15.keep_at (o : Op15) : o.c[72]? = some (.slice o.ka o.keep.length o.kc) := by
  show (o.x.c ++ [_])[64]? = _
  rw [List.getElem?_append_right (by rw [Sec.len]; exact Nat.le_refl _), Sec.len]; rfl
theorem Op15.keep' (o : Op15) : o.c.toArray[72]? = some (.slice o.ka o.keep.length o.kc) := by
  rw [List.getElem?_toArray]; exact o.keep_at
theorem Op15.man (o : Op15) : o.c.toArray.extract 2 (2 + 6) = #[.int .i64 o.m.gen, .int .i64 o.m.ep, .int .i64 o.m.ba, .int .i64 o.m.ar, .int .i64 o.m.ln, .slice o.ma o.m.hd.length o.mc] := by
  simp only [List.extract_toArray, List.extract_eq_take_drop]
  rfl
theorem Op15.sec (o : Op15) : o.c.toArray.extract 8 (8 + 64) = o.x.c.toArray := by
  simp only [List.extract_toArray, List.extract_eq_take_drop]
  congr 1
  show ((o.x.c ++ [_]).take 64) = _
  rw [List.take_append_of_le_length (by rw [Sec.len]; omega), List.take_of_length_le (by rw [Sec.len]; omega)]
abbrev ops15 (l : List Op15) : List Value := l.flatMap Op15.c
structure Op15.ok (H : Hp) (o : Op15) : Prop where
  hk : Holds H 3 (.slice o.ka o.keep.length o.kc) o.keep.length (kps o.keep)
  hm : Holds H 1 (.slice o.ma o.m.hd.length o.mc) o.m.hd.length (i64s o.m.hd)
  ml : o.m.hd.length ≤ 9223372036854775807
  n1 : o.n ≤ 9223372036854775807
def short15 (l : List Op15) : Prop := l.length ≤ 41 ∧ ∀ j, j < l.length → (l.getD j default).keep.length ≤ 40 ∧ (l.getD j default).m.hd.length ≤ 20
theorem op15_mem {l : List Op15} {k : Nat} (h : k < l.length) : l.getD k default ∈ l := by
  rw [List.getD_eq_getElem?_getD, List.getElem?_eq_getElem h]; exact List.getElem_mem _

set_option maxRecDepth 100000 in
set_option maxHeartbeats 4000000 in
theorem long_ok (H : Hp) (a : Option Addr) (cap : Nat) (l : List Op15) (hv : Holds H 73 (.slice a l.length cap) l.length (ops15 l)) (ho : ∀ x ∈ l, x.ok H) : CallH Try.prog 18 #[.slice a l.length cap] H (fun v H' => ∃ t, v = .bool t ∧ (t = false → short15 l) ∧ H' = H) := by
  refine CallH_enter (l := [_]) (rl := [.tmp 2]) (n := 26) Try.func18 rfl rfl rfl rfl rfl ?_
  simp only [envOf, Nat.reduceAdd]
  refine CW_seq (fun K1 hK1 => ?_)
  refine CW_region ?_
  refine OW_as rfl ?_
  refine OW_nil ?_
  try simp only [Ex.thnH, Ex.inBlockH, ↓reduceIte, Nat.reduceEqDiff]
  refine hK1 _ _ ?_; try clear hK1 K1
  refine CW_seq (fun K2 hK2 => ?_)
  refine CW_seq (fun K3 hK3 => ?_)
  refine CW_region ?_
  refine OW_mv rfl ?_
  refine OW_opS (fun K hK r => ?_)
  simp only [x_builtin, l_len, List.map_toArray, List.map_cons, List.map_nil, i_len_slice _ _ Try.underlying45, eX, ↓reduceIte, Nat.reduceEqDiff, Int.reduceToNat]
  refine hK _ _ ?_; clear hK K
  refine OW_mv rfl ?_
  refine OW_nil ?_
  try simp only [Ex.thnH, Ex.inBlockH, ↓reduceIte, Nat.reduceEqDiff]
  refine hK3 _ _ ?_; try clear hK3 K3
  refine CW_block ?_
  refine CW_loop (fun m e H_ => ∃ k : Nat, k ≤ l.length ∧ k ≤ 41 ∧ m = 41 - k ∧ (∀ j, j < k → (l.getD j default).keep.length ≤ 40 ∧ (l.getD j default).m.hd.length ≤ 20) ∧ Le H H_ ∧ Env.has [(5, .slice a l.length cap), (6, .int .i64 l.length), (7, .int .i64 k)] e) (41) ?_ ?_
  · skip
    exact ⟨0, by omega, by omega, by omega, (fun j hj => absurd hj (by omega)), Le.refl _, rfl, rfl, rfl, trivial⟩
  intro m_ e_ H_ hI_
  obtain ⟨k, hk, hk81, rfl, hno, hlH, he⟩ := hI_
  refine CW_env he.sub ?_; clear he e_
  refine CW_seq (fun K4 hK4 => ?_)
  refine CW_region ?_
  refine OW_opS (fun K hK r => ?_)
  simp (disch := (first | omega | decide)) only [x_bin, g_int, b_lss, dec_lt_t, dec_lt_f, dec_le_t, dec_le_f, dec_eq_t, dec_eq_f, Bool.not_true, Bool.not_false, eX, ↓reduceIte, Nat.reduceEqDiff, Int.reduceToNat]
  refine hK _ _ ?_; clear hK K
  refine OW_nil ?_
  try simp only [Ex.thnH, Ex.inBlockH, ↓reduceIte, Nat.reduceEqDiff]
  refine hK4 _ _ ?_; try clear hK4 K4
  refine CW_seq (fun K5 hK5 => ?_)
  refine CW_cond (fun r => rfl) (fun c8 => ?_) (fun c8 => ?_)
  · first
    | (exfalso; exact cnA c8; done)
    | skip
      (try simp only [decide_eq_true_eq, decide_eq_false_iff_not, Bool.not_eq_true, Bool.not_eq_false, Bool.and_eq_true, Bool.or_eq_true, Bool.or_eq_false_iff, Bool.not_eq_true, Bool.not_eq_eq_eq_not, Bool.not_true, Bool.not_false] at c8)
      obtain ⟨bw, ow, cw, Tw, Fw, ew, hbw, hsw, atw⟩ := (hv.le hlH).at (by omega)
      have mo := Nat.mul_le_mul_right 73 (show k + 1 ≤ l.length by omega)
      have hok := ho (l.getD k default) (op15_mem (by omega))
      refine CW_skip ?_
      try simp only [Ex.thnH, Ex.inBlockH, ↓reduceIte, Nat.reduceEqDiff]
      refine hK5 _ _ ?_; try clear hK5 K5
      refine CW_seq (fun K6 hK6 => ?_)
      refine CW_block ?_
      refine CW_seq (fun K7 hK7 => ?_)
      refine CW_region ?_
      refine OW_mv rfl ?_
      refine OW_opS (fun K hK r => ?_)
      simp only [x_indexAddr, eX, ↓reduceIte, Nat.reduceEqDiff, Int.reduceToNat]
      refine Lt_indexSof Try.underlying45 sz58 ew ixA ixA ?_
      try simp only [Int.toNat_natCast]
      refine hK _ _ ?_; clear hK K
      refine OW_opS (fun K hK r => ?_)
      simp only [x_load, eX, ↓reduceIte, Nat.reduceEqDiff, Int.reduceToNat]
      refine Lt_loadAtA Try.underlying58 rfl sz58 hbw (by omega) ?_
      rw [ext_at Op15.len atw rfl k (by omega) hsw]
      refine hK _ _ ?_; clear hK K
      refine OW_opS (fun K hK r => ?_)
      simp only [x_alloc, zr58, orF_some, Value.cells, eX, ↓reduceIte, Nat.reduceEqDiff, Int.reduceToNat]
      intro b4 hb4
      have f4_H : H b4 = none := none_of_le lhA hb4
      try simp only [eX, ↓reduceIte, Nat.reduceEqDiff, Int.reduceToNat]
      refine hK _ _ ?_; clear hK K
      refine OW_as rfl ?_
      refine OW_op rfl (lt_none) (fun K hK r => ?_)
      simp only [x_store, eX, ↓reduceIte, Nat.reduceEqDiff, Int.reduceToNat]
      refine Lt_storeAll sz58 (by rw [List.size_toArray, Op15.len]) hbA (by simp [Sec.h]) (Op15.plain _) (by decide) ?_
      try simp only [upd_upd]
      refine hK _ _ ?_; clear hK K
      refine OW_nil ?_
      try simp only [Ex.thnH, Ex.inBlockH, ↓reduceIte, Nat.reduceEqDiff]
      refine hK7 _ _ ?_; try clear hK7 K7
      refine CW_seq (fun K8 hK8 => ?_)
      refine CW_region ?_
      refine OW_mv rfl ?_
      refine OW_opS (fun K hK r => ?_)
      simp (disch := (first | omega | decide)) only [x_bin, g_int, b_gtr, dec_lt_t, dec_lt_f, dec_le_t, dec_le_f, dec_eq_t, dec_eq_f, Bool.not_true, Bool.not_false, eX, ↓reduceIte, Nat.reduceEqDiff, Int.reduceToNat]
      refine hK _ _ ?_; clear hK K
      refine OW_mv rfl ?_
      (first | refine OW_split (d := 14) rfl (fun g14 => ?_) (fun g14 => ?_) | skip)
      all_goals try (exfalso; exact cnA g14)
      all_goals (try simp only [decide_eq_true_eq, decide_eq_false_iff_not, Bool.not_eq_true, Bool.not_eq_false, Bool.and_eq_true, Bool.or_eq_true, Bool.or_eq_false_iff, Bool.not_eq_true, Bool.not_eq_eq_eq_not, Bool.not_true, Bool.not_false] at g14)
      all_goals
        try simp only [eX, ↓reduceIte, Nat.reduceEqDiff, Int.reduceToNat]
        first
        | refine OW_guardT rfl (lt_some (by decide)) rfl (fun K hK r => ?_)
          simp only [x_fieldAddr, fa58_2, add_mk, Nat.reduceAdd, Nat.zero_add, eX, ↓reduceIte, Nat.reduceEqDiff, Int.reduceToNat]
          refine hK _ _ ?_; clear hK K
        | refine OW_guardF rfl (lt_some (by decide)) rfl ?_
          simp only [eX, ↓reduceIte, Nat.reduceEqDiff, Int.reduceToNat]
        first
        | refine OW_guardT rfl (lt_some (by decide)) rfl (fun K hK r => ?_)
          simp only [x_load, eX, ↓reduceIte, Nat.reduceEqDiff, Int.reduceToNat]
          refine Lt_loadAtA Try.underlying24 rfl sz24 hbA (by rw [List.size_toArray, Op15.len]; omega) ?_
          rw [Op15.man]
          refine hK _ _ ?_; clear hK K
        | refine OW_guardF rfl (lt_some (by decide)) rfl ?_
          simp only [eX, ↓reduceIte, Nat.reduceEqDiff, Int.reduceToNat]
        first
        | refine OW_guardT rfl (lt_some (by decide)) rfl (fun K hK r => ?_)
          simp only [x_callF _ bd8, List.map_toArray, List.map_cons, List.map_nil, eX, ↓reduceIte, Nat.reduceEqDiff, Int.reduceToNat]
          refine (large_ok _ (l.getD k default).m (l.getD k default).ma (l.getD k default).mc (hok.hm.le lhA) hok.ml).mono ?_
          rintro v H' ⟨rfl, hq⟩
          have hq := hq.symm
          subst hq
          try simp only [eX, ↓reduceIte, Nat.reduceEqDiff, Int.reduceToNat]
          refine hK _ _ ?_; clear hK K
        | refine OW_guardF rfl (lt_some (by decide)) rfl ?_
          simp only [eX, ↓reduceIte, Nat.reduceEqDiff, Int.reduceToNat]
        refine OW_opS (fun K hK r => ?_)
        simp only [x_pick, l_asBool, HL.ite_bool, if_true, if_false, Bool.false_eq_true, eX, ↓reduceIte, Nat.reduceEqDiff, Int.reduceToNat]
        refine hK _ _ ?_; clear hK K
        refine OW_mv rfl ?_
        (first | refine OW_split (d := 19) rfl (fun g19 => ?_) (fun g19 => ?_) | skip)
        all_goals try (exfalso; exact cnA g19)
        all_goals (try simp only [decide_eq_true_eq, decide_eq_false_iff_not, Bool.not_eq_true, Bool.not_eq_false, Bool.and_eq_true, Bool.or_eq_true, Bool.or_eq_false_iff, Bool.not_eq_true, Bool.not_eq_eq_eq_not, Bool.not_true, Bool.not_false] at g19)
        all_goals
          try simp only [eX, ↓reduceIte, Nat.reduceEqDiff, Int.reduceToNat]
          first
          | refine OW_guardT rfl (lt_some (by decide)) rfl (fun K hK r => ?_)
            simp only [x_fieldAddr, fa58_4, add_mk, Nat.reduceAdd, Nat.zero_add, eX, ↓reduceIte, Nat.reduceEqDiff, Int.reduceToNat]
            refine hK _ _ ?_; clear hK K
          | refine OW_guardF rfl (lt_some (by decide)) rfl ?_
            simp only [eX, ↓reduceIte, Nat.reduceEqDiff, Int.reduceToNat]
          first
          | refine OW_guardT rfl (lt_some (by decide)) rfl (fun K hK r => ?_)
            simp only [x_load, eX, ↓reduceIte, Nat.reduceEqDiff, Int.reduceToNat]
            refine Lt_loadAt1 Try.underlying56 rfl hbA (Op15.keep' _) ?_
            refine hK _ _ ?_; clear hK K
          | refine OW_guardF rfl (lt_some (by decide)) rfl ?_
            simp only [eX, ↓reduceIte, Nat.reduceEqDiff, Int.reduceToNat]
          first
          | refine OW_guardT rfl (lt_some (by decide)) rfl (fun K hK r => ?_)
            simp only [x_builtin, l_len, List.map_toArray, List.map_cons, List.map_nil, i_len_slice _ _ Try.underlying56, eX, ↓reduceIte, Nat.reduceEqDiff, Int.reduceToNat]
            refine hK _ _ ?_; clear hK K
          | refine OW_guardF rfl (lt_some (by decide)) rfl ?_
            simp only [eX, ↓reduceIte, Nat.reduceEqDiff, Int.reduceToNat]
          first
          | refine OW_guardT rfl (lt_some (by decide)) rfl (fun K hK r => ?_)
            simp (disch := (first | omega | decide)) only [x_bin, g_int, b_gtr, dec_lt_t, dec_lt_f, dec_le_t, dec_le_f, dec_eq_t, dec_eq_f, Bool.not_true, Bool.not_false, eX, ↓reduceIte, Nat.reduceEqDiff, Int.reduceToNat]
            refine hK _ _ ?_; clear hK K
          | refine OW_guardF rfl (lt_some (by decide)) rfl ?_
            simp only [eX, ↓reduceIte, Nat.reduceEqDiff, Int.reduceToNat]
          refine OW_opS (fun K hK r => ?_)
          simp only [x_pick, l_asBool, HL.ite_bool, if_true, if_false, Bool.false_eq_true, eX, ↓reduceIte, Nat.reduceEqDiff, Int.reduceToNat]
          refine hK _ _ ?_; clear hK K
          refine OW_nil ?_
          try simp only [Ex.thnH, Ex.inBlockH, ↓reduceIte, Nat.reduceEqDiff]
          refine hK8 _ _ ?_; try clear hK8 K8
          refine CW_cond (fun r => rfl) (fun c24 => ?_) (fun c24 => ?_)
          · first
            | (exfalso; exact cnA c24; done)
            | skip
              skip
              refine CW_seq (fun K9 hK9 => ?_)
              refine CW_region ?_
              refine OW_as rfl ?_
              refine OW_nil ?_
              try simp only [Ex.thnH, Ex.inBlockH, ↓reduceIte, Nat.reduceEqDiff]
              refine hK9 _ _ ?_; try clear hK9 K9
              refine CW_ret ?_
              try simp only [Ex.thnH, Ex.inBlockH, ↓reduceIte, Nat.reduceEqDiff]
              exact ⟨[_], ⟨rfl, trivial⟩, H, lhA, true, rfl, (fun h => by cases h), rfl⟩
          · first
            | (exfalso; exact cnA c24; done)
            | skip
              have hlast : (l.getD k default).keep.length ≤ 40 ∧ (l.getD k default).m.hd.length ≤ 20 ∧ k ≤ 40 := by first | omega | (simp only [decide_eq_false_iff_not] at *; omega) | (cases c24; done)
              have hk41 := hlast.2.2
              have hlast := And.intro hlast.1 hlast.2.1
              refine CW_skip ?_
              try simp only [Ex.thnH, Ex.inBlockH, ↓reduceIte, Nat.reduceEqDiff]
              refine hK6 _ _ ?_; try clear hK6 K6
              refine CW_region ?_
              refine OW_opS (fun K hK r => ?_)
              simp (disch := (first | omega | decide)) only [x_bin, g_int, b_add, wrap_i64, wrap_u64, wrap_u32, wrap_u8, eX, ↓reduceIte, Nat.reduceEqDiff, Int.reduceToNat]
              refine hK _ _ ?_; clear hK K
              refine OW_mv rfl ?_
              refine OW_nil ?_
              try simp only [Ex.thnH, Ex.inBlockH, ↓reduceIte, Nat.reduceEqDiff]
              refine ⟨41 - (k + 1), by omega, k + 1, by omega, by omega, rfl, (fun j hj => ?_), lhA, rfl, rfl, rfl, trivial⟩
              by_cases e : j = k
              · subst e; exact hlast
              · exact hno j (by omega)
  · first
    | (exfalso; exact cnA c8; done)
    | skip
      (try simp only [decide_eq_true_eq, decide_eq_false_iff_not, Bool.not_eq_true, Bool.not_eq_false, Bool.and_eq_true, Bool.or_eq_true, Bool.or_eq_false_iff, Bool.not_eq_true, Bool.not_eq_eq_eq_not, Bool.not_true, Bool.not_false] at c8)
      have hkn : k = l.length := by omega
      refine CW_exit ?_
      try simp only [Ex.thnH, Ex.inBlockH, ↓reduceIte, Nat.reduceEqDiff]
      refine hK2 _ _ ?_; try clear hK2 K2
      refine CW_seq (fun K10 hK10 => ?_)
      refine CW_region ?_
      refine OW_as rfl ?_
      refine OW_nil ?_
      try simp only [Ex.thnH, Ex.inBlockH, ↓reduceIte, Nat.reduceEqDiff]
      refine hK10 _ _ ?_; try clear hK10 K10
      refine CW_ret ?_
      try simp only [Ex.thnH, Ex.inBlockH, ↓reduceIte, Nat.reduceEqDiff]
      subst hkn
      exact ⟨[_], ⟨rfl, trivial⟩, H, lhA, false, rfl, (fun _ => ⟨hk81, hno⟩), rfl⟩

end Go.Proofs.Ytigofhhonnbkmaa.HL
end
section
namespace Go.Proofs.Ytigofhhonnbkmaa.HL
open Go Go.Proofs
set_option linter.unusedSimpArgs false
set_option linter.unusedVariables false
attribute [local irreducible] Lt Lq CW OW TW CallH


theorem leI_app : ∀ (a b : List Int), leI (a ++ b) = leI a + 256 ^ a.length * leI b
  | [], b => by simp [leI]
  | x :: a, b => by
    have ih := leI_app a b
    simp only [List.cons_append, List.length_cons, leI, ih, Int.pow_succ]
    rw [Int.mul_add, ← Int.add_assoc, ← Int.mul_assoc, Int.mul_comm 256 (256 ^ a.length)]
theorem leI_inj {a b : List Int} (ha : ByteL a) (hb : ByteL b) (hl : a.length = b.length) (h : leI a = leI b) : a = b := by
  rw [← leR_leI a ha, ← leR_leI b hb, hl, h]
/-- a number whose higher bytes were another, less one's -/
theorem tear_six {x y : List Int} (hx : ByteL x) (hy : ByteL y) (lx : x.length = 6) (ly : y.length = 6) {j : Nat} (hj : j ≤ 6) (h : leI y < leI x) : x.take j ++ y.drop j = x ∨ leI (x.take j ++ y.drop j) < leI x := by
  have ex : leI x = leI (x.take j) + 256 ^ j * leI (x.drop j) := by
    have := leI_app (x.take j) (x.drop j)
    rw [List.take_append_drop, List.length_take, Nat.min_eq_left (by omega)] at this; exact this
  have ey : leI y = leI (y.take j) + 256 ^ j * leI (y.drop j) := by
    have := leI_app (y.take j) (y.drop j)
    rw [List.take_append_drop, List.length_take, Nat.min_eq_left (by omega)] at this; exact this
  have et : leI (x.take j ++ y.drop j) = leI (x.take j) + 256 ^ j * leI (y.drop j) := by
    have := leI_app (x.take j) (y.drop j)
    rw [List.length_take, Nat.min_eq_left (by omega)] at this; exact this
  have hx1 := leI_range (x.take j) (fun z hz => hx z (List.mem_of_mem_take hz))
  have hy1 := leI_range (y.take j) (fun z hz => hy z (List.mem_of_mem_take hz))
  have bx : ByteL (x.drop j) := fun z hz => hx z (List.mem_of_mem_drop hz)
  have by_ : ByteL (y.drop j) := fun z hz => hy z (List.mem_of_mem_drop hz)
  have hlx : (x.take j).length = j := by rw [List.length_take]; omega
  have hly : (y.take j).length = j := by rw [List.length_take]; omega
  rw [hlx] at hx1
  rw [hly] at hy1
  have hp : (0 : Int) < 256 ^ j := Int.pow_pos (by decide)
  have hle : leI (y.drop j) ≤ leI (x.drop j) := by
    apply Classical.byContradiction
    intro hn
    have h1 : leI (x.drop j) + 1 ≤ leI (y.drop j) := by omega
    have h2 := Int.mul_le_mul_of_nonneg_left h1 (Int.le_of_lt hp)
    rw [Int.mul_add, Int.mul_one] at h2
    omega
  by_cases he : leI (y.drop j) = leI (x.drop j)
  · left
    rw [leI_inj by_ bx (by rw [List.length_drop, List.length_drop, lx, ly]) he, List.take_append_drop]
  · right
    have h1 : leI (y.drop j) + 1 ≤ leI (x.drop j) := by omega
    have h2 := Int.mul_le_mul_of_nonneg_left h1 (Int.le_of_lt hp)
    rw [Int.mul_add, Int.mul_one] at h2
    rw [et, ex]
    omega
theorem tail_torn {X L : List Int} (hX : ByteL X) (hL : ByteL L) (lx : X.length = 64) (ll : L.length = 64) (h : tailOf L < tailOf X) (t : Nat) : X.take t ++ L.drop t = X ∨ tailOf (X.take t ++ L.drop t) < tailOf X := by
  by_cases h58 : t ≤ 58
  · right
    have e : (X.take t ++ L.drop t).drop 58 = L.drop 58 := by
      rw [List.drop_append, List.drop_eq_nil_of_le (by rw [List.length_take]; omega), List.nil_append, List.drop_drop, List.length_take, Nat.min_eq_left (by omega)]
      congr 1; omega
    have : tailOf (X.take t ++ L.drop t) = tailOf L := by unfold tailOf; rw [e]
    rw [this]; exact h
  by_cases h64 : 64 ≤ t
  · left
    rw [List.take_of_length_le (by omega), List.drop_eq_nil_of_le (by omega), List.append_nil]
  have e1 : (X.take t ++ L.drop t).drop 58 = (X.drop 58).take (t - 58) ++ (L.drop 58).drop (t - 58) := by
    rw [List.drop_append, List.length_take, Nat.min_eq_left (by omega), show 58 - t = 0 by omega, List.drop_zero, List.drop_take, List.drop_drop]
    congr 2; omega
  have e2 : ∀ Z : List Int, Z.length = 64 → (Z.drop 58).take 6 = Z.drop 58 := fun Z hz => List.take_of_length_le (by rw [List.length_drop]; omega)
  have lT : (X.take t ++ L.drop t).length = 64 := by rw [List.length_append, List.length_take, List.length_drop]; omega
  have h' : leI (L.drop 58) < leI (X.drop 58) := by
    unfold tailOf at h
    rw [e2 X lx, e2 L ll] at h; exact h
  rcases tear_six (fun z hz => hX z (List.mem_of_mem_drop hz)) (fun z hz => hL z (List.mem_of_mem_drop hz)) (by rw [List.length_drop]; omega) (by rw [List.length_drop]; omega) (show t - 58 ≤ 6 by omega) h' with h6 | h6
  · left
    have e3 : (X.take t ++ L.drop t).take 58 = X.take 58 := by
      rw [List.take_append_of_le_length (by rw [List.length_take]; omega), List.take_take, Nat.min_eq_left (by omega)]
    rw [← List.take_append_drop 58 (X.take t ++ L.drop t), e3, e1, h6, List.take_append_drop]
  · right
    unfold tailOf
    rw [e2 _ lT, e2 X lx, e1]; exact h6
theorem tail_open {L : List Int} {m : Mf} (h : opM L = some m) : tailOf L = m.gen := by
  obtain ⟨h1, h2⟩ := opM_of h
  have ho := h1.open
  rw [← h2] at ho
  unfold openI at ho
  split at ho
  · rename_i hg
    rw [good_iff] at hg
    injection ho with ho
    injection ho with e1 _
    rw [← hg.1]; exact e1
  · cases ho
theorem tail_seal {m : Mf} (h : m.Ok) : tailOf m.sec.b = m.gen := tail_open (opM_seal h)
theorem tail_zero : tailOf Sec.zero.b = 0 := by decide
theorem pick_less {b : Mf} {L : List Int} {i g : Int} (h : tailOf L ≤ g) (hg : g % 2 ≠ i) (hb : b.gen = g) : HL.pick b L i = b := pick_no (by
  rintro ⟨h1, h2, h3⟩
  cases ho : opM L with
  | none => rw [(opM_no ho).2] at h1; cases h1
  | some m =>
    rw [(opM_yes ho).1] at h3
    have := tail_open ho
    omega)
theorem pick_under {L : List Int} {i g : Int} (h : tailOf L ≤ g) (hg : g % 2 ≠ i) (g0 : 1 ≤ g) : (HL.pick zM L i).gen < g := by
  unfold HL.pick
  split
  · rename_i hh
    obtain ⟨h1, h2, h3⟩ := hh
    cases ho : opM L with
    | none => rw [(opM_no ho).2] at h1; cases h1
    | some m =>
      rw [(opM_yes ho).1] at h2 ⊢
      have := tail_open ho
      by_cases e : m.gen = g
      · rw [e] at h2; exact absurd h2 hg
      · omega
  · show (0 : Int) < g
    omega
/-- what the first device holds for sure: this manifest, and nothing of a later one -/
structure Kept (s : St) (now : Mf) : Prop where
  len : 1 ≤ s.dv.length
  size : (s.dv.getD 0 default).size = 3
  at_ : (s.dv.getD 0 default).sure (now.gen % 2) = now.sec
  tail : tailOf ((s.dv.getD 0 default).sure (1 - now.gen % 2)).b ≤ now.gen
  wait : (s.dv.getD 0 default).wait = []
theorem Kept.congr {s t : St} {m : Mf} (h : Kept s m) (e : t.dv = s.dv) : Kept t m := ⟨by rw [e]; exact h.len, by rw [e]; exact h.size, by rw [e]; exact h.at_, by rw [e]; exact h.tail, by rw [e]; exact h.wait⟩
theorem Kept.load {s : St} {m : Mf} (h : Kept s m) (hm : m.Ok) (hg : s.gone = false) : s.loadM = (m, none) := by
  have hsz : s.sz 0 = 3 := by
    have := h.len
    unfold St.sz
    rw [if_pos (by omega)]; exact h.size
  have hr : ∀ k : Nat, k < 2 → (s.rd 0 k).1 = (s.dv.getD 0 default).sure k := fun k hk => by
    unfold St.rd
    rw [if_neg (by rw [hg]; simp), if_pos]
    · show Dv.read _ _ = _
      unfold Dv.read
      rw [show (0 : Int).toNat = 0 from rfl, h.wait]; rfl
    · unfold St.has
      have := h.len
      rw [Bool.and_eq_true, decide_eq_true_eq, decide_eq_true_eq]
      exact ⟨⟨Int.le_refl _, by omega⟩, by omega, by rw [show (0 : Int).toNat = 0 from rfl, h.size]; omega⟩
  have hb : s.bestN 2 = HL.pick (HL.pick zM ((s.dv.getD 0 default).sure 0).b 0) ((s.dv.getD 0 default).sure 1).b 1 := by
    show HL.pick (HL.pick zM (s.rd 0 (0 : Nat)).1.b (0 : Nat)) (s.rd 0 (1 : Nat)).1.b (1 : Nat) = _
    rw [hr 0 (by omega), hr 1 (by omega)]; rfl
  have hgg := hm.g
  have hat := h.at_
  have htl := h.tail
  have hbm : s.bestN 2 = m := by
    rw [hb]
    rcases (show m.gen % 2 = 0 ∨ m.gen % 2 = 1 by omega) with e | e
    · rw [e] at hat htl
      rw [hat, pick_seal (best := zM) hm e (by show (0 : Int) < _; omega)]
      exact pick_less htl (by omega) rfl
    · rw [e] at hat htl
      rw [hat]
      exact pick_seal hm e (pick_under htl (by omega) (by omega))
  unfold St.loadM
  rw [if_neg (by omega), if_neg (by rw [hg]; simp), hbm, if_neg (by omega)]
theorem Kept.dev {s t : St} {m n : Mf} (h : Kept s m) {d : Dv} (e : t.dv = s.dv.set 0 d) (h1 : d.size = 3) (h2 : d.sure (n.gen % 2) = n.sec) (h3 : tailOf (d.sure (1 - n.gen % 2)).b ≤ n.gen) (h4 : d.wait = []) : Kept t n := by
  have hl := h.len
  have hd : t.dv.getD 0 default = d := by rw [e, getD_set, if_pos ⟨rfl, by omega⟩]
  exact ⟨by rw [e]; simp; omega, by rw [hd]; exact h1, by rw [hd]; exact h2, by rw [hd]; exact h3, by rw [hd]; exact h4⟩
/-- a write of the next manifest waits -/
structure Half (s : St) (now next : Mf) : Prop where
  len : 1 ≤ s.dv.length
  size : (s.dv.getD 0 default).size = 3
  at_ : (s.dv.getD 0 default).sure (now.gen % 2) = now.sec
  tail : tailOf ((s.dv.getD 0 default).sure (1 - now.gen % 2)).b ≤ now.gen
  wait : (s.dv.getD 0 default).wait = [⟨next.gen % 2, next.sec⟩]
theorem Kept.save {s : St} {now next : Mf} (h : Kept s now) (hn : next.Ok) (hw : now.Ok) (hg : next.gen = now.gen + 1) : ((s.saveM next).2 = none → Kept (s.saveM next).1 next) ∧ ((s.saveM next).2 ≠ none → Kept (s.saveM next).1 now ∨ Half (s.saveM next).1 now next) := by
  have hgg := hw.g
  have hl := h.len
  have hsz : s.sz 0 = 3 := by
    unfold St.sz
    rw [if_pos (by omega)]; exact h.size
  have hgood := Mf.good_iff.2 hn
  have hz2 : ¬ s.sz 0 < 2 := by omega
  rcases wr_cases s 0 (next.gen % 2) next.sec with ⟨_, _, hh⟩ | ⟨e1, e2, _, _⟩ | ⟨e1, e2, _, _⟩
  · exfalso
    have : s.has 0 (next.gen % 2) = true := by
      unfold St.has
      rw [Bool.and_eq_true, decide_eq_true_eq, decide_eq_true_eq]
      exact ⟨⟨Int.le_refl _, by omega⟩, by omega, by rw [show (0 : Int).toNat = 0 from rfl, h.size]; omega⟩
    rw [hh] at this; cases this
  · have es := saveM_err hgood hz2 e2
    rw [es, e2]
    exact ⟨fun h => by (try cases h), fun _ => .inl (by rw [e1]; exact h.congr (step_dv s))⟩
  · have es := saveM_all hgood hz2 e2
    have hd : (s.wr 0 (next.gen % 2) next.sec).1.dv = s.dv.set 0 ((s.dv.getD 0 default).put ⟨next.gen % 2, next.sec⟩) := by
      rw [e1]
      show s.dv.set (0 : Int).toNat _ = _
      rfl
    have hd0 : (s.wr 0 (next.gen % 2) next.sec).1.dv.getD 0 default = (s.dv.getD 0 default).put ⟨next.gen % 2, next.sec⟩ := by rw [hd, getD_set, if_pos ⟨rfl, by omega⟩]
    have hwt : ((s.dv.getD 0 default).put ⟨next.gen % 2, next.sec⟩).wait = [⟨next.gen % 2, next.sec⟩] := by
      show (s.dv.getD 0 default).wait ++ _ = _
      rw [h.wait]; rfl
    have hH : Half (s.wr 0 (next.gen % 2) next.sec).1 now next := ⟨by rw [hd]; simp; omega, by rw [hd0]; exact h.size, by rw [hd0]; exact h.at_, by rw [hd0]; exact h.tail, by rw [hd0]; exact hwt⟩
    rw [es]
    rcases fl_cases (s.wr 0 (next.gen % 2) next.sec).1 0 with ⟨_, _, hh⟩ | ⟨a1, a2, _, _⟩ | ⟨a1, a2, _, _⟩
    · exact absurd ⟨Int.le_refl _, by rw [hd]; simp; omega⟩ hh
    · rw [a2]
      refine ⟨fun h => by (try cases h), fun _ => .inr ?_⟩
      rw [a1]
      have e := step_dv (s.wr 0 (next.gen % 2) next.sec).1
      exact ⟨by rw [e]; exact hH.len, by rw [e]; exact hH.size, by rw [e]; exact hH.at_, by rw [e]; exact hH.tail, by rw [e]; exact hH.wait⟩
    · rw [a2]
      refine ⟨fun _ => ?_, fun h => absurd rfl h⟩
      have hds : ((s.wr 0 (next.gen % 2) next.sec).1.fl 0).1.dv = s.dv.set 0 (((s.dv.getD 0 default).put ⟨next.gen % 2, next.sec⟩).settle (fun _ => some 0)) := by
        rw [a1]
        show (s.wr 0 (next.gen % 2) next.sec).1.dv.set (0 : Int).toNat (((s.wr 0 (next.gen % 2) next.sec).1.dv.getD (0 : Int).toNat default).settle _) = _
        rw [show (0 : Int).toNat = 0 from rfl, hd0, hd, List.set_set]
      have hsu : ∀ z, (((s.dv.getD 0 default).put ⟨next.gen % 2, next.sec⟩).settle (fun _ => some 0)).sure z = if z = next.gen % 2 then next.sec else (s.dv.getD 0 default).sure z := fun z => by
        show stN (fun _ => some 0) (((s.dv.getD 0 default).put ⟨next.gen % 2, next.sec⟩).wait) _ (((s.dv.getD 0 default).put ⟨next.gen % 2, next.sec⟩).wait).length z = _
        rw [hwt]
        show (if z = next.gen % 2 then torn next.sec _ 0 else _) = _
        by_cases e : z = next.gen % 2
        · rw [if_pos e, if_pos e]; simp [torn]
        · rw [if_neg e, if_neg e]; rfl
      refine h.dev hds h.size ?_ ?_ rfl
      · rw [hsu, if_pos rfl]
      · rw [hsu, if_neg (by omega), show 1 - next.gen % 2 = now.gen % 2 by omega, h.at_, tail_seal hw]; omega
theorem cr_dev (s : St) (l : List Kp) (h : 1 ≤ s.dv.length) : (s.cr l).dv = s.dv.mapIdx (fun i d => d.settle (fun n => keepOf l i n)) ∧ (s.cr l).dv.getD 0 default = (s.dv.getD 0 default).settle (fun n => keepOf l (0 : Nat) n) ∧ 1 ≤ (s.cr l).dv.length := by
  refine ⟨rfl, ?_, by simp [St.cr]; omega⟩
  simp [St.cr, List.getD_eq_getElem?_getD, List.getElem?_mapIdx, List.getElem?_eq_getElem (show 0 < s.dv.length by omega)]
theorem Kept.cr {s : St} {m : Mf} (h : Kept s m) (l : List Kp) : Kept (s.cr l) m := by
  obtain ⟨_, h2, h3⟩ := cr_dev s l h.len
  have e : (s.dv.getD 0 default).settle (fun n => keepOf l (0 : Nat) n) = s.dv.getD 0 default := by
    have hw := h.wait
    generalize s.dv.getD 0 default = d at *
    obtain ⟨a, b, c⟩ := d
    cases hw; rfl
  rw [e] at h2
  exact ⟨h3, by rw [h2]; exact h.size, by rw [h2]; exact h.at_, by rw [h2]; exact h.tail, by rw [h2]; exact h.wait⟩
theorem Half.cr {s : St} {now next : Mf} (h : Half s now next) (hw : now.Ok) (hn : next.Ok) (hg : next.gen = now.gen + 1) (hb : BS s) (l : List Kp) : Kept (s.cr l) now ∨ Kept (s.cr l) next := by
  obtain ⟨_, h2, h3⟩ := cr_dev s l h.len
  have hsu : ∀ z, ((s.dv.getD 0 default).settle (fun n => keepOf l (0 : Nat) n)).sure z = match keepOf l (0 : Nat) (0 : Nat) with | none => (s.dv.getD 0 default).sure z | some t => if z = next.gen % 2 then torn next.sec ((s.dv.getD 0 default).sure (next.gen % 2)) t else (s.dv.getD 0 default).sure z := fun z => by
    show stN _ ((s.dv.getD 0 default).wait) _ ((s.dv.getD 0 default).wait).length z = _
    rw [h.wait]
    show (match keepOf l ((0 : Nat) : Int) ((0 : Nat) : Int) with | none => stN _ _ _ 0 | some t => _) z = _
    cases keepOf l ((0 : Nat) : Int) ((0 : Nat) : Int) <;> rfl
  have hgen := hw.g
  have hkn : Kept (s.cr l) now ∨ Kept (s.cr l) next := by
    cases hk : keepOf l (0 : Nat) (0 : Nat) with
    | none =>
      rw [hk] at hsu
      exact .inl ⟨h3, by rw [h2]; exact h.size, by rw [h2, hsu]; exact h.at_, by rw [h2, hsu]; exact h.tail, by rw [h2]; rfl⟩
    | some t =>
      rw [hk] at hsu
      have e1 : 1 - now.gen % 2 = next.gen % 2 := by omega
      have ht := h.tail
      rw [e1] at ht
      have key : torn next.sec ((s.dv.getD 0 default).sure (next.gen % 2)) t = next.sec ∨ tailOf (torn next.sec ((s.dv.getD 0 default).sure (next.gen % 2)) t).b ≤ now.gen := by
        unfold torn
        split
        · rename_i hh
          rcases tail_torn (X := next.sec.b) (L := ((s.dv.getD 0 default).sure (next.gen % 2)).b) next.seal_byte (hb.su _) next.sec.h (Sec.h _) (by rw [tail_seal hn]; omega) t.toNat with h6 | h6
          · exact .inl (Sec.ext h6)
          · right
            rw [tail_seal hn] at h6
            show tailOf (next.sec.b.take t.toNat ++ _) ≤ _
            omega
        · exact .inl rfl
      rcases key with h6 | h6
      · right
        refine ⟨h3, by rw [h2]; exact h.size, by rw [h2, hsu]; simp only [↓reduceIte]; exact h6, ?_, by rw [h2]; rfl⟩
        rw [h2, hsu]
        simp only
        rw [if_neg (by omega), show 1 - next.gen % 2 = now.gen % 2 by omega, h.at_, tail_seal hw]; omega
      · left
        refine ⟨h3, by rw [h2]; exact h.size, ?_, ?_, by rw [h2]; rfl⟩
        · rw [h2, hsu]; simp only; rw [if_neg (by omega)]; exact h.at_
        · rw [h2, hsu]; simp only; rw [if_pos e1]; exact h6
  exact hkn
theorem kept_first {m : Mf} (hm : m.Ok) : ((newSt [3]).saveM m).2 = none ∧ Kept ((newSt [3]).saveM m).1 m := by
  have hu : Up (newSt [3]) 3 := ⟨rfl, rfl, by decide, rfl⟩
  have hg := hm.g
  obtain ⟨q1, q2, q3, q4⟩ := hu.saveM (by omega) hm
  have hs : ∀ z, (((newSt [3]).saveM m).1.dv.getD 0 default).sure z = if z = m.gen % 2 then m.sec else Sec.zero := fun z => by
    have h := q4 z
    unfold St.r0 Dv.read at h
    rw [q3] at h
    exact h
  refine ⟨q1, q2.len, q2.sz, by rw [hs, if_pos rfl], ?_, q3⟩
  rw [hs, if_neg (by omega), tail_zero]; omega

end Go.Proofs.Ytigofhhonnbkmaa.HL
end
section
namespace Go.Proofs.Ytigofhhonnbkmaa.HL
open Go Go.Proofs
set_option linter.unusedSimpArgs false
set_option linter.unusedVariables false
attribute [local irreducible] Lt Lq CW OW TW CallH


theorem Stn.side {H K F : Hp} {p : Nat} {s : St} (hA : Stn H K F p s) {G K' : Hp} (lG : Le G K') (hk : ∀ b o, K b = some o → H b = none → K' b = some o ∧ G b = none) : Stn G K' F p s := by
  have hx : ∀ b o, F b = some o → K' b = some o ∧ G b = none := fun b o hb => hk b o (hA.le b o hb) (by
    cases hc : H b with
    | none => rfl
    | some o' => have := hA.ap b (by rw [hc]; simp); rw [hb] at this; cases this)
  refine ⟨hA.set, fun b o hb => (hx b o hb).1, lG, fun b hb => ?_⟩
  cases hc : F b with
  | none => rfl
  | some o => exact absurd (hx b o hc).2 hb
theorem Stn.off {H K F : Hp} {p : Nat} {s : St} (hA : Stn H K F p s) {b : Nat} (hF : F b = none) (hH : H b = none) (o : Obj) : Stn H (K.upd b o) F p s := ⟨hA.set, le_upd_of hA.le hF, le_upd_of hA.old hH, hA.ap⟩
theorem Stn.with {Q K F : Hp} {p : Nat} {s : St} (h : Stn Q K F p s) {b : Nat} {o : Obj} (hK : K b = some o) (hF : F b = none) : Stn (Q.upd b o) K F p s :=
  ⟨h.set, h.le, le_put h.old hK, fun x hx => by
    by_cases e : x = b
    · rw [e]; exact hF
    · rw [upd_ne _ _ e] at hx; exact h.ap x hx⟩
/-- a set, and beside it a box that holds a manifest -/
structure KB (Q K F : Hp) (p : Nat) (s : St) (b : Nat) (m : Mf) (a : Option Addr) (c : Nat) : Prop where
  st : Stn Q K F p s
  box : K b = some (.cells #[.int .i64 m.gen, .int .i64 m.ep, .int .i64 m.ba, .int .i64 m.ar, .int .i64 m.ln, .slice a m.hd.length c] 24)
  f : F b = none
  q : Q b = none
theorem KB.full {Q K F : Hp} {p : Nat} {s : St} {b : Nat} {m : Mf} {a : Option Addr} {c : Nat} (h : KB Q K F p s b m a c) : Stn (Q.upd b (.cells #[.int .i64 m.gen, .int .i64 m.ep, .int .i64 m.ba, .int .i64 m.ar, .int .i64 m.ln, .slice a m.hd.length c] 24)) K F p s := h.st.with h.box h.f
theorem KB.of {Q K F : Hp} {p : Nat} {s : St} {b : Nat} {m : Mf} {a : Option Addr} {c : Nat} (hq : Q b = none) {Q' : Hp} (hQ : Le (Q.upd b (.cells #[.int .i64 m.gen, .int .i64 m.ep, .int .i64 m.ba, .int .i64 m.ar, .int .i64 m.ln, .slice a m.hd.length c] 24)) Q') (h : Stn Q' K F p s) : KB Q K F p s b m a c :=
  ⟨h.less (Le.trans (le_upd _ _ _ hq) hQ), h.old _ _ (hQ _ _ (upd_same _ _ _)), h.ap b (by rw [hQ _ _ (upd_same _ _ _)]; simp), hq⟩
theorem KB.more {Q K F : Hp} {p : Nat} {s : St} {b : Nat} {m : Mf} {a : Option Addr} {c : Nat} (h : KB Q K F p s b m a c) {K' : Hp} (hl : Le K K') : KB Q K' F p s b m a c := ⟨h.st.more hl, hl _ _ h.box, h.f, h.q⟩
theorem KB.less {Q Q' K F : Hp} {p : Nat} {s : St} {b : Nat} {m : Mf} {a : Option Addr} {c : Nat} (h : KB Q K F p s b m a c) (hl : Le Q' Q) : KB Q' K F p s b m a c := ⟨h.st.less hl, h.box, h.f, none_of_le hl h.q⟩
theorem KB.put {Q K F : Hp} {p : Nat} {s : St} {b : Nat} {m : Mf} {a : Option Addr} {c : Nat} (h : KB Q K F p s b m a c) (n : Mf) (a' : Option Addr) (c' : Nat) : KB Q (K.upd b (.cells #[.int .i64 n.gen, .int .i64 n.ep, .int .i64 n.ba, .int .i64 n.ar, .int .i64 n.ln, .slice a' n.hd.length c'] 24)) F p s b n a' c' := ⟨h.st.off h.f h.q _, upd_same _ _ _, h.f, h.q⟩
theorem KB.alloc {Q K F : Hp} {p : Nat} {s : St} {b : Nat} {m : Mf} {a : Option Addr} {c : Nat} (h : KB Q K F p s b m a c) {x : Nat} (hx : K x = none) (o : Obj) : KB (Q.upd x o) (K.upd x o) F p s b m a c := by
  have hne : b ≠ x := fun e => by have := h.box; rw [e, hx] at this; cases this
  exact ⟨h.st.put (h.st.fresh hx) o, (upd_ne _ _ hne).trans h.box, h.f, (upd_ne _ _ hne).trans h.q⟩
/-- behind a round: the manifest that was saved last, or the one before -/
theorem kept_round {s : St} {now next : Mf} (h : Kept s now) (hb : BS s) (hw : now.Ok) (hn : next.Ok) (hg : next.gen = now.gen + 1) : ((s.saveM next).2 = none → ∀ l, Kept ((s.saveM next).1.cr l) next) ∧ ((s.saveM next).2 ≠ none → ∀ l, ∃ w, (w = now ∨ w = next) ∧ Kept ((s.saveM next).1.cr l) w) := by
  obtain ⟨h1, h2⟩ := h.save hn hw hg
  refine ⟨fun e l => (h1 e).cr l, fun e l => ?_⟩
  rcases h2 e with h3 | h3
  · exact ⟨now, .inl rfl, h3.cr l⟩
  · rcases h3.cr hw hn hg (hb.saveM next) l with h4 | h4
    · exact ⟨now, .inl rfl, h4⟩
    · exact ⟨next, .inr rfl, h4⟩

end Go.Proofs.Ytigofhhonnbkmaa.HL
end
section
namespace Go.Proofs.Ytigofhhonnbkmaa.HL
open Go Go.Proofs
set_option linter.unusedSimpArgs false
set_option linter.unusedVariables false
attribute [local irreducible] Lt Lq CW OW TW CallH

set_option maxRecDepth 100000 in
set_option maxHeartbeats 16000000 in
theorem lawKeeps (H : Hp) (m : Mf) (ma : Option Addr) (mc : Nat) (hm : Holds H 1 (.slice ma m.hd.length mc) m.hd.length (i64s m.hd)) (hm0 : m.hd.length ≤ 9223372036854775807) (a : Option Addr) (cap : Nat) (l : List Op15) (hv : Holds H 73 (.slice a l.length cap) l.length (ops15 l)) (ho : ∀ x ∈ l, x.ok H) : CallH Try.prog 6 #[.agg #[.int .i64 m.gen, .int .i64 m.ep, .int .i64 m.ba, .int .i64 m.ar, .int .i64 m.ln, .slice ma m.hd.length mc], .slice a l.length cap] H (fun v H' => v = .bool true ∧ Le H H') := by
  refine CallH_enter (l := [_, _]) (rl := [.tmp 4]) (n := 117) Try.func6 rfl rfl rfl rfl rfl ?_
  simp only [envOf, Nat.reduceAdd]
  refine CW_seq (fun K1 hK1 => ?_)
  refine CW_region ?_
  refine OW_opS (fun K hK r => ?_)
  simp only [x_box, Value.cells, eX, ↓reduceIte, Nat.reduceEqDiff, Int.reduceToNat]
  intro b2 hb2
  have f2_H : H b2 = none := none_of_le lhA hb2
  try simp only [eX, ↓reduceIte, Nat.reduceEqDiff, Int.reduceToNat]
  refine hK _ _ ?_; clear hK K
  refine OW_as rfl ?_
  refine OW_nil ?_
  try simp only [Ex.thnH, Ex.inBlockH, ↓reduceIte, Nat.reduceEqDiff]
  refine hK1 _ _ ?_; try clear hK1 K1
  refine CW_seq (fun K2 hK2 => ?_)
  refine CW_seq (fun K3 hK3 => ?_)
  refine CW_region ?_
  refine OW_opS (fun K hK r => ?_)
  simp only [x_callF _ bd7, List.map_toArray, List.map_cons, List.map_nil, eX, ↓reduceIte, Nat.reduceEqDiff, Int.reduceToNat]
  refine (alive_ok _).mono ?_
  rintro v15 H' ⟨rfl, hq⟩
  have hq := hq.symm
  subst hq
  try simp only [eX, ↓reduceIte, Nat.reduceEqDiff, Int.reduceToNat]
  refine hK _ _ ?_; clear hK K
  refine OW_opS (fun K hK r => ?_)
  simp only [x_un, u_not, eX, ↓reduceIte, Nat.reduceEqDiff, Int.reduceToNat]
  refine hK _ _ ?_; clear hK K
  refine OW_nil ?_
  try simp only [Ex.thnH, Ex.inBlockH, ↓reduceIte, Nat.reduceEqDiff]
  refine hK3 _ _ ?_; try clear hK3 K3
  refine CW_cond (fun r => rfl) (fun c16 => ?_) (fun c16 => ?_)
  · exfalso; exact cnA c16
  refine CW_skip ?_
  try simp only [Ex.thnH, Ex.inBlockH, ↓reduceIte, Nat.reduceEqDiff]
  refine hK2 _ _ ?_; try clear hK2 K2
  refine CW_seq (fun K4 hK4 => ?_)
  refine CW_seq (fun K5 hK5 => ?_)
  refine CW_region_cut (fun e H_ => ∃ t, Env.has [(1, .slice a l.length cap), (2, .pointer (some ⟨b2, 0, none⟩)), (28, .bool t)] e ∧ (t = false → short15 l ∧ m.good = true ∧ m.gen ≤ 8589934592) ∧ H_ = H.upd b2 (.cells #[.int .i64 m.gen, .int .i64 m.ep, .int .i64 m.ba, .int .i64 m.ar, .int .i64 m.ln, .slice ma m.hd.length mc] 24)) ?_ ?_
  · skip
    refine OW_mv rfl ?_
    refine OW_opS (fun K hK r => ?_)
    simp only [x_callF _ bd18, List.map_toArray, List.map_cons, List.map_nil, eX, ↓reduceIte, Nat.reduceEqDiff, Int.reduceToNat]
    refine (long_ok _ a cap l (hv.le lhA) (fun x hx => ⟨(ho x hx).hk.le lhA, (ho x hx).hm.le lhA, (ho x hx).ml, (ho x hx).n1⟩)).mono ?_
    rintro v18 H' ⟨tl, rfl, hsh, hq⟩
    have hq := hq.symm
    subst hq
    try simp only [eX, ↓reduceIte, Nat.reduceEqDiff, Int.reduceToNat]
    refine hK _ _ ?_; clear hK K
    refine OW_mv rfl ?_
    (first | refine OW_split (d := 19) rfl (fun g19 => ?_) (fun g19 => ?_) | skip)
    all_goals try (exfalso; exact cnA g19)
    all_goals (try simp only [decide_eq_true_eq, decide_eq_false_iff_not, Bool.not_eq_true, Bool.not_eq_false, Bool.and_eq_true, Bool.or_eq_true, Bool.or_eq_false_iff, Bool.not_eq_true, Bool.not_eq_eq_eq_not, Bool.not_true, Bool.not_false] at g19)
    all_goals
      try simp only [eX, ↓reduceIte, Nat.reduceEqDiff, Int.reduceToNat]
      first
      | refine OW_guardT rfl (lt_some (by decide)) rfl (fun K hK r => ?_)
        simp only [x_load, eX, ↓reduceIte, Nat.reduceEqDiff, Int.reduceToNat]
        first | refine Lt_loadAll Try.underlying24 rfl sz24 hbA bdA ?_ | refine Lt_loadAtA Try.underlying24 rfl sz24 hbA bdA ?_
        try simp only [List.extract_toArray, List.extract_eq_take_drop, Nat.zero_add, Nat.reduceAdd, Nat.reduceSub, Nat.sub_zero, List.drop_succ_cons, List.drop_zero, List.take_succ_cons, List.take_zero, List.take_nil, List.drop_nil]
        try simp only [eX, ↓reduceIte, Nat.reduceEqDiff, Int.reduceToNat]
        refine hK _ _ ?_; clear hK K
      | refine OW_guardF rfl (lt_some (by decide)) rfl ?_
        simp only [eX, ↓reduceIte, Nat.reduceEqDiff, Int.reduceToNat]
      first
      | refine OW_guardT rfl (lt_some (by decide)) rfl (fun K hK r => ?_)
        simp only [x_callF _ bd11, List.map_toArray, List.map_cons, List.map_nil, eX, ↓reduceIte, Nat.reduceEqDiff, Int.reduceToNat]
        refine (rGood_ok _ m ma mc (hm.le lhA) hm0).mono ?_
        rintro v H' ⟨rfl, hq⟩
        have hq := hq.symm
        subst hq
        try simp only [eX, ↓reduceIte, Nat.reduceEqDiff, Int.reduceToNat]
        refine hK _ _ ?_; clear hK K
      | refine OW_guardF rfl (lt_some (by decide)) rfl ?_
        simp only [eX, ↓reduceIte, Nat.reduceEqDiff, Int.reduceToNat]
      first
      | refine OW_guardT rfl (lt_some (by decide)) rfl (fun K hK r => ?_)
        simp only [x_un, u_not, eX, ↓reduceIte, Nat.reduceEqDiff, Int.reduceToNat]
        refine hK _ _ ?_; clear hK K
      | refine OW_guardF rfl (lt_some (by decide)) rfl ?_
        simp only [eX, ↓reduceIte, Nat.reduceEqDiff, Int.reduceToNat]
      refine OW_opS (fun K hK r => ?_)
      simp only [x_pick, l_asBool, HL.ite_bool, if_true, if_false, Bool.false_eq_true, eX, ↓reduceIte, Nat.reduceEqDiff, Int.reduceToNat]
      refine hK _ _ ?_; clear hK K
      refine OW_mv rfl ?_
      (first | refine OW_split (d := 24) rfl (fun g24 => ?_) (fun g24 => ?_) | skip)
      all_goals try (exfalso; exact cnA g24)
      all_goals (try simp only [decide_eq_true_eq, decide_eq_false_iff_not, Bool.not_eq_true, Bool.not_eq_false, Bool.and_eq_true, Bool.or_eq_true, Bool.or_eq_false_iff, Bool.not_eq_true, Bool.not_eq_eq_eq_not, Bool.not_true, Bool.not_false] at g24)
      all_goals
        try simp only [eX, ↓reduceIte, Nat.reduceEqDiff, Int.reduceToNat]
        first
        | refine OW_guardT rfl (lt_some (by decide)) rfl (fun K hK r => ?_)
          simp only [x_fieldAddr, fa24_0, add_mk, Nat.reduceAdd, Nat.zero_add, eX, ↓reduceIte, Nat.reduceEqDiff, Int.reduceToNat]
          refine hK _ _ ?_; clear hK K
        | refine OW_guardF rfl (lt_some (by decide)) rfl ?_
          simp only [eX, ↓reduceIte, Nat.reduceEqDiff, Int.reduceToNat]
        first
        | refine OW_guardT rfl (lt_some (by decide)) rfl (fun K hK r => ?_)
          simp only [x_load, eX, ↓reduceIte, Nat.reduceEqDiff, Int.reduceToNat]
          refine Lt_loadAt1 Try.underlying3 rfl hbA ldA ?_
          try simp only [eX, ↓reduceIte, Nat.reduceEqDiff, Int.reduceToNat]
          refine hK _ _ ?_; clear hK K
        | refine OW_guardF rfl (lt_some (by decide)) rfl ?_
          simp only [eX, ↓reduceIte, Nat.reduceEqDiff, Int.reduceToNat]
        first
        | refine OW_guardT rfl (lt_some (by decide)) rfl (fun K hK r => ?_)
          simp (disch := (first | omega | decide)) only [x_bin, g_int, b_gtr, dec_lt_t, dec_lt_f, dec_le_t, dec_le_f, dec_eq_t, dec_eq_f, Bool.not_true, Bool.not_false, eX, ↓reduceIte, Nat.reduceEqDiff, Int.reduceToNat]
          refine hK _ _ ?_; clear hK K
        | refine OW_guardF rfl (lt_some (by decide)) rfl ?_
          simp only [eX, ↓reduceIte, Nat.reduceEqDiff, Int.reduceToNat]
        refine OW_opS (fun K hK r => ?_)
        simp only [x_pick, l_asBool, HL.ite_bool, if_true, if_false, Bool.false_eq_true, eX, ↓reduceIte, Nat.reduceEqDiff, Int.reduceToNat]
        refine hK _ _ ?_; clear hK K
        refine OW_nil ?_
        all_goals
          refine ⟨_, ⟨rfl, rfl, rfl, trivial⟩, ?_, rfl⟩
          intro ht
          first
          | (cases ht; done)
          | (exact ⟨hsh (by simpa using g19), by simpa using g24, by have := of_decide_eq_false ht; omega⟩)
  rintro e_ H_ ⟨t28, he, ht28, hH_⟩
  have hH_ := hH_.symm; subst hH_
  try simp only [Ex.thnH, Ex.inBlockH, ↓reduceIte, Nat.reduceEqDiff]
  refine hK5 _ _ ?_; try clear hK5 K5
  refine CW_env he.sub ?_; clear he e_
  refine CW_cond (fun r => rfl) (fun c28 => ?_) (fun c28 => ?_)
  · first
    | (exfalso; exact cnA c28; done)
    | skip
      skip
      refine CW_seq (fun K6 hK6 => ?_)
      refine CW_region ?_
      refine OW_as rfl ?_
      refine OW_nil ?_
      try simp only [Ex.thnH, Ex.inBlockH, ↓reduceIte, Nat.reduceEqDiff]
      refine hK6 _ _ ?_; try clear hK6 K6
      refine CW_ret ?_
      try simp only [Ex.thnH, Ex.inBlockH, ↓reduceIte, Nat.reduceEqDiff]
      exact ⟨[_], ⟨rfl, trivial⟩, H, lhA, rfl, Le.refl _⟩
  · first
    | (exfalso; exact cnA c28; done)
    | skip
      obtain ⟨hsh1, hgd, hgen1⟩ := ht28 (by simpa using c28)
      have hl41 := hsh1.1
      have hsh2 := hsh1.2
      have hml : m.hd.length ≤ 1000000 := by have := (Mf.good_iff.1 hgd).n; omega
      refine CW_skip ?_
      try simp only [Ex.thnH, Ex.inBlockH, ↓reduceIte, Nat.reduceEqDiff]
      refine hK4 _ _ ?_; try clear hK4 K4
      refine CW_seq (fun K7 hK7 => ?_)
      refine CW_region ?_
      refine OW_opS (fun K hK r => ?_)
      simp only [x_buildSlice, List.map_toArray, List.map_cons, List.map_nil, eX, ↓reduceIte, Nat.reduceEqDiff, Int.reduceToNat]
      refine Lt_buildSlice (vs := [_]) Try.underlying22 sz3 zr3 rfl bsA (by first | decide | (simp; done)) ?_
      simp only [List.flatMap_cons, List.flatMap_nil, Value.cells, List.append_nil, List.cons_append, List.nil_append, List.length_cons, List.length_nil, Nat.zero_add, Nat.reduceAdd]
      intro b30 hb30
      try have n30_b2 : b2 ≠ b30 := ne_of_none hbA hb30
      have f30_H : H b30 = none := none_of_le lhA hb30
      try simp only [eX, ↓reduceIte, Nat.reduceEqDiff, Int.reduceToNat]
      refine hK _ _ ?_; clear hK K
      refine OW_opS (fun K hK r => ?_)
      simp only [x_callF _ bd19, List.map_toArray, List.map_cons, List.map_nil, eX, ↓reduceIte, Nat.reduceEqDiff, Int.reduceToNat]
      refine (newL _ _ _ [3] ⟨rfl, .inr ⟨b30, 0, 1, _, _, _, rfl, hbA, by simp, by simp⟩⟩ rfl (by decide)).mono ?_
      rintro v31 H31 ⟨p, F31, rfl, hA31⟩
      have hO31 := hA31.old
      have k31_2 := hO31 b2 _ hbA
      have lH31 : Le H H31 := Le.trans lhA hO31
      have hs0 := Sm.new (l := [3]) (by decide)
      have hA31' : Stn H H31 F31 p (newSt [3]) := hA31.less lhA
      try simp only [eX, ↓reduceIte, Nat.reduceEqDiff, Int.reduceToNat]
      refine hK _ _ ?_; clear hK K
      refine OW_mv rfl ?_
      refine OW_opS (fun K hK r => ?_)
      simp only [x_extract, i_extract, List.getElem?_toArray, List.getElem?_cons_zero, List.getElem?_cons_succ, orF_some, eX, ↓reduceIte, Nat.reduceEqDiff, Int.reduceToNat]
      refine hK _ _ ?_; clear hK K
      refine OW_opS (fun K hK r => ?_)
      simp only [x_extract, i_extract, List.getElem?_toArray, List.getElem?_cons_zero, List.getElem?_cons_succ, orF_some, eX, ↓reduceIte, Nat.reduceEqDiff, Int.reduceToNat]
      refine hK _ _ ?_; clear hK K
      refine OW_as rfl ?_
      refine OW_as rfl ?_
      refine OW_nil ?_
      try simp only [Ex.thnH, Ex.inBlockH, ↓reduceIte, Nat.reduceEqDiff]
      refine hK7 _ _ ?_; try clear hK7 K7
      refine CW_seq (fun K8 hK8 => ?_)
      refine CW_seq (fun K9 hK9 => ?_)
      refine CW_region ?_
      refine OW_mv rfl ?_
      refine OW_opS (fun K hK r => ?_)
      simp only [x_bin, g_int, g_bool, g_string, g_pointer, g_slice, g_map, g_func, g_nilFunc, g_err, g_iface, g_nil_iface, g_nil_r, g_nil_l, eX, ↓reduceIte, Nat.reduceEqDiff, Int.reduceToNat]
      first | rw [b_err_neq _ _ Try.underlying32] | (rw [e_neq _ _ _ _ (by simp), q_equal]; first | rw [q_iface_nil _ _ _ Try.underlying32] | rw [q_nil_iface _ _ _ Try.underlying32] | rw [q_nil_nil _ _ _ Try.underlying32])
      try simp only [eX, ↓reduceIte, Nat.reduceEqDiff, Int.reduceToNat]
      refine hK _ _ ?_; clear hK K
      refine OW_mv rfl ?_
      (first | refine OW_split (d := 36) rfl (fun g36 => ?_) (fun g36 => ?_) | skip)
      all_goals try (exfalso; exact cnA g36)
      all_goals (try simp only [decide_eq_true_eq, decide_eq_false_iff_not, Bool.not_eq_true, Bool.not_eq_false, Bool.and_eq_true, Bool.or_eq_true, Bool.or_eq_false_iff, Bool.not_eq_true, Bool.not_eq_eq_eq_not, Bool.not_true, Bool.not_false] at g36)
      all_goals
        try simp only [eX, ↓reduceIte, Nat.reduceEqDiff, Int.reduceToNat]
        first
        | refine OW_guardT rfl (lt_some (by decide)) rfl (fun K hK r => ?_)
          simp only [x_move, eX, ↓reduceIte, Nat.reduceEqDiff, Int.reduceToNat]
          refine hK _ _ ?_; clear hK K
        | refine OW_guardF rfl (lt_some (by decide)) rfl ?_
          simp only [eX, ↓reduceIte, Nat.reduceEqDiff, Int.reduceToNat]
        first
        | refine OW_guardT rfl (lt_some (by decide)) rfl (fun K hK r => ?_)
          simp only [x_load, eX, ↓reduceIte, Nat.reduceEqDiff, Int.reduceToNat]
          first | refine Lt_loadAll Try.underlying24 rfl sz24 hbA bdA ?_ | refine Lt_loadAtA Try.underlying24 rfl sz24 hbA bdA ?_
          try simp only [List.extract_toArray, List.extract_eq_take_drop, Nat.zero_add, Nat.reduceAdd, Nat.reduceSub, Nat.sub_zero, List.drop_succ_cons, List.drop_zero, List.take_succ_cons, List.take_zero, List.take_nil, List.drop_nil]
          try simp only [eX, ↓reduceIte, Nat.reduceEqDiff, Int.reduceToNat]
          refine hK _ _ ?_; clear hK K
        | refine OW_guardF rfl (lt_some (by decide)) rfl ?_
          simp only [eX, ↓reduceIte, Nat.reduceEqDiff, Int.reduceToNat]
        first
        | refine OW_guardT rfl (lt_some (by decide)) rfl (fun K hK r => ?_)
          simp only [x_callF _ bd9, List.map_toArray, List.map_cons, List.map_nil, eX, ↓reduceIte, Nat.reduceEqDiff, Int.reduceToNat]
          refine (program_ok _ m ma mc (hm.le lH31) hml).mono ?_
          rintro v39 H39 ⟨l39, xa, xc, rs39, rfl, ho39, hr39⟩
          have lH39 : Le H H39 := Le.trans lH31 l39
          try simp only [eX, ↓reduceIte, Nat.reduceEqDiff, Int.reduceToNat]
          refine hK _ _ ?_; clear hK K
        | refine OW_guardF rfl (lt_some (by decide)) rfl ?_
          simp only [eX, ↓reduceIte, Nat.reduceEqDiff, Int.reduceToNat]
        first
        | refine OW_guardT rfl (lt_some (by decide)) rfl (fun K hK r => ?_)
          simp only [x_callF _ bd22, List.map_toArray, List.map_cons, List.map_nil, eX, ↓reduceIte, Nat.reduceEqDiff, Int.reduceToNat]
          refine (saveL (hA31.more l39) hs0 (by omega) m xa xc ho39.holds hml).mono ?_
          rintro v40 H40 ⟨rfl, F40, hS40x⟩
          have hok1 := Mf.good_iff.1 hgd
          obtain ⟨hkf1, hkf2⟩ := kept_first hok1
          rw [hkf1]
          have k40_2 := hS40x.old b2 _ hbA
          have hS40 : Stn H H40 F40 p ((newSt [3]).saveM m).1 := hS40x.less lhA
          have lH40 := hS40.old
          have hgo1 : ((newSt [3]).saveM m).1.gone = false := (Up.saveM (s := newSt [3]) (sz := 3) ⟨rfl, rfl, by decide, rfl⟩ (by omega) hok1).2.1.go
          try simp only [eX, ↓reduceIte, Nat.reduceEqDiff, Int.reduceToNat]
          refine hK _ _ ?_; clear hK K
        | refine OW_guardF rfl (lt_some (by decide)) rfl ?_
          simp only [eX, ↓reduceIte, Nat.reduceEqDiff, Int.reduceToNat]
        first
        | refine OW_guardT rfl (lt_some (by decide)) rfl (fun K hK r => ?_)
          simp only [x_bin, g_int, g_bool, g_string, g_pointer, g_slice, g_map, g_func, g_nilFunc, g_err, g_iface, g_nil_iface, g_nil_r, g_nil_l, eX, ↓reduceIte, Nat.reduceEqDiff, Int.reduceToNat]
          first | rw [b_err_neq _ _ Try.underlying32] | (rw [e_neq _ _ _ _ (by simp), q_equal]; first | rw [q_iface_nil _ _ _ Try.underlying32] | rw [q_nil_iface _ _ _ Try.underlying32] | rw [q_nil_nil _ _ _ Try.underlying32])
          try simp only [eX, ↓reduceIte, Nat.reduceEqDiff, Int.reduceToNat]
          refine hK _ _ ?_; clear hK K
        | refine OW_guardF rfl (lt_some (by decide)) rfl ?_
          simp only [eX, ↓reduceIte, Nat.reduceEqDiff, Int.reduceToNat]
        refine OW_opS (fun K hK r => ?_)
        simp only [x_pick, l_asBool, HL.ite_bool, if_true, if_false, Bool.false_eq_true, eX, ↓reduceIte, Nat.reduceEqDiff, Int.reduceToNat]
        refine hK _ _ ?_; clear hK K
        refine OW_nil ?_
        try simp only [Ex.thnH, Ex.inBlockH, ↓reduceIte, Nat.reduceEqDiff]
        refine hK9 _ _ ?_; try clear hK9 K9
        refine CW_cond (fun r => rfl) (fun c42 => ?_) (fun c42 => ?_)
        · exfalso; first | (exact cnA c42; done) | (simp at c42; done)
        refine CW_skip ?_
        try simp only [Ex.thnH, Ex.inBlockH, ↓reduceIte, Nat.reduceEqDiff]
        refine hK8 _ _ ?_; try clear hK8 K8
        refine CW_seq (fun K10 hK10 => ?_)
        refine CW_region ?_
        refine OW_opS (fun K hK r => ?_)
        simp only [x_load, eX, ↓reduceIte, Nat.reduceEqDiff, Int.reduceToNat]
        first | refine Lt_loadAll Try.underlying24 rfl sz24 hbA bdA ?_ | refine Lt_loadAtA Try.underlying24 rfl sz24 hbA bdA ?_
        try simp only [List.extract_toArray, List.extract_eq_take_drop, Nat.zero_add, Nat.reduceAdd, Nat.reduceSub, Nat.sub_zero, List.drop_succ_cons, List.drop_zero, List.take_succ_cons, List.take_zero, List.take_nil, List.drop_nil]
        try simp only [eX, ↓reduceIte, Nat.reduceEqDiff, Int.reduceToNat]
        refine hK _ _ ?_; clear hK K
        refine OW_opS (fun K hK r => ?_)
        simp only [x_alloc, zr24, orF_some, Value.cells, eX, ↓reduceIte, Nat.reduceEqDiff, Int.reduceToNat]
        intro b7 hb7
        try have n7_b2 : b2 ≠ b7 := ne_of_none hbA hb7
        try have n7_b30 : b30 ≠ b7 := ne_of_none hbA hb7
        have f7_H : H b7 = none := none_of_le lhA hb7
        try simp only [eX, ↓reduceIte, Nat.reduceEqDiff, Int.reduceToNat]
        refine hK _ _ ?_; clear hK K
        refine OW_op rfl (lt_none) (fun K hK r => ?_)
        simp only [x_store, eX, ↓reduceIte, Nat.reduceEqDiff, Int.reduceToNat]
        first | refine Lt_storeAll sz24 bdA hbA bdA plA (by decide) ?_ | refine Lt_storeAtA sz24 bdA hbA bdA plA (by decide) ?_
        try simp only [eX, ↓reduceIte, Nat.reduceEqDiff, Int.reduceToNat]
        refine hK _ _ ?_; clear hK K
        refine OW_nil ?_
        try simp only [Ex.thnH, Ex.inBlockH, ↓reduceIte, Nat.reduceEqDiff]
        refine hK10 _ _ ?_; try clear hK10 K10
        refine CW_seq (fun K11 hK11 => ?_)
        refine CW_seq (fun K12 hK12 => ?_)
        refine CW_region ?_
        refine OW_mv rfl ?_
        refine OW_opS (fun K hK r => ?_)
        simp only [x_builtin, l_len, List.map_toArray, List.map_cons, List.map_nil, i_len_slice _ _ Try.underlying45, eX, ↓reduceIte, Nat.reduceEqDiff, Int.reduceToNat]
        refine hK _ _ ?_; clear hK K
        refine OW_mv rfl ?_
        refine OW_nil ?_
        try simp only [Ex.thnH, Ex.inBlockH, ↓reduceIte, Nat.reduceEqDiff]
        refine hK12 _ _ ?_; try clear hK12 K12
        refine CW_block ?_
        refine CW_loop (fun m_ e H_ => ∃ (k : Nat) (F : Hp) (s : St) (now : Mf) (na : Option Addr) (nc : Nat), k ≤ l.length ∧ m_ = l.length - k ∧ KB H H_ F p s b7 now na nc ∧ Kept s now ∧ s.gone = false ∧ Sm (k + 1) s ∧ BS s ∧ now.Ok ∧ Holds H 1 (.slice na now.hd.length nc) now.hd.length (i64s now.hd) ∧ Env.has [(5, .pointer (some ⟨p, 0, none⟩)), (7, .pointer (some ⟨b7, 0, none⟩)), (44, .slice a l.length cap), (45, .int .i64 l.length), (46, .int .i64 k)] e) (l.length) ?_ ?_
        · skip
          exact ⟨0, F40, _, m, ma, mc, by omega, by omega, ⟨hS40.more (le_upd _ _ _ hb7), upd_same _ _ _, hS40.fresh hb7, none_of_le hS40.old hb7⟩, hkf2, hgo1, hs0.saveM m, (BS.newL [3]).saveM m, hok1, hm, rfl, rfl, rfl, rfl, rfl, trivial⟩
        intro m_ e_ H_ hI_
        obtain ⟨k, F, s, now, na, nc, hk, rfl, hKB, hKp, hgo, hSm, hBS, hnok, hnH, he⟩ := hI_
        refine CW_env he.sub ?_; clear he e_
        have hHH := hKB.st.old
        have kb7 := hKB.box
        have f7 := hKB.f
        refine CW_seq (fun K13 hK13 => ?_)
        refine CW_region ?_
        refine OW_opS (fun K hK r => ?_)
        simp (disch := (first | omega | decide)) only [x_bin, g_int, b_lss, dec_lt_t, dec_lt_f, dec_le_t, dec_le_f, dec_eq_t, dec_eq_f, Bool.not_true, Bool.not_false, eX, ↓reduceIte, Nat.reduceEqDiff, Int.reduceToNat]
        refine hK _ _ ?_; clear hK K
        refine OW_nil ?_
        try simp only [Ex.thnH, Ex.inBlockH, ↓reduceIte, Nat.reduceEqDiff]
        refine hK13 _ _ ?_; try clear hK13 K13
        refine CW_seq (fun K14 hK14 => ?_)
        refine CW_cond (fun r => rfl) (fun c47 => ?_) (fun c47 => ?_)
        · first
          | (exfalso; exact cnA c47; done)
          | skip
            (try simp only [decide_eq_true_eq, decide_eq_false_iff_not, Bool.not_eq_true, Bool.not_eq_false, Bool.and_eq_true, Bool.or_eq_true, Bool.or_eq_false_iff, Bool.not_eq_true, Bool.not_eq_eq_eq_not, Bool.not_true, Bool.not_false] at c47)
            obtain ⟨bw, ow, cw, Tw, Fw, ew, hbw, hsw, atw⟩ := (hv.le hHH).at (by omega)
            have mo := Nat.mul_le_mul_right 73 (show k + 1 ≤ l.length by omega)
            have hmem : (l.getD k default) ∈ l := op15_mem (by omega)
            have hok := ho _ hmem
            have hsk := hsh2 k (by omega)
            have hng := hnok.g
            refine CW_skip ?_
            try simp only [Ex.thnH, Ex.inBlockH, ↓reduceIte, Nat.reduceEqDiff]
            refine hK14 _ _ ?_; try clear hK14 K14
            refine CW_cut (fun e H_ => ∃ (F : Hp) (s : St) (now : Mf) (na : Option Addr) (nc : Nat), KB H H_ F p s b7 now na nc ∧ Kept s now ∧ s.gone = false ∧ Sm (k + 1 + 1) s ∧ BS s ∧ now.Ok ∧ Holds H 1 (.slice na now.hd.length nc) now.hd.length (i64s now.hd) ∧ Env.has [(5, .pointer (some ⟨p, 0, none⟩)), (7, .pointer (some ⟨b7, 0, none⟩)), (44, .slice a l.length cap), (45, .int .i64 l.length), (46, .int .i64 k)] e) ?_ ?_
            · skip
              refine CW_block ?_
              refine CW_seq (fun K15 hK15 => ?_)
              refine CW_region ?_
              refine OW_opS (fun K hK r => ?_)
              simp only [x_indexAddr, eX, ↓reduceIte, Nat.reduceEqDiff, Int.reduceToNat]
              refine Lt_indexSof Try.underlying45 sz58 ew ixA ixA ?_
              try simp only [Int.toNat_natCast]
              refine hK _ _ ?_; clear hK K
              refine OW_opS (fun K hK r => ?_)
              simp only [x_load, eX, ↓reduceIte, Nat.reduceEqDiff, Int.reduceToNat]
              refine Lt_loadAtA Try.underlying58 rfl sz58 hbw (by omega) ?_
              rw [ext_at Op15.len atw rfl k (by omega) hsw]
              refine hK _ _ ?_; clear hK K
              refine OW_opS (fun K hK r => ?_)
              simp only [x_alloc, zr58, orF_some, Value.cells, eX, ↓reduceIte, Nat.reduceEqDiff, Int.reduceToNat]
              intro b9 hb9
              try have n9_b2 : b2 ≠ b9 := ne_of_none hbA hb9
              try have n9_b30 : b30 ≠ b9 := ne_of_none hbA hb9
              try have n9_b7 : b7 ≠ b9 := ne_of_none hbA hb9
              have f9_H : H b9 = none := none_of_le lhA hb9
              try simp only [eX, ↓reduceIte, Nat.reduceEqDiff, Int.reduceToNat]
              refine hK _ _ ?_; clear hK K
              refine OW_op rfl (lt_none) (fun K hK r => ?_)
              simp only [x_store, eX, ↓reduceIte, Nat.reduceEqDiff, Int.reduceToNat]
              refine Lt_storeAll sz58 (by rw [List.size_toArray, Op15.len]) hbA (by simp [Sec.h]) (Op15.plain _) (by decide) ?_
              try simp only [upd_upd]
              refine hK _ _ ?_; clear hK K
              refine OW_nil ?_
              try simp only [Ex.thnH, Ex.inBlockH, ↓reduceIte, Nat.reduceEqDiff]
              refine hK15 _ _ ?_; try clear hK15 K15
              refine CW_seq (fun K16 hK16 => ?_)
              refine CW_region ?_
              refine OW_opS (fun K hK r => ?_)
              simp only [x_fieldAddr, fa58_2, add_mk, Nat.reduceAdd, Nat.zero_add, eX, ↓reduceIte, Nat.reduceEqDiff, Int.reduceToNat]
              refine hK _ _ ?_; clear hK K
              refine OW_opS (fun K hK r => ?_)
              simp only [x_load, eX, ↓reduceIte, Nat.reduceEqDiff, Int.reduceToNat]
              refine Lt_loadAtA Try.underlying24 rfl sz24 hbA (by rw [List.size_toArray, Op15.len]; omega) ?_
              rw [Op15.man]
              refine hK _ _ ?_; clear hK K
              refine OW_opS (fun K hK r => ?_)
              simp only [x_alloc, zr24, orF_some, Value.cells, eX, ↓reduceIte, Nat.reduceEqDiff, Int.reduceToNat]
              intro b10 hb10
              try have n10_b2 : b2 ≠ b10 := ne_of_none hbA hb10
              try have n10_b30 : b30 ≠ b10 := ne_of_none hbA hb10
              try have n10_b7 : b7 ≠ b10 := ne_of_none hbA hb10
              try have n10_b9 : b9 ≠ b10 := ne_of_none hbA hb10
              have f10_H : H b10 = none := none_of_le lhA hb10
              try simp only [eX, ↓reduceIte, Nat.reduceEqDiff, Int.reduceToNat]
              refine hK _ _ ?_; clear hK K
              refine OW_op rfl (lt_none) (fun K hK r => ?_)
              simp only [x_store, eX, ↓reduceIte, Nat.reduceEqDiff, Int.reduceToNat]
              first | refine Lt_storeAll sz24 bdA hbA bdA plA (by decide) ?_ | refine Lt_storeAtA sz24 bdA hbA bdA plA (by decide) ?_
              try simp only [eX, ↓reduceIte, Nat.reduceEqDiff, Int.reduceToNat]
              refine hK _ _ ?_; clear hK K
              refine OW_nil ?_
              try simp only [Ex.thnH, Ex.inBlockH, ↓reduceIte, Nat.reduceEqDiff]
              refine hK16 _ _ ?_; try clear hK16 K16
              refine CW_seq (fun K17 hK17 => ?_)
              refine CW_region ?_
              refine OW_opS (fun K hK r => ?_)
              simp only [x_fieldAddr, fa24_0, add_mk, Nat.reduceAdd, Nat.zero_add, eX, ↓reduceIte, Nat.reduceEqDiff, Int.reduceToNat]
              refine hK _ _ ?_; clear hK K
              refine OW_opS (fun K hK r => ?_)
              simp only [x_load, eX, ↓reduceIte, Nat.reduceEqDiff, Int.reduceToNat]
              refine Lt_loadAt1 Try.underlying3 rfl hbA ldA ?_
              try simp only [eX, ↓reduceIte, Nat.reduceEqDiff, Int.reduceToNat]
              refine hK _ _ ?_; clear hK K
              refine OW_opS (fun K hK r => ?_)
              simp (disch := (first | omega | decide)) only [x_bin, g_int, b_add, wrap_i64, wrap_u64, wrap_u32, wrap_u8, eX, ↓reduceIte, Nat.reduceEqDiff, Int.reduceToNat]
              refine hK _ _ ?_; clear hK K
              refine OW_opS (fun K hK r => ?_)
              simp only [x_fieldAddr, fa24_0, add_mk, Nat.reduceAdd, Nat.zero_add, eX, ↓reduceIte, Nat.reduceEqDiff, Int.reduceToNat]
              refine hK _ _ ?_; clear hK K
              refine OW_op rfl (lt_none) (fun K hK r => ?_)
              simp only [x_store, eX, ↓reduceIte, Nat.reduceEqDiff, Int.reduceToNat]
              refine Lt_storeAt1 sz3 hbA bdA plA fzA ?_
              try simp only [setL0, setL1, setL2, setL3, setL4, setL5, setL6, setL7, setL8, setL9]
              try simp only [eX, ↓reduceIte, Nat.reduceEqDiff, Int.reduceToNat]
              refine hK _ _ ?_; clear hK K
              refine OW_nil ?_
              try simp only [Ex.thnH, Ex.inBlockH, ↓reduceIte, Nat.reduceEqDiff]
              refine hK17 _ _ ?_; try clear hK17 K17
              refine CW_seq (fun K18 hK18 => ?_)
              refine CW_seq (fun K19 hK19 => ?_)
              refine CW_region ?_
              refine OW_opS (fun K hK r => ?_)
              simp only [x_load, eX, ↓reduceIte, Nat.reduceEqDiff, Int.reduceToNat]
              first | refine Lt_loadAll Try.underlying24 rfl sz24 hbA bdA ?_ | refine Lt_loadAtA Try.underlying24 rfl sz24 hbA bdA ?_
              try simp only [List.extract_toArray, List.extract_eq_take_drop, Nat.zero_add, Nat.reduceAdd, Nat.reduceSub, Nat.sub_zero, List.drop_succ_cons, List.drop_zero, List.take_succ_cons, List.take_zero, List.take_nil, List.drop_nil]
              try simp only [eX, ↓reduceIte, Nat.reduceEqDiff, Int.reduceToNat]
              refine hK _ _ ?_; clear hK K
              refine OW_opS (fun K hK r => ?_)
              simp only [x_callF _ bd11, List.map_toArray, List.map_cons, List.map_nil, eX, ↓reduceIte, Nat.reduceEqDiff, Int.reduceToNat]
              have hKB10 := (hKB.alloc hb9 (.cells (l.getD k default).c.toArray 58)).alloc hb10 (.cells #[.int .i64 (now.gen + 1), .int .i64 (l.getD k default).m.ep, .int .i64 (l.getD k default).m.ba, .int .i64 (l.getD k default).m.ar, .int .i64 (l.getD k default).m.ln, .slice (l.getD k default).ma (l.getD k default).m.hd.length (l.getD k default).mc] 24)
              obtain ⟨Q9, hQ9⟩ : ∃ Q : Hp, Q = (H.upd b9 (.cells (l.getD k default).c.toArray 58)).upd b10 (.cells #[.int .i64 (now.gen + 1), .int .i64 (l.getD k default).m.ep, .int .i64 (l.getD k default).m.ba, .int .i64 (l.getD k default).m.ar, .int .i64 (l.getD k default).m.ln, .slice (l.getD k default).ma (l.getD k default).m.hd.length (l.getD k default).mc] 24) := ⟨_, rfl⟩
              rw [← hQ9] at hKB10
              have n910 : b9 ≠ b10 := ne_of_none (upd_same _ _ _) hb10
              have q9_9 : Q9 b9 = some (.cells (l.getD k default).c.toArray 58) := by rw [hQ9, upd_ne _ _ n910]; exact upd_same _ _ _
              have q9_10 : Q9 b10 = some (.cells #[.int .i64 (now.gen + 1), .int .i64 (l.getD k default).m.ep, .int .i64 (l.getD k default).m.ba, .int .i64 (l.getD k default).m.ar, .int .i64 (l.getD k default).m.ln, .slice (l.getD k default).ma (l.getD k default).m.hd.length (l.getD k default).mc] 24) := by rw [hQ9]; exact upd_same _ _ _
              have q9_7 : Q9 b7 = none := hKB10.q
              have lHQ9 : Le H Q9 := by rw [hQ9]; exact le_upd_of (le_upd _ _ _ (none_of_le hHH hb9)) (none_of_le (Le.trans hHH (le_upd _ _ _ hb9)) hb10)
              have lH10 := Le.trans lHQ9 hKB10.st.old
              have n79 : b7 ≠ b9 := fun e => by rw [e, q9_9] at q9_7; cases q9_7
              have n710 : b7 ≠ b10 := fun e => by rw [e, q9_10] at q9_7; cases q9_7
              refine (rGood_ok _ (Mf.mk (now.gen + 1) (l.getD k default).m.ep (l.getD k default).m.ba (l.getD k default).m.ar (l.getD k default).m.ln (l.getD k default).m.hd) (l.getD k default).ma (l.getD k default).mc (hok.hm.le lH10) (by show (l.getD k default).m.hd.length ≤ _; omega)).mono ?_
              rintro v57 H' ⟨rfl, hq⟩
              have hq := hq.symm
              subst hq
              try simp only [eX, ↓reduceIte, Nat.reduceEqDiff, Int.reduceToNat]
              refine hK _ _ ?_; clear hK K
              refine OW_opS (fun K hK r => ?_)
              simp only [x_un, u_not, eX, ↓reduceIte, Nat.reduceEqDiff, Int.reduceToNat]
              refine hK _ _ ?_; clear hK K
              refine OW_nil ?_
              try simp only [Ex.thnH, Ex.inBlockH, ↓reduceIte, Nat.reduceEqDiff]
              refine hK19 _ _ ?_; try clear hK19 K19
              refine CW_cond (fun r => rfl) (fun c58 => ?_) (fun c58 => ?_)
              · first
                | (exfalso; exact cnA c58; done)
                | skip
                  skip
                  refine CW_exit ?_
                  try simp only [Ex.thnH, Ex.inBlockH, ↓reduceIte, Nat.reduceEqDiff]
                  first
                  | exact ⟨F, s, now, na, nc, hKB10.less lHQ9, hKp, hgo, hSm.up (by omega), hBS, hnok, hnH, rfl, rfl, rfl, rfl, rfl, trivial⟩
                  | (subst hwn; exact ⟨_, _, _, (l.getD k default).ma, (l.getD k default).mc, ((hKB100.more (le_upd _ _ _ hb13)).put (Mf.mk (now.gen + 1) (l.getD k default).m.ep (l.getD k default).m.ba (l.getD k default).m.ar (l.getD k default).m.ln (l.getD k default).m.hd) (l.getD k default).ma (l.getD k default).mc).less lHQ9, hKw, rfl, hSmc.up (by omega), hBSc, hnxok, hok.hm, rfl, rfl, rfl, rfl, rfl, trivial⟩)
                  | (subst hwo; exact ⟨_, _, _, nwa, nwc, (hKB100.more (le_upd _ _ _ hb13)).less lHQ9, hKw, rfl, hSmc.up (by omega), hBSc, hnwok, hnwH, rfl, rfl, rfl, rfl, rfl, trivial⟩)
              · first
                | (exfalso; exact cnA c58; done)
                | skip
                  have hnxgd : ((Mf.mk (now.gen + 1) (l.getD k default).m.ep (l.getD k default).m.ba (l.getD k default).m.ar (l.getD k default).m.ln (l.getD k default).m.hd)).good = true := by simpa using c58
                  have hnxok := Mf.good_iff.1 hnxgd
                  refine CW_skip ?_
                  try simp only [Ex.thnH, Ex.inBlockH, ↓reduceIte, Nat.reduceEqDiff]
                  refine hK18 _ _ ?_; try clear hK18 K18
                  refine CW_seq (fun K20 hK20 => ?_)
                  refine CW_seq (fun K21 hK21 => ?_)
                  refine CW_region_cut (fun e H_ => ∃ (F1 : Hp) (s1 : St), KB Q9 H_ F1 p s1 b7 now na nc ∧ s1.dv = s.dv ∧ s1.gone = s.gone ∧ Env.has [(5, .pointer (some ⟨p, 0, none⟩)), (7, .pointer (some ⟨b7, 0, none⟩)), (44, .slice a l.length cap), (45, .int .i64 l.length), (46, .int .i64 k), (9, .pointer (some ⟨b9, 0, none⟩)), (10, .pointer (some ⟨b10, 0, none⟩)), (68, .bool false)] e) ?_ ?_
                  · skip
                    refine OW_opS (fun K hK r => ?_)
                    simp only [x_fieldAddr, fa58_1, add_mk, Nat.reduceAdd, Nat.zero_add, eX, ↓reduceIte, Nat.reduceEqDiff, Int.reduceToNat]
                    refine hK _ _ ?_; clear hK K
                    refine OW_opS (fun K hK r => ?_)
                    simp only [x_load, eX, ↓reduceIte, Nat.reduceEqDiff, Int.reduceToNat]
                    refine Lt_loadAt1 Try.underlying3 rfl hbA ldA ?_
                    try simp only [eX, ↓reduceIte, Nat.reduceEqDiff, Int.reduceToNat]
                    refine hK _ _ ?_; clear hK K
                    refine OW_opS (fun K hK r => ?_)
                    simp (disch := (first | omega | decide)) only [x_bin, g_int, b_geq, dec_lt_t, dec_lt_f, dec_le_t, dec_le_f, dec_eq_t, dec_eq_f, Bool.not_true, Bool.not_false, eX, ↓reduceIte, Nat.reduceEqDiff, Int.reduceToNat]
                    refine hK _ _ ?_; clear hK K
                    refine OW_mv rfl ?_
                    (first | refine OW_split (d := 62) rfl (fun g62 => ?_) (fun g62 => ?_) | skip)
                    all_goals try (exfalso; exact cnA g62)
                    all_goals (try simp only [decide_eq_true_eq, decide_eq_false_iff_not, Bool.not_eq_true, Bool.not_eq_false, Bool.and_eq_true, Bool.or_eq_true, Bool.or_eq_false_iff, Bool.not_eq_true, Bool.not_eq_eq_eq_not, Bool.not_true, Bool.not_false] at g62)
                    all_goals
                      try simp only [eX, ↓reduceIte, Nat.reduceEqDiff, Int.reduceToNat]
                      first
                      | refine OW_guardT rfl (lt_some (by decide)) rfl (fun K hK r => ?_)
                        simp only [x_move, eX, ↓reduceIte, Nat.reduceEqDiff, Int.reduceToNat]
                        refine hK _ _ ?_; clear hK K
                      | refine OW_guardF rfl (lt_some (by decide)) rfl ?_
                        simp only [eX, ↓reduceIte, Nat.reduceEqDiff, Int.reduceToNat]
                      first
                      | refine OW_guardT rfl (lt_some (by decide)) rfl (fun K hK r => ?_)
                        simp only [x_fieldAddr, fa58_1, add_mk, Nat.reduceAdd, Nat.zero_add, eX, ↓reduceIte, Nat.reduceEqDiff, Int.reduceToNat]
                        refine hK _ _ ?_; clear hK K
                      | refine OW_guardF rfl (lt_some (by decide)) rfl ?_
                        simp only [eX, ↓reduceIte, Nat.reduceEqDiff, Int.reduceToNat]
                      first
                      | refine OW_guardT rfl (lt_some (by decide)) rfl (fun K hK r => ?_)
                        simp only [x_load, eX, ↓reduceIte, Nat.reduceEqDiff, Int.reduceToNat]
                        refine Lt_loadAt1 Try.underlying3 rfl hbA ldA ?_
                        try simp only [eX, ↓reduceIte, Nat.reduceEqDiff, Int.reduceToNat]
                        refine hK _ _ ?_; clear hK K
                      | refine OW_guardF rfl (lt_some (by decide)) rfl ?_
                        simp only [eX, ↓reduceIte, Nat.reduceEqDiff, Int.reduceToNat]
                      first
                      | refine OW_guardT rfl (lt_some (by decide)) rfl (fun K hK r => ?_)
                        simp only [x_callF _ bd29, List.map_toArray, List.map_cons, List.map_nil, eX, ↓reduceIte, Nat.reduceEqDiff, Int.reduceToNat]
                        refine (armL hKB10.full (l.getD k default).n).mono ?_
                        rintro v66 H66 ⟨rfl, F66, hS66⟩
                        rw [if_neg (show ¬ (l.getD k default).n < 0 by omega)] at hS66 ⊢
                        try simp only [eX, ↓reduceIte, Nat.reduceEqDiff, Int.reduceToNat]
                        refine hK _ _ ?_; clear hK K
                      | refine OW_guardF rfl (lt_some (by decide)) rfl ?_
                        simp only [eX, ↓reduceIte, Nat.reduceEqDiff, Int.reduceToNat]
                      first
                      | refine OW_guardT rfl (lt_some (by decide)) rfl (fun K hK r => ?_)
                        simp only [x_bin, g_int, g_bool, g_string, g_pointer, g_slice, g_map, g_func, g_nilFunc, g_err, g_iface, g_nil_iface, g_nil_r, g_nil_l, eX, ↓reduceIte, Nat.reduceEqDiff, Int.reduceToNat]
                        first | rw [b_err_neq _ _ Try.underlying32] | (rw [e_neq _ _ _ _ (by simp), q_equal]; first | rw [q_iface_nil _ _ _ Try.underlying32] | rw [q_nil_iface _ _ _ Try.underlying32] | rw [q_nil_nil _ _ _ Try.underlying32])
                        try simp only [eX, ↓reduceIte, Nat.reduceEqDiff, Int.reduceToNat]
                        refine hK _ _ ?_; clear hK K
                      | refine OW_guardF rfl (lt_some (by decide)) rfl ?_
                        simp only [eX, ↓reduceIte, Nat.reduceEqDiff, Int.reduceToNat]
                      refine OW_opS (fun K hK r => ?_)
                      simp only [x_pick, l_asBool, HL.ite_bool, if_true, if_false, Bool.false_eq_true, eX, ↓reduceIte, Nat.reduceEqDiff, Int.reduceToNat]
                      refine hK _ _ ?_; clear hK K
                      refine OW_nil ?_
                      all_goals
                        first
                        | exact ⟨F66, _, KB.of q9_7 (Le.refl _) hS66, rfl, rfl, rfl, rfl, rfl, rfl, rfl, rfl, rfl, rfl, trivial⟩
                        | exact ⟨F, s, hKB10, rfl, rfl, rfl, rfl, rfl, rfl, rfl, rfl, rfl, rfl, trivial⟩
                  rintro e_ H15 ⟨F1, s1, hKB15, hdv1, hgo1, he⟩
                  have hSm1 := hSm.of_dv hdv1
                  have hBS1 := hBS.congr hdv1
                  have hKp1 := hKp.congr hdv1
                  have lH15 := Le.trans lHQ9 hKB15.st.old
                  have k15_10 := hKB15.st.old b10 _ q9_10
                  have k15_9 := hKB15.st.old b9 _ q9_9
                  have k15_7 := hKB15.box
                  try simp only [Ex.thnH, Ex.inBlockH, ↓reduceIte, Nat.reduceEqDiff]
                  refine hK21 _ _ ?_; try clear hK21 K21
                  refine CW_env he.sub ?_; clear he e_
                  refine CW_cond (fun r => rfl) (fun c68 => ?_) (fun c68 => ?_)
                  · exfalso; exact cnA c68
                  refine CW_skip ?_
                  try simp only [Ex.thnH, Ex.inBlockH, ↓reduceIte, Nat.reduceEqDiff]
                  refine hK20 _ _ ?_; try clear hK20 K20
                  refine CW_seq (fun K22 hK22 => ?_)
                  refine CW_seq (fun K23 hK23 => ?_)
                  refine CW_region ?_
                  refine OW_mv rfl ?_
                  refine OW_opS (fun K hK r => ?_)
                  simp only [x_load, eX, ↓reduceIte, Nat.reduceEqDiff, Int.reduceToNat]
                  first | refine Lt_loadAll Try.underlying24 rfl sz24 hbA bdA ?_ | refine Lt_loadAtA Try.underlying24 rfl sz24 hbA bdA ?_
                  try simp only [List.extract_toArray, List.extract_eq_take_drop, Nat.zero_add, Nat.reduceAdd, Nat.reduceSub, Nat.sub_zero, List.drop_succ_cons, List.drop_zero, List.take_succ_cons, List.take_zero, List.take_nil, List.drop_nil]
                  try simp only [eX, ↓reduceIte, Nat.reduceEqDiff, Int.reduceToNat]
                  refine hK _ _ ?_; clear hK K
                  refine OW_opS (fun K hK r => ?_)
                  simp only [x_callF _ bd9, List.map_toArray, List.map_cons, List.map_nil, eX, ↓reduceIte, Nat.reduceEqDiff, Int.reduceToNat]
                  refine (program_ok _ (Mf.mk (now.gen + 1) (l.getD k default).m.ep (l.getD k default).m.ba (l.getD k default).m.ar (l.getD k default).m.ln (l.getD k default).m.hd) (l.getD k default).ma (l.getD k default).mc (hok.hm.le lH15) (by show (l.getD k default).m.hd.length ≤ _; omega)).mono ?_
                  rintro v71 H71 ⟨l71, xa1, xc1, rs71, rfl, ho71, hr71⟩
                  try simp only [eX, ↓reduceIte, Nat.reduceEqDiff, Int.reduceToNat]
                  refine hK _ _ ?_; clear hK K
                  refine OW_opS (fun K hK r => ?_)
                  simp only [x_callF _ bd22, List.map_toArray, List.map_cons, List.map_nil, eX, ↓reduceIte, Nat.reduceEqDiff, Int.reduceToNat]
                  refine (saveL (hKB15.more l71).full hSm1 (by omega) (Mf.mk (now.gen + 1) (l.getD k default).m.ep (l.getD k default).m.ba (l.getD k default).m.ar (l.getD k default).m.ln (l.getD k default).m.hd) xa1 xc1 ho71.holds (by show (l.getD k default).m.hd.length ≤ _; omega)).mono ?_
                  rintro v72 H72 ⟨rfl, F72, hS72⟩
                  have hSm2 := hSm1.saveM (Mf.mk (now.gen + 1) (l.getD k default).m.ep (l.getD k default).m.ba (l.getD k default).m.ar (l.getD k default).m.ln (l.getD k default).m.hd)
                  have hBS2 := hBS1.saveM (Mf.mk (now.gen + 1) (l.getD k default).m.ep (l.getD k default).m.ba (l.getD k default).m.ar (l.getD k default).m.ln (l.getD k default).m.hd)
                  obtain ⟨hr1, hr2⟩ := kept_round hKp1 hBS1 hnok hnxok rfl
                  have hKB72 : KB Q9 H72 F72 p (s1.saveM (Mf.mk (now.gen + 1) (l.getD k default).m.ep (l.getD k default).m.ba (l.getD k default).m.ar (l.getD k default).m.ln (l.getD k default).m.hd)).1 b7 now na nc := KB.of q9_7 (Le.refl _) hS72
                  have k72_10 := hKB72.st.old b10 _ q9_10
                  have k72_9 := hKB72.st.old b9 _ q9_9
                  have k72_7 := hKB72.box
                  have lH72 := Le.trans lHQ9 hKB72.st.old
                  try simp only [eX, ↓reduceIte, Nat.reduceEqDiff, Int.reduceToNat]
                  refine hK _ _ ?_; clear hK K
                  refine OW_opS (fun K hK r => ?_)
                  simp only [x_bin, g_int, g_bool, g_string, g_pointer, g_slice, g_map, g_func, g_nilFunc, g_err, g_iface, g_nil_iface, g_nil_r, g_nil_l, eX, ↓reduceIte, Nat.reduceEqDiff, Int.reduceToNat]
                  first | rw [b_err_eql _ _ Try.underlying32] | (rw [e_eql _ _ _ _ (by simp), q_equal]; first | rw [q_iface_nil _ _ _ Try.underlying32] | rw [q_nil_iface _ _ _ Try.underlying32] | rw [q_nil_nil _ _ _ Try.underlying32])
                  try simp only [eX, ↓reduceIte, Nat.reduceEqDiff, Int.reduceToNat]
                  refine hK _ _ ?_; clear hK K
                  refine OW_nil ?_
                  try simp only [Ex.thnH, Ex.inBlockH, ↓reduceIte, Nat.reduceEqDiff]
                  refine hK23 _ _ ?_; try clear hK23 K23
                  refine CW_cond (fun r => rfl) (fun c73 => ?_) (fun c73 => ?_)
                  · first
                    | (exfalso; exact cnA c73; done)
                    | skip
                      have hsv : (s1.saveM (Mf.mk (now.gen + 1) (l.getD k default).m.ep (l.getD k default).m.ba (l.getD k default).m.ar (l.getD k default).m.ln (l.getD k default).m.hd)).2 = none := Option.isNone_iff_eq_none.1 c73
                      refine CW_seq (fun K24 hK24 => ?_)
                      refine CW_region ?_
                      refine OW_opS (fun K hK r => ?_)
                      simp only [x_load, eX, ↓reduceIte, Nat.reduceEqDiff, Int.reduceToNat]
                      first | refine Lt_loadAll Try.underlying24 rfl sz24 hbA bdA ?_ | refine Lt_loadAtA Try.underlying24 rfl sz24 hbA bdA ?_
                      try simp only [List.extract_toArray, List.extract_eq_take_drop, Nat.zero_add, Nat.reduceAdd, Nat.reduceSub, Nat.sub_zero, List.drop_succ_cons, List.drop_zero, List.take_succ_cons, List.take_zero, List.take_nil, List.drop_nil]
                      try simp only [eX, ↓reduceIte, Nat.reduceEqDiff, Int.reduceToNat]
                      refine hK _ _ ?_; clear hK K
                      refine OW_op rfl (lt_none) (fun K hK r => ?_)
                      simp only [x_store, eX, ↓reduceIte, Nat.reduceEqDiff, Int.reduceToNat]
                      first | refine Lt_storeAll sz24 bdA hbA bdA plA (by decide) ?_ | refine Lt_storeAtA sz24 bdA hbA bdA plA (by decide) ?_
                      try simp only [eX, ↓reduceIte, Nat.reduceEqDiff, Int.reduceToNat]
                      refine hK _ _ ?_; clear hK K
                      refine OW_nil ?_
                      try simp only [Ex.thnH, Ex.inBlockH, ↓reduceIte, Nat.reduceEqDiff]
                      refine hK24 _ _ ?_; try clear hK24 K24
                      refine CW_seq (fun K25 hK25 => ?_)
                      refine CW_region ?_
                      refine OW_mv rfl ?_
                      refine OW_opS (fun K hK r => ?_)
                      simp only [x_callF _ bd30, List.map_toArray, List.map_cons, List.map_nil, eX, ↓reduceIte, Nat.reduceEqDiff, Int.reduceToNat]
                      have hKn := hKB72.put (Mf.mk (now.gen + 1) (l.getD k default).m.ep (l.getD k default).m.ba (l.getD k default).m.ar (l.getD k default).m.ln (l.getD k default).m.hd) (l.getD k default).ma (l.getD k default).mc
                      refine (loadL hKn.st hSm2 (by omega) (fun j hj => hBS2.rd _)).mono ?_
                      rintro v77 H77 ⟨l77, x77, rs77, rfl, ho77, hr77⟩
                      obtain ⟨ya, yc, rfl⟩ := ho77.holds.form
                      have hKB77 := hKn.more l77
                      have k77_10 := hKB77.st.old b10 _ q9_10
                      have k77_9 := hKB77.st.old b9 _ q9_9
                      have k77_7 := hKB77.box
                      have hh77 := ho77.holds
                      have lH77 := Le.trans lHQ9 hKB77.st.old
                      try simp only [eX, ↓reduceIte, Nat.reduceEqDiff, Int.reduceToNat]
                      refine hK _ _ ?_; clear hK K
                      refine OW_mv rfl ?_
                      refine OW_opS (fun K hK r => ?_)
                      simp only [x_extract, i_extract, List.getElem?_toArray, List.getElem?_cons_zero, List.getElem?_cons_succ, orF_some, eX, ↓reduceIte, Nat.reduceEqDiff, Int.reduceToNat]
                      refine hK _ _ ?_; clear hK K
                      refine OW_opS (fun K hK r => ?_)
                      simp only [x_extract, i_extract, List.getElem?_toArray, List.getElem?_cons_zero, List.getElem?_cons_succ, orF_some, eX, ↓reduceIte, Nat.reduceEqDiff, Int.reduceToNat]
                      refine hK _ _ ?_; clear hK K
                      refine OW_opS (fun K hK r => ?_)
                      simp only [x_alloc, zr27, orF_some, Value.cells, eX, ↓reduceIte, Nat.reduceEqDiff, Int.reduceToNat]
                      intro b11 hb11
                      try have n11_b2 : b2 ≠ b11 := ne_of_none hbA hb11
                      try have n11_b30 : b30 ≠ b11 := ne_of_none hbA hb11
                      try have n11_b7 : b7 ≠ b11 := ne_of_none hbA hb11
                      try have n11_b9 : b9 ≠ b11 := ne_of_none hbA hb11
                      try have n11_b10 : b10 ≠ b11 := ne_of_none hbA hb11
                      have f11_H : H b11 = none := none_of_le lhA hb11
                      try simp only [eX, ↓reduceIte, Nat.reduceEqDiff, Int.reduceToNat]
                      refine hK _ _ ?_; clear hK K
                      refine OW_op rfl (lt_none) (fun K hK r => ?_)
                      simp only [x_store, eX, ↓reduceIte, Nat.reduceEqDiff, Int.reduceToNat]
                      first | refine Lt_storeAll sz27 bdA hbA bdA plA (by decide) ?_ | refine Lt_storeAtA sz27 bdA hbA bdA plA (by decide) ?_
                      try simp only [eX, ↓reduceIte, Nat.reduceEqDiff, Int.reduceToNat]
                      refine hK _ _ ?_; clear hK K
                      refine OW_as rfl ?_
                      refine OW_nil ?_
                      try simp only [Ex.thnH, Ex.inBlockH, ↓reduceIte, Nat.reduceEqDiff]
                      refine hK25 _ _ ?_; try clear hK25 K25
                      refine CW_seq (fun K26 hK26 => ?_)
                      refine CW_region_cut (fun e H_ => Env.has [(5, .pointer (some ⟨p, 0, none⟩)), (7, .pointer (some ⟨b7, 0, none⟩)), (44, .slice a l.length cap), (45, .int .i64 l.length), (46, .int .i64 k), (9, .pointer (some ⟨b9, 0, none⟩)), (10, .pointer (some ⟨b10, 0, none⟩)), (92, .bool false)] e ∧ Le H77 H_) ?_ ?_
                      · skip
                        refine OW_mv rfl ?_
                        refine OW_opS (fun K hK r => ?_)
                        simp only [x_callF _ bd32, List.map_toArray, List.map_cons, List.map_nil, eX, ↓reduceIte, Nat.reduceEqDiff, Int.reduceToNat]
                        refine (downL (hKB77.st.more (le_upd _ _ _ hb11))).mono ?_
                        rintro v H' ⟨rfl, hq⟩
                        have hq := hq.symm
                        subst hq
                        try simp only [eX, ↓reduceIte, Nat.reduceEqDiff, Int.reduceToNat]
                        refine hK _ _ ?_; clear hK K
                        refine OW_opS (fun K hK r => ?_)
                        simp only [x_un, u_not, eX, ↓reduceIte, Nat.reduceEqDiff, Int.reduceToNat]
                        refine hK _ _ ?_; clear hK K
                        refine OW_mv rfl ?_
                        (first | refine OW_split (d := 83) rfl (fun g83 => ?_) (fun g83 => ?_) | skip)
                        all_goals try (exfalso; exact cnA g83)
                        all_goals (try simp only [decide_eq_true_eq, decide_eq_false_iff_not, Bool.not_eq_true, Bool.not_eq_false, Bool.and_eq_true, Bool.or_eq_true, Bool.or_eq_false_iff, Bool.not_eq_true, Bool.not_eq_eq_eq_not, Bool.not_true, Bool.not_false] at g83)
                        all_goals
                          try simp only [eX, ↓reduceIte, Nat.reduceEqDiff, Int.reduceToNat]
                          first
                          | refine OW_guardT rfl (lt_some (by decide)) rfl (fun K hK r => ?_)
                            simp only [x_move, eX, ↓reduceIte, Nat.reduceEqDiff, Int.reduceToNat]
                            have hld : (s1.saveM (Mf.mk (now.gen + 1) (l.getD k default).m.ep (l.getD k default).m.ba (l.getD k default).m.ar (l.getD k default).m.ln (l.getD k default).m.hd)).1.loadM = ((Mf.mk (now.gen + 1) (l.getD k default).m.ep (l.getD k default).m.ba (l.getD k default).m.ar (l.getD k default).m.ln (l.getD k default).m.hd), none) := ((hKp1.save hnxok hnok rfl).1 hsv).load hnxok (by simpa using g83)
                            simp only [hld]
                            refine hK _ _ ?_; clear hK K
                          | refine OW_guardF rfl (lt_some (by decide)) rfl ?_
                            simp only [eX, ↓reduceIte, Nat.reduceEqDiff, Int.reduceToNat]
                          first
                          | refine OW_guardT rfl (lt_some (by decide)) rfl (fun K hK r => ?_)
                            simp only [x_bin, g_int, g_bool, g_string, g_pointer, g_slice, g_map, g_func, g_nilFunc, g_err, g_iface, g_nil_iface, g_nil_r, g_nil_l, eX, ↓reduceIte, Nat.reduceEqDiff, Int.reduceToNat]
                            first | rw [b_err_neq _ _ Try.underlying32] | (rw [e_neq _ _ _ _ (by simp), q_equal]; first | rw [q_iface_nil _ _ _ Try.underlying32] | rw [q_nil_iface _ _ _ Try.underlying32] | rw [q_nil_nil _ _ _ Try.underlying32])
                            try simp only [eX, ↓reduceIte, Nat.reduceEqDiff, Int.reduceToNat]
                            refine hK _ _ ?_; clear hK K
                          | refine OW_guardF rfl (lt_some (by decide)) rfl ?_
                            simp only [eX, ↓reduceIte, Nat.reduceEqDiff, Int.reduceToNat]
                          first
                          | refine OW_guardT rfl (lt_some (by decide)) rfl (fun K hK r => ?_)
                            simp only [x_move, eX, ↓reduceIte, Nat.reduceEqDiff, Int.reduceToNat]
                            refine hK _ _ ?_; clear hK K
                          | refine OW_guardF rfl (lt_some (by decide)) rfl ?_
                            simp only [eX, ↓reduceIte, Nat.reduceEqDiff, Int.reduceToNat]
                          (first | refine OW_split (d := 86) rfl (fun g86 => ?_) (fun g86 => ?_) | skip)
                          all_goals try (exfalso; exact cnA g86)
                          all_goals (try simp only [decide_eq_true_eq, decide_eq_false_iff_not, Bool.not_eq_true, Bool.not_eq_false, Bool.and_eq_true, Bool.or_eq_true, Bool.or_eq_false_iff, Bool.not_eq_true, Bool.not_eq_eq_eq_not, Bool.not_true, Bool.not_false] at g86)
                          all_goals
                            try simp only [eX, ↓reduceIte, Nat.reduceEqDiff, Int.reduceToNat]
                            first
                            | refine OW_guardT rfl (lt_some (by decide)) rfl (fun K hK r => ?_)
                              simp only [x_load, eX, ↓reduceIte, Nat.reduceEqDiff, Int.reduceToNat]
                              first | refine Lt_loadAll Try.underlying27 rfl sz27 hbA bdA ?_ | refine Lt_loadAtA Try.underlying27 rfl sz27 hbA bdA ?_
                              try simp only [List.extract_toArray, List.extract_eq_take_drop, Nat.zero_add, Nat.reduceAdd, Nat.reduceSub, Nat.sub_zero, List.drop_succ_cons, List.drop_zero, List.take_succ_cons, List.take_zero, List.take_nil, List.drop_nil]
                              try simp only [eX, ↓reduceIte, Nat.reduceEqDiff, Int.reduceToNat]
                              refine hK _ _ ?_; clear hK K
                            | refine OW_guardF rfl (lt_some (by decide)) rfl ?_
                              simp only [eX, ↓reduceIte, Nat.reduceEqDiff, Int.reduceToNat]
                            first
                            | refine OW_guardT rfl (lt_some (by decide)) rfl (fun K hK r => ?_)
                              simp only [x_load, eX, ↓reduceIte, Nat.reduceEqDiff, Int.reduceToNat]
                              first | refine Lt_loadAll Try.underlying24 rfl sz24 hbA bdA ?_ | refine Lt_loadAtA Try.underlying24 rfl sz24 hbA bdA ?_
                              try simp only [List.extract_toArray, List.extract_eq_take_drop, Nat.zero_add, Nat.reduceAdd, Nat.reduceSub, Nat.sub_zero, List.drop_succ_cons, List.drop_zero, List.take_succ_cons, List.take_zero, List.take_nil, List.drop_nil]
                              try simp only [eX, ↓reduceIte, Nat.reduceEqDiff, Int.reduceToNat]
                              refine hK _ _ ?_; clear hK K
                            | refine OW_guardF rfl (lt_some (by decide)) rfl ?_
                              simp only [eX, ↓reduceIte, Nat.reduceEqDiff, Int.reduceToNat]
                            first
                            | refine OW_guardT rfl (lt_some (by decide)) rfl (fun K hK r => ?_)
                              simp only [x_callF _ bd13, List.map_toArray, List.map_cons, List.map_nil, eX, ↓reduceIte, Nat.reduceEqDiff, Int.reduceToNat]
                              refine (same_ok _ (Mf.mk (now.gen + 1) (l.getD k default).m.ep (l.getD k default).m.ba (l.getD k default).m.ar (l.getD k default).m.ln (l.getD k default).m.hd) ya yc (by have h := hh77; rw [hld] at h; exact h.le (le_upd _ _ _ hb11)) (Mf.mk (now.gen + 1) (l.getD k default).m.ep (l.getD k default).m.ba (l.getD k default).m.ar (l.getD k default).m.ln (l.getD k default).m.hd) (l.getD k default).ma (l.getD k default).mc (hok.hm.le (Le.trans lH77 (le_upd _ _ _ hb11))) (by show (l.getD k default).m.hd.length ≤ _; omega)).mono ?_
                              rintro v H' ⟨rfl, hq⟩
                              have hq := hq.symm
                              subst hq
                              try simp only [eX, ↓reduceIte, Nat.reduceEqDiff, Int.reduceToNat]
                              refine hK _ _ ?_; clear hK K
                            | refine OW_guardF rfl (lt_some (by decide)) rfl ?_
                              simp only [eX, ↓reduceIte, Nat.reduceEqDiff, Int.reduceToNat]
                            first
                            | refine OW_guardT rfl (lt_some (by decide)) rfl (fun K hK r => ?_)
                              simp only [x_un, u_not, eX, ↓reduceIte, Nat.reduceEqDiff, Int.reduceToNat]
                              refine hK _ _ ?_; clear hK K
                            | refine OW_guardF rfl (lt_some (by decide)) rfl ?_
                              simp only [eX, ↓reduceIte, Nat.reduceEqDiff, Int.reduceToNat]
                            first
                            | refine OW_guardT rfl (lt_some (by decide)) rfl (fun K hK r => ?_)
                              simp only [x_pick, l_asBool, HL.ite_bool, if_true, if_false, Bool.false_eq_true, eX, ↓reduceIte, Nat.reduceEqDiff, Int.reduceToNat]
                              refine hK _ _ ?_; clear hK K
                            | refine OW_guardF rfl (lt_some (by decide)) rfl ?_
                              simp only [eX, ↓reduceIte, Nat.reduceEqDiff, Int.reduceToNat]
                            refine OW_opS (fun K hK r => ?_)
                            simp only [x_pick, l_asBool, HL.ite_bool, if_true, if_false, Bool.false_eq_true, eX, ↓reduceIte, Nat.reduceEqDiff, Int.reduceToNat]
                            refine hK _ _ ?_; clear hK K
                            refine OW_nil ?_
                            all_goals
                              exact ⟨⟨rfl, rfl, rfl, rfl, rfl, rfl, rfl, rfl, trivial⟩, le_upd _ _ _ hb11⟩
                      rintro e_ H20 ⟨he, hl20⟩
                      have hKB20 := hKB77.more hl20
                      try simp only [Ex.thnH, Ex.inBlockH, ↓reduceIte, Nat.reduceEqDiff]
                      refine hK26 _ _ ?_; try clear hK26 K26
                      refine CW_env he.sub ?_; clear he e_
                      refine CW_cond (fun r => rfl) (fun c92 => ?_) (fun c92 => ?_)
                      · exfalso; exact cnA c92
                      refine CW_skip ?_
                      try simp only [Ex.thnH, Ex.inBlockH, ↓reduceIte, Nat.reduceEqDiff]
                      refine hK22 _ _ ?_; try clear hK22 K22
                      refine CW_seq (fun K27 hK27 => ?_)
                      refine CW_region ?_
                      refine OW_opS (fun K hK r => ?_)
                      simp only [x_move, eX, ↓reduceIte, Nat.reduceEqDiff, Int.reduceToNat]
                      first
                      | (have hchk := hKB20
                         obtain ⟨F2, nw, nwa, nwc, hKB2, hround, hnwH, hnwok⟩ : ∃ (F2 : Hp) (nw : Mf) (nwa : Option Addr) (nwc : Nat), KB Q9 H20 F2 p (s1.saveM (Mf.mk (now.gen + 1) (l.getD k default).m.ep (l.getD k default).m.ba (l.getD k default).m.ar (l.getD k default).m.ln (l.getD k default).m.hd)).1 b7 nw nwa nwc ∧ (∀ kp, ∃ w, (w = nw ∨ w = (Mf.mk (now.gen + 1) (l.getD k default).m.ep (l.getD k default).m.ba (l.getD k default).m.ar (l.getD k default).m.ln (l.getD k default).m.hd)) ∧ Kept ((s1.saveM (Mf.mk (now.gen + 1) (l.getD k default).m.ep (l.getD k default).m.ba (l.getD k default).m.ar (l.getD k default).m.ln (l.getD k default).m.hd)).1.cr kp) w) ∧ Holds H 1 (.slice nwa nw.hd.length nwc) nw.hd.length (i64s nw.hd) ∧ nw.Ok := ⟨_, (Mf.mk (now.gen + 1) (l.getD k default).m.ep (l.getD k default).m.ba (l.getD k default).m.ar (l.getD k default).m.ln (l.getD k default).m.hd), (l.getD k default).ma, (l.getD k default).mc, hKB20, (fun kp => ⟨(Mf.mk (now.gen + 1) (l.getD k default).m.ep (l.getD k default).m.ba (l.getD k default).m.ar (l.getD k default).m.ln (l.getD k default).m.hd), .inl rfl, hr1 hsv kp⟩), hok.hm, hnxok⟩)
                      | (obtain ⟨F2, nw, nwa, nwc, hKB2, hround, hnwH, hnwok⟩ : ∃ (F2 : Hp) (nw : Mf) (nwa : Option Addr) (nwc : Nat), KB Q9 H72 F2 p (s1.saveM (Mf.mk (now.gen + 1) (l.getD k default).m.ep (l.getD k default).m.ba (l.getD k default).m.ar (l.getD k default).m.ln (l.getD k default).m.hd)).1 b7 nw nwa nwc ∧ (∀ kp, ∃ w, (w = nw ∨ w = (Mf.mk (now.gen + 1) (l.getD k default).m.ep (l.getD k default).m.ba (l.getD k default).m.ar (l.getD k default).m.ln (l.getD k default).m.hd)) ∧ Kept ((s1.saveM (Mf.mk (now.gen + 1) (l.getD k default).m.ep (l.getD k default).m.ba (l.getD k default).m.ar (l.getD k default).m.ln (l.getD k default).m.hd)).1.cr kp) w) ∧ Holds H 1 (.slice nwa nw.hd.length nwc) nw.hd.length (i64s nw.hd) ∧ nw.Ok := ⟨_, now, na, nc, hKB72, hr2 hsv, hnH, hnok⟩)
                      have hl22 : 0 < (s1.saveM (Mf.mk (now.gen + 1) (l.getD k default).m.ep (l.getD k default).m.ba (l.getD k default).m.ar (l.getD k default).m.ln (l.getD k default).m.hd)).1.dv.length := by
                        obtain ⟨w, _, hw⟩ := hround []
                        have h9 := hw.len
                        rw [show ((s1.saveM (Mf.mk (now.gen + 1) (l.getD k default).m.ep (l.getD k default).m.ba (l.getD k default).m.ar (l.getD k default).m.ln (l.getD k default).m.hd)).1.cr []).dv.length = (s1.saveM (Mf.mk (now.gen + 1) (l.getD k default).m.ep (l.getD k default).m.ba (l.getD k default).m.ar (l.getD k default).m.ln (l.getD k default).m.hd)).1.dv.length from by simp [St.cr]] at h9
                        omega
                      have k2_9 := hKB2.st.old b9 _ q9_9
                      have k2_10 := hKB2.st.old b10 _ q9_10
                      have k2_7 := hKB2.box
                      have lH2 := Le.trans lHQ9 hKB2.st.old
                      refine hK _ _ ?_; clear hK K
                      refine OW_opS (fun K hK r => ?_)
                      simp only [x_fieldAddr, fa58_4, add_mk, Nat.reduceAdd, Nat.zero_add, eX, ↓reduceIte, Nat.reduceEqDiff, Int.reduceToNat]
                      refine hK _ _ ?_; clear hK K
                      refine OW_opS (fun K hK r => ?_)
                      simp only [x_load, eX, ↓reduceIte, Nat.reduceEqDiff, Int.reduceToNat]
                      refine Lt_loadAt1 Try.underlying56 rfl hbA (Op15.keep' _) ?_
                      refine hK _ _ ?_; clear hK K
                      refine OW_opS (fun K hK r => ?_)
                      simp only [x_callF _ bd27, List.map_toArray, List.map_cons, List.map_nil, eX, ↓reduceIte, Nat.reduceEqDiff, Int.reduceToNat]
                      refine (keeps_ok _ (l.getD k default).ka (l.getD k default).kc (l.getD k default).keep (hok.hk.le (Le.trans lHQ9 hKB2.st.old)) (by omega)).mono ?_
                      rintro v96 H96 ⟨l96, rs96, ho96, hr96⟩
                      obtain ⟨G96, lG96, hG96, hx96⟩ := ho96.part
                      obtain ⟨ka96, kc96, rfl⟩ := hG96.form
                      have hS96 := hKB2.full.more l96
                      try simp only [eX, ↓reduceIte, Nat.reduceEqDiff, Int.reduceToNat]
                      refine hK _ _ ?_; clear hK K
                      refine OW_opS (fun K hK r => ?_)
                      simp only [x_callF _ bd26, List.map_toArray, List.map_cons, List.map_nil, eX, ↓reduceIte, Nat.reduceEqDiff, Int.reduceToNat]
                      refine (crashL hS96 hSm2 (by omega) (G := G96) lG96 (fun x hx => none_of_le hKB2.full.le (hr96 x (hx96 x hx))) (fun x hx => none_of_le hKB2.full.old (hr96 x (hx96 x hx))) ka96 kc96 (l.getD k default).keep hG96 (by omega)).mono ?_
                      rintro v97 H97 ⟨F97, hS97⟩
                      have hKB97 : KB Q9 H97 F97 p _ b7 nw nwa nwc := KB.of q9_7 (Le.refl _) hS97
                      obtain ⟨w, hww, hKw⟩ := hround (l.getD k default).keep
                      have hwOk : w.Ok := by rcases hww with rfl | rfl <;> assumption
                      have hldw := hKw.load hwOk rfl
                      have hBSc := hBS2.cr (l.getD k default).keep hl22
                      have hSmc := hSm2.cr (l.getD k default).keep
                      try simp only [eX, ↓reduceIte, Nat.reduceEqDiff, Int.reduceToNat]
                      refine hK _ _ ?_; clear hK K
                      refine OW_nil ?_
                      try simp only [Ex.thnH, Ex.inBlockH, ↓reduceIte, Nat.reduceEqDiff]
                      refine hK27 _ _ ?_; try clear hK27 K27
                      refine CW_seq (fun K28 hK28 => ?_)
                      refine CW_region ?_
                      refine OW_mv rfl ?_
                      refine OW_opS (fun K hK r => ?_)
                      simp only [x_callF _ bd30, List.map_toArray, List.map_cons, List.map_nil, eX, ↓reduceIte, Nat.reduceEqDiff, Int.reduceToNat]
                      refine (loadL hKB97.st hSmc (by omega) (fun j hj => hBSc.rd _)).mono ?_
                      rintro v100 H100 ⟨l100, x100, rs100, rfl, ho100, hr100⟩
                      rw [hldw] at ho100 ⊢
                      obtain ⟨za, zc, rfl⟩ := ho100.holds.form
                      have hKB100 := hKB97.more l100
                      have k100_10 := hKB100.st.old b10 _ q9_10
                      have k100_7 := hKB100.box
                      have hh100 := ho100.holds
                      have lH100 : Le H H100 := Le.trans lHQ9 hKB100.st.old
                      have hwl : w.hd.length ≤ 1000000 := by have := hwOk.n; omega
                      try simp only [eX, ↓reduceIte, Nat.reduceEqDiff, Int.reduceToNat]
                      refine hK _ _ ?_; clear hK K
                      refine OW_mv rfl ?_
                      refine OW_opS (fun K hK r => ?_)
                      simp only [x_extract, i_extract, List.getElem?_toArray, List.getElem?_cons_zero, List.getElem?_cons_succ, orF_some, eX, ↓reduceIte, Nat.reduceEqDiff, Int.reduceToNat]
                      refine hK _ _ ?_; clear hK K
                      refine OW_opS (fun K hK r => ?_)
                      simp only [x_extract, i_extract, List.getElem?_toArray, List.getElem?_cons_zero, List.getElem?_cons_succ, orF_some, eX, ↓reduceIte, Nat.reduceEqDiff, Int.reduceToNat]
                      refine hK _ _ ?_; clear hK K
                      refine OW_opS (fun K hK r => ?_)
                      simp only [x_alloc, zr27, orF_some, Value.cells, eX, ↓reduceIte, Nat.reduceEqDiff, Int.reduceToNat]
                      intro b13 hb13
                      try have n13_b2 : b2 ≠ b13 := ne_of_none hbA hb13
                      try have n13_b30 : b30 ≠ b13 := ne_of_none hbA hb13
                      try have n13_b7 : b7 ≠ b13 := ne_of_none hbA hb13
                      try have n13_b9 : b9 ≠ b13 := ne_of_none hbA hb13
                      try have n13_b10 : b10 ≠ b13 := ne_of_none hbA hb13
                      try have n13_b11 : b11 ≠ b13 := ne_of_none hbA hb13
                      have f13_H : H b13 = none := none_of_le lhA hb13
                      try simp only [eX, ↓reduceIte, Nat.reduceEqDiff, Int.reduceToNat]
                      refine hK _ _ ?_; clear hK K
                      refine OW_op rfl (lt_none) (fun K hK r => ?_)
                      simp only [x_store, eX, ↓reduceIte, Nat.reduceEqDiff, Int.reduceToNat]
                      first | refine Lt_storeAll sz27 bdA hbA bdA plA (by decide) ?_ | refine Lt_storeAtA sz27 bdA hbA bdA plA (by decide) ?_
                      try simp only [eX, ↓reduceIte, Nat.reduceEqDiff, Int.reduceToNat]
                      refine hK _ _ ?_; clear hK K
                      refine OW_as rfl ?_
                      refine OW_nil ?_
                      try simp only [Ex.thnH, Ex.inBlockH, ↓reduceIte, Nat.reduceEqDiff]
                      refine hK28 _ _ ?_; try clear hK28 K28
                      refine CW_block ?_
                      refine CW_seq (fun K29 hK29 => ?_)
                      refine CW_region ?_
                      refine OW_mv rfl ?_
                      refine OW_opS (fun K hK r => ?_)
                      simp only [x_bin, g_int, g_bool, g_string, g_pointer, g_slice, g_map, g_func, g_nilFunc, g_err, g_iface, g_nil_iface, g_nil_r, g_nil_l, eX, ↓reduceIte, Nat.reduceEqDiff, Int.reduceToNat]
                      first | rw [b_err_neq _ _ Try.underlying32] | (rw [e_neq _ _ _ _ (by simp), q_equal]; first | rw [q_iface_nil _ _ _ Try.underlying32] | rw [q_nil_iface _ _ _ Try.underlying32] | rw [q_nil_nil _ _ _ Try.underlying32])
                      try simp only [eX, ↓reduceIte, Nat.reduceEqDiff, Int.reduceToNat]
                      refine hK _ _ ?_; clear hK K
                      refine OW_as rfl ?_
                      refine OW_nil ?_
                      try simp only [Ex.thnH, Ex.inBlockH, ↓reduceIte, Nat.reduceEqDiff]
                      refine hK29 _ _ ?_; try clear hK29 K29
                      refine CW_cond (fun r => rfl) (fun c103 => ?_) (fun c103 => ?_)
                      · exfalso; first | (exact cnA c103; done) | (simp at c103; done)
                      refine CW_seq (fun K30 hK30 => ?_)
                      refine CW_region ?_
                      refine OW_opS (fun K hK r => ?_)
                      simp only [x_load, eX, ↓reduceIte, Nat.reduceEqDiff, Int.reduceToNat]
                      first | refine Lt_loadAll Try.underlying27 rfl sz27 hbA bdA ?_ | refine Lt_loadAtA Try.underlying27 rfl sz27 hbA bdA ?_
                      try simp only [List.extract_toArray, List.extract_eq_take_drop, Nat.zero_add, Nat.reduceAdd, Nat.reduceSub, Nat.sub_zero, List.drop_succ_cons, List.drop_zero, List.take_succ_cons, List.take_zero, List.take_nil, List.drop_nil]
                      try simp only [eX, ↓reduceIte, Nat.reduceEqDiff, Int.reduceToNat]
                      refine hK _ _ ?_; clear hK K
                      refine OW_opS (fun K hK r => ?_)
                      simp only [x_load, eX, ↓reduceIte, Nat.reduceEqDiff, Int.reduceToNat]
                      first | refine Lt_loadAll Try.underlying24 rfl sz24 hbA bdA ?_ | refine Lt_loadAtA Try.underlying24 rfl sz24 hbA bdA ?_
                      try simp only [List.extract_toArray, List.extract_eq_take_drop, Nat.zero_add, Nat.reduceAdd, Nat.reduceSub, Nat.sub_zero, List.drop_succ_cons, List.drop_zero, List.take_succ_cons, List.take_zero, List.take_nil, List.drop_nil]
                      try simp only [eX, ↓reduceIte, Nat.reduceEqDiff, Int.reduceToNat]
                      refine hK _ _ ?_; clear hK K
                      refine OW_opS (fun K hK r => ?_)
                      simp only [x_callF _ bd13, List.map_toArray, List.map_cons, List.map_nil, eX, ↓reduceIte, Nat.reduceEqDiff, Int.reduceToNat]
                      refine (same_ok _ w za zc (hh100.le lhA) (Mf.mk (now.gen + 1) (l.getD k default).m.ep (l.getD k default).m.ba (l.getD k default).m.ar (l.getD k default).m.ln (l.getD k default).m.hd) (l.getD k default).ma (l.getD k default).mc (hok.hm.le lhA) hwl).mono ?_
                      rintro v H' ⟨rfl, hq⟩
                      have hq := hq.symm
                      subst hq
                      try simp only [eX, ↓reduceIte, Nat.reduceEqDiff, Int.reduceToNat]
                      refine hK _ _ ?_; clear hK K
                      refine OW_as rfl ?_
                      refine OW_nil ?_
                      try simp only [Ex.thnH, Ex.inBlockH, ↓reduceIte, Nat.reduceEqDiff]
                      refine hK30 _ _ ?_; try clear hK30 K30
                      refine CW_cond (fun r => rfl) (fun c106 => ?_) (fun c106 => ?_)
                      · first
                        | (exfalso; exact cnA c106; done)
                        | skip
                          have hwn : w = (Mf.mk (now.gen + 1) (l.getD k default).m.ep (l.getD k default).m.ba (l.getD k default).m.ar (l.getD k default).m.ln (l.getD k default).m.hd) := of_decide_eq_true c106
                          refine CW_region ?_
                          refine OW_opS (fun K hK r => ?_)
                          simp only [x_load, eX, ↓reduceIte, Nat.reduceEqDiff, Int.reduceToNat]
                          first | refine Lt_loadAll Try.underlying24 rfl sz24 hbA bdA ?_ | refine Lt_loadAtA Try.underlying24 rfl sz24 hbA bdA ?_
                          try simp only [List.extract_toArray, List.extract_eq_take_drop, Nat.zero_add, Nat.reduceAdd, Nat.reduceSub, Nat.sub_zero, List.drop_succ_cons, List.drop_zero, List.take_succ_cons, List.take_zero, List.take_nil, List.drop_nil]
                          try simp only [eX, ↓reduceIte, Nat.reduceEqDiff, Int.reduceToNat]
                          refine hK _ _ ?_; clear hK K
                          refine OW_op rfl (lt_none) (fun K hK r => ?_)
                          simp only [x_store, eX, ↓reduceIte, Nat.reduceEqDiff, Int.reduceToNat]
                          first | refine Lt_storeAll sz24 bdA hbA bdA plA (by decide) ?_ | refine Lt_storeAtA sz24 bdA hbA bdA plA (by decide) ?_
                          try simp only [eX, ↓reduceIte, Nat.reduceEqDiff, Int.reduceToNat]
                          refine hK _ _ ?_; clear hK K
                          refine OW_nil ?_
                          try simp only [Ex.thnH, Ex.inBlockH, ↓reduceIte, Nat.reduceEqDiff]
                          first
                          | exact ⟨F, s, now, na, nc, hKB10.less lHQ9, hKp, hgo, hSm.up (by omega), hBS, hnok, hnH, rfl, rfl, rfl, rfl, rfl, trivial⟩
                          | (subst hwn; exact ⟨_, _, _, (l.getD k default).ma, (l.getD k default).mc, ((hKB100.more (le_upd _ _ _ hb13)).put (Mf.mk (now.gen + 1) (l.getD k default).m.ep (l.getD k default).m.ba (l.getD k default).m.ar (l.getD k default).m.ln (l.getD k default).m.hd) (l.getD k default).ma (l.getD k default).mc).less lHQ9, hKw, rfl, hSmc.up (by omega), hBSc, hnxok, hok.hm, rfl, rfl, rfl, rfl, rfl, trivial⟩)
                          | (subst hwo; exact ⟨_, _, _, nwa, nwc, (hKB100.more (le_upd _ _ _ hb13)).less lHQ9, hKw, rfl, hSmc.up (by omega), hBSc, hnwok, hnwH, rfl, rfl, rfl, rfl, rfl, trivial⟩)
                      · first
                        | (exfalso; exact cnA c106; done)
                        | skip
                          have hwn : w ≠ (Mf.mk (now.gen + 1) (l.getD k default).m.ep (l.getD k default).m.ba (l.getD k default).m.ar (l.getD k default).m.ln (l.getD k default).m.hd) := of_decide_eq_false c106
                          have hwo : w = nw := hww.resolve_right hwn
                          refine CW_seq (fun K31 hK31 => ?_)
                          refine CW_region ?_
                          refine OW_opS (fun K hK r => ?_)
                          simp only [x_load, eX, ↓reduceIte, Nat.reduceEqDiff, Int.reduceToNat]
                          first | refine Lt_loadAll Try.underlying27 rfl sz27 hbA bdA ?_ | refine Lt_loadAtA Try.underlying27 rfl sz27 hbA bdA ?_
                          try simp only [List.extract_toArray, List.extract_eq_take_drop, Nat.zero_add, Nat.reduceAdd, Nat.reduceSub, Nat.sub_zero, List.drop_succ_cons, List.drop_zero, List.take_succ_cons, List.take_zero, List.take_nil, List.drop_nil]
                          try simp only [eX, ↓reduceIte, Nat.reduceEqDiff, Int.reduceToNat]
                          refine hK _ _ ?_; clear hK K
                          refine OW_opS (fun K hK r => ?_)
                          simp only [x_load, eX, ↓reduceIte, Nat.reduceEqDiff, Int.reduceToNat]
                          first | refine Lt_loadAll Try.underlying24 rfl sz24 hbA bdA ?_ | refine Lt_loadAtA Try.underlying24 rfl sz24 hbA bdA ?_
                          try simp only [List.extract_toArray, List.extract_eq_take_drop, Nat.zero_add, Nat.reduceAdd, Nat.reduceSub, Nat.sub_zero, List.drop_succ_cons, List.drop_zero, List.take_succ_cons, List.take_zero, List.take_nil, List.drop_nil]
                          try simp only [eX, ↓reduceIte, Nat.reduceEqDiff, Int.reduceToNat]
                          refine hK _ _ ?_; clear hK K
                          refine OW_opS (fun K hK r => ?_)
                          simp only [x_callF _ bd13, List.map_toArray, List.map_cons, List.map_nil, eX, ↓reduceIte, Nat.reduceEqDiff, Int.reduceToNat]
                          refine (same_ok _ w za zc (hh100.le lhA) nw nwa nwc (hnwH.le lhA) hwl).mono ?_
                          rintro v H' ⟨rfl, hq⟩
                          have hq := hq.symm
                          subst hq
                          try simp only [eX, ↓reduceIte, Nat.reduceEqDiff, Int.reduceToNat]
                          refine hK _ _ ?_; clear hK K
                          refine OW_opS (fun K hK r => ?_)
                          simp only [x_un, u_not, eX, ↓reduceIte, Nat.reduceEqDiff, Int.reduceToNat]
                          refine hK _ _ ?_; clear hK K
                          refine OW_as rfl ?_
                          refine OW_nil ?_
                          try simp only [Ex.thnH, Ex.inBlockH, ↓reduceIte, Nat.reduceEqDiff]
                          refine hK31 _ _ ?_; try clear hK31 K31
                          refine CW_cond (fun r => rfl) (fun c111 => ?_) (fun c111 => ?_)
                          · exfalso; exact absurd hwo (by simpa using c111)
                          refine CW_skip ?_
                          try simp only [Ex.thnH, Ex.inBlockH, ↓reduceIte, Nat.reduceEqDiff]
                          first
                          | exact ⟨F, s, now, na, nc, hKB10.less lHQ9, hKp, hgo, hSm.up (by omega), hBS, hnok, hnH, rfl, rfl, rfl, rfl, rfl, trivial⟩
                          | (subst hwn; exact ⟨_, _, _, (l.getD k default).ma, (l.getD k default).mc, ((hKB100.more (le_upd _ _ _ hb13)).put (Mf.mk (now.gen + 1) (l.getD k default).m.ep (l.getD k default).m.ba (l.getD k default).m.ar (l.getD k default).m.ln (l.getD k default).m.hd) (l.getD k default).ma (l.getD k default).mc).less lHQ9, hKw, rfl, hSmc.up (by omega), hBSc, hnxok, hok.hm, rfl, rfl, rfl, rfl, rfl, trivial⟩)
                          | (subst hwo; exact ⟨_, _, _, nwa, nwc, (hKB100.more (le_upd _ _ _ hb13)).less lHQ9, hKw, rfl, hSmc.up (by omega), hBSc, hnwok, hnwH, rfl, rfl, rfl, rfl, rfl, trivial⟩)
                  · first
                    | (exfalso; exact cnA c73; done)
                    | skip
                      have hsv : (s1.saveM (Mf.mk (now.gen + 1) (l.getD k default).m.ep (l.getD k default).m.ba (l.getD k default).m.ar (l.getD k default).m.ln (l.getD k default).m.hd)).2 ≠ none := fun h => by rw [h] at c73; cases c73
                      refine CW_skip ?_
                      try simp only [Ex.thnH, Ex.inBlockH, ↓reduceIte, Nat.reduceEqDiff]
                      refine hK22 _ _ ?_; try clear hK22 K22
                      refine CW_seq (fun K32 hK32 => ?_)
                      refine CW_region ?_
                      refine OW_opS (fun K hK r => ?_)
                      simp only [x_move, eX, ↓reduceIte, Nat.reduceEqDiff, Int.reduceToNat]
                      first
                      | (have hchk := hKB20
                         obtain ⟨F2, nw, nwa, nwc, hKB2, hround, hnwH, hnwok⟩ : ∃ (F2 : Hp) (nw : Mf) (nwa : Option Addr) (nwc : Nat), KB Q9 H20 F2 p (s1.saveM (Mf.mk (now.gen + 1) (l.getD k default).m.ep (l.getD k default).m.ba (l.getD k default).m.ar (l.getD k default).m.ln (l.getD k default).m.hd)).1 b7 nw nwa nwc ∧ (∀ kp, ∃ w, (w = nw ∨ w = (Mf.mk (now.gen + 1) (l.getD k default).m.ep (l.getD k default).m.ba (l.getD k default).m.ar (l.getD k default).m.ln (l.getD k default).m.hd)) ∧ Kept ((s1.saveM (Mf.mk (now.gen + 1) (l.getD k default).m.ep (l.getD k default).m.ba (l.getD k default).m.ar (l.getD k default).m.ln (l.getD k default).m.hd)).1.cr kp) w) ∧ Holds H 1 (.slice nwa nw.hd.length nwc) nw.hd.length (i64s nw.hd) ∧ nw.Ok := ⟨_, (Mf.mk (now.gen + 1) (l.getD k default).m.ep (l.getD k default).m.ba (l.getD k default).m.ar (l.getD k default).m.ln (l.getD k default).m.hd), (l.getD k default).ma, (l.getD k default).mc, hKB20, (fun kp => ⟨(Mf.mk (now.gen + 1) (l.getD k default).m.ep (l.getD k default).m.ba (l.getD k default).m.ar (l.getD k default).m.ln (l.getD k default).m.hd), .inl rfl, hr1 hsv kp⟩), hok.hm, hnxok⟩)
                      | (obtain ⟨F2, nw, nwa, nwc, hKB2, hround, hnwH, hnwok⟩ : ∃ (F2 : Hp) (nw : Mf) (nwa : Option Addr) (nwc : Nat), KB Q9 H72 F2 p (s1.saveM (Mf.mk (now.gen + 1) (l.getD k default).m.ep (l.getD k default).m.ba (l.getD k default).m.ar (l.getD k default).m.ln (l.getD k default).m.hd)).1 b7 nw nwa nwc ∧ (∀ kp, ∃ w, (w = nw ∨ w = (Mf.mk (now.gen + 1) (l.getD k default).m.ep (l.getD k default).m.ba (l.getD k default).m.ar (l.getD k default).m.ln (l.getD k default).m.hd)) ∧ Kept ((s1.saveM (Mf.mk (now.gen + 1) (l.getD k default).m.ep (l.getD k default).m.ba (l.getD k default).m.ar (l.getD k default).m.ln (l.getD k default).m.hd)).1.cr kp) w) ∧ Holds H 1 (.slice nwa nw.hd.length nwc) nw.hd.length (i64s nw.hd) ∧ nw.Ok := ⟨_, now, na, nc, hKB72, hr2 hsv, hnH, hnok⟩)
                      have hl22 : 0 < (s1.saveM (Mf.mk (now.gen + 1) (l.getD k default).m.ep (l.getD k default).m.ba (l.getD k default).m.ar (l.getD k default).m.ln (l.getD k default).m.hd)).1.dv.length := by
                        obtain ⟨w, _, hw⟩ := hround []
                        have h9 := hw.len
                        rw [show ((s1.saveM (Mf.mk (now.gen + 1) (l.getD k default).m.ep (l.getD k default).m.ba (l.getD k default).m.ar (l.getD k default).m.ln (l.getD k default).m.hd)).1.cr []).dv.length = (s1.saveM (Mf.mk (now.gen + 1) (l.getD k default).m.ep (l.getD k default).m.ba (l.getD k default).m.ar (l.getD k default).m.ln (l.getD k default).m.hd)).1.dv.length from by simp [St.cr]] at h9
                        omega
                      have k2_9 := hKB2.st.old b9 _ q9_9
                      have k2_10 := hKB2.st.old b10 _ q9_10
                      have k2_7 := hKB2.box
                      have lH2 := Le.trans lHQ9 hKB2.st.old
                      refine hK _ _ ?_; clear hK K
                      refine OW_opS (fun K hK r => ?_)
                      simp only [x_fieldAddr, fa58_4, add_mk, Nat.reduceAdd, Nat.zero_add, eX, ↓reduceIte, Nat.reduceEqDiff, Int.reduceToNat]
                      refine hK _ _ ?_; clear hK K
                      refine OW_opS (fun K hK r => ?_)
                      simp only [x_load, eX, ↓reduceIte, Nat.reduceEqDiff, Int.reduceToNat]
                      refine Lt_loadAt1 Try.underlying56 rfl hbA (Op15.keep' _) ?_
                      refine hK _ _ ?_; clear hK K
                      refine OW_opS (fun K hK r => ?_)
                      simp only [x_callF _ bd27, List.map_toArray, List.map_cons, List.map_nil, eX, ↓reduceIte, Nat.reduceEqDiff, Int.reduceToNat]
                      refine (keeps_ok _ (l.getD k default).ka (l.getD k default).kc (l.getD k default).keep (hok.hk.le (Le.trans lHQ9 hKB2.st.old)) (by omega)).mono ?_
                      rintro v96 H96 ⟨l96, rs96, ho96, hr96⟩
                      obtain ⟨G96, lG96, hG96, hx96⟩ := ho96.part
                      obtain ⟨ka96, kc96, rfl⟩ := hG96.form
                      have hS96 := hKB2.full.more l96
                      try simp only [eX, ↓reduceIte, Nat.reduceEqDiff, Int.reduceToNat]
                      refine hK _ _ ?_; clear hK K
                      refine OW_opS (fun K hK r => ?_)
                      simp only [x_callF _ bd26, List.map_toArray, List.map_cons, List.map_nil, eX, ↓reduceIte, Nat.reduceEqDiff, Int.reduceToNat]
                      refine (crashL hS96 hSm2 (by omega) (G := G96) lG96 (fun x hx => none_of_le hKB2.full.le (hr96 x (hx96 x hx))) (fun x hx => none_of_le hKB2.full.old (hr96 x (hx96 x hx))) ka96 kc96 (l.getD k default).keep hG96 (by omega)).mono ?_
                      rintro v97 H97 ⟨F97, hS97⟩
                      have hKB97 : KB Q9 H97 F97 p _ b7 nw nwa nwc := KB.of q9_7 (Le.refl _) hS97
                      obtain ⟨w, hww, hKw⟩ := hround (l.getD k default).keep
                      have hwOk : w.Ok := by rcases hww with rfl | rfl <;> assumption
                      have hldw := hKw.load hwOk rfl
                      have hBSc := hBS2.cr (l.getD k default).keep hl22
                      have hSmc := hSm2.cr (l.getD k default).keep
                      try simp only [eX, ↓reduceIte, Nat.reduceEqDiff, Int.reduceToNat]
                      refine hK _ _ ?_; clear hK K
                      refine OW_nil ?_
                      try simp only [Ex.thnH, Ex.inBlockH, ↓reduceIte, Nat.reduceEqDiff]
                      refine hK32 _ _ ?_; try clear hK32 K32
                      refine CW_seq (fun K33 hK33 => ?_)
                      refine CW_region ?_
                      refine OW_mv rfl ?_
                      refine OW_opS (fun K hK r => ?_)
                      simp only [x_callF _ bd30, List.map_toArray, List.map_cons, List.map_nil, eX, ↓reduceIte, Nat.reduceEqDiff, Int.reduceToNat]
                      refine (loadL hKB97.st hSmc (by omega) (fun j hj => hBSc.rd _)).mono ?_
                      rintro v100 H100 ⟨l100, x100, rs100, rfl, ho100, hr100⟩
                      rw [hldw] at ho100 ⊢
                      obtain ⟨za, zc, rfl⟩ := ho100.holds.form
                      have hKB100 := hKB97.more l100
                      have k100_10 := hKB100.st.old b10 _ q9_10
                      have k100_7 := hKB100.box
                      have hh100 := ho100.holds
                      have lH100 : Le H H100 := Le.trans lHQ9 hKB100.st.old
                      have hwl : w.hd.length ≤ 1000000 := by have := hwOk.n; omega
                      try simp only [eX, ↓reduceIte, Nat.reduceEqDiff, Int.reduceToNat]
                      refine hK _ _ ?_; clear hK K
                      refine OW_mv rfl ?_
                      refine OW_opS (fun K hK r => ?_)
                      simp only [x_extract, i_extract, List.getElem?_toArray, List.getElem?_cons_zero, List.getElem?_cons_succ, orF_some, eX, ↓reduceIte, Nat.reduceEqDiff, Int.reduceToNat]
                      refine hK _ _ ?_; clear hK K
                      refine OW_opS (fun K hK r => ?_)
                      simp only [x_extract, i_extract, List.getElem?_toArray, List.getElem?_cons_zero, List.getElem?_cons_succ, orF_some, eX, ↓reduceIte, Nat.reduceEqDiff, Int.reduceToNat]
                      refine hK _ _ ?_; clear hK K
                      refine OW_opS (fun K hK r => ?_)
                      simp only [x_alloc, zr27, orF_some, Value.cells, eX, ↓reduceIte, Nat.reduceEqDiff, Int.reduceToNat]
                      intro b13 hb13
                      try have n13_b2 : b2 ≠ b13 := ne_of_none hbA hb13
                      try have n13_b30 : b30 ≠ b13 := ne_of_none hbA hb13
                      try have n13_b7 : b7 ≠ b13 := ne_of_none hbA hb13
                      try have n13_b9 : b9 ≠ b13 := ne_of_none hbA hb13
                      try have n13_b10 : b10 ≠ b13 := ne_of_none hbA hb13
                      have f13_H : H b13 = none := none_of_le lhA hb13
                      try simp only [eX, ↓reduceIte, Nat.reduceEqDiff, Int.reduceToNat]
                      refine hK _ _ ?_; clear hK K
                      refine OW_op rfl (lt_none) (fun K hK r => ?_)
                      simp only [x_store, eX, ↓reduceIte, Nat.reduceEqDiff, Int.reduceToNat]
                      first | refine Lt_storeAll sz27 bdA hbA bdA plA (by decide) ?_ | refine Lt_storeAtA sz27 bdA hbA bdA plA (by decide) ?_
                      try simp only [eX, ↓reduceIte, Nat.reduceEqDiff, Int.reduceToNat]
                      refine hK _ _ ?_; clear hK K
                      refine OW_as rfl ?_
                      refine OW_nil ?_
                      try simp only [Ex.thnH, Ex.inBlockH, ↓reduceIte, Nat.reduceEqDiff]
                      refine hK33 _ _ ?_; try clear hK33 K33
                      refine CW_block ?_
                      refine CW_seq (fun K34 hK34 => ?_)
                      refine CW_region ?_
                      refine OW_mv rfl ?_
                      refine OW_opS (fun K hK r => ?_)
                      simp only [x_bin, g_int, g_bool, g_string, g_pointer, g_slice, g_map, g_func, g_nilFunc, g_err, g_iface, g_nil_iface, g_nil_r, g_nil_l, eX, ↓reduceIte, Nat.reduceEqDiff, Int.reduceToNat]
                      first | rw [b_err_neq _ _ Try.underlying32] | (rw [e_neq _ _ _ _ (by simp), q_equal]; first | rw [q_iface_nil _ _ _ Try.underlying32] | rw [q_nil_iface _ _ _ Try.underlying32] | rw [q_nil_nil _ _ _ Try.underlying32])
                      try simp only [eX, ↓reduceIte, Nat.reduceEqDiff, Int.reduceToNat]
                      refine hK _ _ ?_; clear hK K
                      refine OW_as rfl ?_
                      refine OW_nil ?_
                      try simp only [Ex.thnH, Ex.inBlockH, ↓reduceIte, Nat.reduceEqDiff]
                      refine hK34 _ _ ?_; try clear hK34 K34
                      refine CW_cond (fun r => rfl) (fun c103 => ?_) (fun c103 => ?_)
                      · exfalso; first | (exact cnA c103; done) | (simp at c103; done)
                      refine CW_seq (fun K35 hK35 => ?_)
                      refine CW_region ?_
                      refine OW_opS (fun K hK r => ?_)
                      simp only [x_load, eX, ↓reduceIte, Nat.reduceEqDiff, Int.reduceToNat]
                      first | refine Lt_loadAll Try.underlying27 rfl sz27 hbA bdA ?_ | refine Lt_loadAtA Try.underlying27 rfl sz27 hbA bdA ?_
                      try simp only [List.extract_toArray, List.extract_eq_take_drop, Nat.zero_add, Nat.reduceAdd, Nat.reduceSub, Nat.sub_zero, List.drop_succ_cons, List.drop_zero, List.take_succ_cons, List.take_zero, List.take_nil, List.drop_nil]
                      try simp only [eX, ↓reduceIte, Nat.reduceEqDiff, Int.reduceToNat]
                      refine hK _ _ ?_; clear hK K
                      refine OW_opS (fun K hK r => ?_)
                      simp only [x_load, eX, ↓reduceIte, Nat.reduceEqDiff, Int.reduceToNat]
                      first | refine Lt_loadAll Try.underlying24 rfl sz24 hbA bdA ?_ | refine Lt_loadAtA Try.underlying24 rfl sz24 hbA bdA ?_
                      try simp only [List.extract_toArray, List.extract_eq_take_drop, Nat.zero_add, Nat.reduceAdd, Nat.reduceSub, Nat.sub_zero, List.drop_succ_cons, List.drop_zero, List.take_succ_cons, List.take_zero, List.take_nil, List.drop_nil]
                      try simp only [eX, ↓reduceIte, Nat.reduceEqDiff, Int.reduceToNat]
                      refine hK _ _ ?_; clear hK K
                      refine OW_opS (fun K hK r => ?_)
                      simp only [x_callF _ bd13, List.map_toArray, List.map_cons, List.map_nil, eX, ↓reduceIte, Nat.reduceEqDiff, Int.reduceToNat]
                      refine (same_ok _ w za zc (hh100.le lhA) (Mf.mk (now.gen + 1) (l.getD k default).m.ep (l.getD k default).m.ba (l.getD k default).m.ar (l.getD k default).m.ln (l.getD k default).m.hd) (l.getD k default).ma (l.getD k default).mc (hok.hm.le lhA) hwl).mono ?_
                      rintro v H' ⟨rfl, hq⟩
                      have hq := hq.symm
                      subst hq
                      try simp only [eX, ↓reduceIte, Nat.reduceEqDiff, Int.reduceToNat]
                      refine hK _ _ ?_; clear hK K
                      refine OW_as rfl ?_
                      refine OW_nil ?_
                      try simp only [Ex.thnH, Ex.inBlockH, ↓reduceIte, Nat.reduceEqDiff]
                      refine hK35 _ _ ?_; try clear hK35 K35
                      refine CW_cond (fun r => rfl) (fun c106 => ?_) (fun c106 => ?_)
                      · first
                        | (exfalso; exact cnA c106; done)
                        | skip
                          have hwn : w = (Mf.mk (now.gen + 1) (l.getD k default).m.ep (l.getD k default).m.ba (l.getD k default).m.ar (l.getD k default).m.ln (l.getD k default).m.hd) := of_decide_eq_true c106
                          refine CW_region ?_
                          refine OW_opS (fun K hK r => ?_)
                          simp only [x_load, eX, ↓reduceIte, Nat.reduceEqDiff, Int.reduceToNat]
                          first | refine Lt_loadAll Try.underlying24 rfl sz24 hbA bdA ?_ | refine Lt_loadAtA Try.underlying24 rfl sz24 hbA bdA ?_
                          try simp only [List.extract_toArray, List.extract_eq_take_drop, Nat.zero_add, Nat.reduceAdd, Nat.reduceSub, Nat.sub_zero, List.drop_succ_cons, List.drop_zero, List.take_succ_cons, List.take_zero, List.take_nil, List.drop_nil]
                          try simp only [eX, ↓reduceIte, Nat.reduceEqDiff, Int.reduceToNat]
                          refine hK _ _ ?_; clear hK K
                          refine OW_op rfl (lt_none) (fun K hK r => ?_)
                          simp only [x_store, eX, ↓reduceIte, Nat.reduceEqDiff, Int.reduceToNat]
                          first | refine Lt_storeAll sz24 bdA hbA bdA plA (by decide) ?_ | refine Lt_storeAtA sz24 bdA hbA bdA plA (by decide) ?_
                          try simp only [eX, ↓reduceIte, Nat.reduceEqDiff, Int.reduceToNat]
                          refine hK _ _ ?_; clear hK K
                          refine OW_nil ?_
                          try simp only [Ex.thnH, Ex.inBlockH, ↓reduceIte, Nat.reduceEqDiff]
                          first
                          | exact ⟨F, s, now, na, nc, hKB10.less lHQ9, hKp, hgo, hSm.up (by omega), hBS, hnok, hnH, rfl, rfl, rfl, rfl, rfl, trivial⟩
                          | (subst hwn; exact ⟨_, _, _, (l.getD k default).ma, (l.getD k default).mc, ((hKB100.more (le_upd _ _ _ hb13)).put (Mf.mk (now.gen + 1) (l.getD k default).m.ep (l.getD k default).m.ba (l.getD k default).m.ar (l.getD k default).m.ln (l.getD k default).m.hd) (l.getD k default).ma (l.getD k default).mc).less lHQ9, hKw, rfl, hSmc.up (by omega), hBSc, hnxok, hok.hm, rfl, rfl, rfl, rfl, rfl, trivial⟩)
                          | (subst hwo; exact ⟨_, _, _, nwa, nwc, (hKB100.more (le_upd _ _ _ hb13)).less lHQ9, hKw, rfl, hSmc.up (by omega), hBSc, hnwok, hnwH, rfl, rfl, rfl, rfl, rfl, trivial⟩)
                      · first
                        | (exfalso; exact cnA c106; done)
                        | skip
                          have hwn : w ≠ (Mf.mk (now.gen + 1) (l.getD k default).m.ep (l.getD k default).m.ba (l.getD k default).m.ar (l.getD k default).m.ln (l.getD k default).m.hd) := of_decide_eq_false c106
                          have hwo : w = nw := hww.resolve_right hwn
                          refine CW_seq (fun K36 hK36 => ?_)
                          refine CW_region ?_
                          refine OW_opS (fun K hK r => ?_)
                          simp only [x_load, eX, ↓reduceIte, Nat.reduceEqDiff, Int.reduceToNat]
                          first | refine Lt_loadAll Try.underlying27 rfl sz27 hbA bdA ?_ | refine Lt_loadAtA Try.underlying27 rfl sz27 hbA bdA ?_
                          try simp only [List.extract_toArray, List.extract_eq_take_drop, Nat.zero_add, Nat.reduceAdd, Nat.reduceSub, Nat.sub_zero, List.drop_succ_cons, List.drop_zero, List.take_succ_cons, List.take_zero, List.take_nil, List.drop_nil]
                          try simp only [eX, ↓reduceIte, Nat.reduceEqDiff, Int.reduceToNat]
                          refine hK _ _ ?_; clear hK K
                          refine OW_opS (fun K hK r => ?_)
                          simp only [x_load, eX, ↓reduceIte, Nat.reduceEqDiff, Int.reduceToNat]
                          first | refine Lt_loadAll Try.underlying24 rfl sz24 hbA bdA ?_ | refine Lt_loadAtA Try.underlying24 rfl sz24 hbA bdA ?_
                          try simp only [List.extract_toArray, List.extract_eq_take_drop, Nat.zero_add, Nat.reduceAdd, Nat.reduceSub, Nat.sub_zero, List.drop_succ_cons, List.drop_zero, List.take_succ_cons, List.take_zero, List.take_nil, List.drop_nil]
                          try simp only [eX, ↓reduceIte, Nat.reduceEqDiff, Int.reduceToNat]
                          refine hK _ _ ?_; clear hK K
                          refine OW_opS (fun K hK r => ?_)
                          simp only [x_callF _ bd13, List.map_toArray, List.map_cons, List.map_nil, eX, ↓reduceIte, Nat.reduceEqDiff, Int.reduceToNat]
                          refine (same_ok _ w za zc (hh100.le lhA) nw nwa nwc (hnwH.le lhA) hwl).mono ?_
                          rintro v H' ⟨rfl, hq⟩
                          have hq := hq.symm
                          subst hq
                          try simp only [eX, ↓reduceIte, Nat.reduceEqDiff, Int.reduceToNat]
                          refine hK _ _ ?_; clear hK K
                          refine OW_opS (fun K hK r => ?_)
                          simp only [x_un, u_not, eX, ↓reduceIte, Nat.reduceEqDiff, Int.reduceToNat]
                          refine hK _ _ ?_; clear hK K
                          refine OW_as rfl ?_
                          refine OW_nil ?_
                          try simp only [Ex.thnH, Ex.inBlockH, ↓reduceIte, Nat.reduceEqDiff]
                          refine hK36 _ _ ?_; try clear hK36 K36
                          refine CW_cond (fun r => rfl) (fun c111 => ?_) (fun c111 => ?_)
                          · exfalso; exact absurd hwo (by simpa using c111)
                          refine CW_skip ?_
                          try simp only [Ex.thnH, Ex.inBlockH, ↓reduceIte, Nat.reduceEqDiff]
                          first
                          | exact ⟨F, s, now, na, nc, hKB10.less lHQ9, hKp, hgo, hSm.up (by omega), hBS, hnok, hnH, rfl, rfl, rfl, rfl, rfl, trivial⟩
                          | (subst hwn; exact ⟨_, _, _, (l.getD k default).ma, (l.getD k default).mc, ((hKB100.more (le_upd _ _ _ hb13)).put (Mf.mk (now.gen + 1) (l.getD k default).m.ep (l.getD k default).m.ba (l.getD k default).m.ar (l.getD k default).m.ln (l.getD k default).m.hd) (l.getD k default).ma (l.getD k default).mc).less lHQ9, hKw, rfl, hSmc.up (by omega), hBSc, hnxok, hok.hm, rfl, rfl, rfl, rfl, rfl, trivial⟩)
                          | (subst hwo; exact ⟨_, _, _, nwa, nwc, (hKB100.more (le_upd _ _ _ hb13)).less lHQ9, hKw, rfl, hSmc.up (by omega), hBSc, hnwok, hnwH, rfl, rfl, rfl, rfl, rfl, trivial⟩)
            rintro e_ HE ⟨Fz, sz_, nz, nza, nzc, hKBz, hKz, hgz, hSmz, hBSz, hnz, hHz, he⟩
            refine CW_env he.sub ?_; clear he e_
            refine CW_region ?_
            refine OW_opS (fun K hK r => ?_)
            simp (disch := (first | omega | decide)) only [x_bin, g_int, b_add, wrap_i64, wrap_u64, wrap_u32, wrap_u8, eX, ↓reduceIte, Nat.reduceEqDiff, Int.reduceToNat]
            refine hK _ _ ?_; clear hK K
            refine OW_mv rfl ?_
            refine OW_nil ?_
            try simp only [Ex.thnH, Ex.inBlockH, ↓reduceIte, Nat.reduceEqDiff]
            exact ⟨l.length - (k + 1), by omega, k + 1, _, _, _, _, _, by omega, rfl, hKBz, hKz, hgz, hSmz, hBSz, hnz, hHz, rfl, rfl, rfl, rfl, rfl, trivial⟩
        · first
          | (exfalso; exact cnA c47; done)
          | skip
            (try simp only [decide_eq_true_eq, decide_eq_false_iff_not, Bool.not_eq_true, Bool.not_eq_false, Bool.and_eq_true, Bool.or_eq_true, Bool.or_eq_false_iff, Bool.not_eq_true, Bool.not_eq_eq_eq_not, Bool.not_true, Bool.not_false] at c47)
            refine CW_exit ?_
            try simp only [Ex.thnH, Ex.inBlockH, ↓reduceIte, Nat.reduceEqDiff]
            refine hK11 _ _ ?_; try clear hK11 K11
            refine CW_seq (fun K37 hK37 => ?_)
            refine CW_region ?_
            refine OW_as rfl ?_
            refine OW_nil ?_
            try simp only [Ex.thnH, Ex.inBlockH, ↓reduceIte, Nat.reduceEqDiff]
            refine hK37 _ _ ?_; try clear hK37 K37
            refine CW_ret ?_
            try simp only [Ex.thnH, Ex.inBlockH, ↓reduceIte, Nat.reduceEqDiff]
            exact ⟨[_], ⟨rfl, trivial⟩, _, Le.refl _, rfl, hHH⟩

end Go.Proofs.Ytigofhhonnbkmaa.HL
end
