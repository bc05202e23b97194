/- A part of the proof. -/
import Derived.Test.YtlkopcgoaldpeaaP13
import Derived.Test.YtlkopcgoaldpeaaP18
import Derived.Test.YtlkopcgoaldpeaaQ50
import Derived.Test.YtlkopcgoaldpeaaMdPr4
namespace Go.Proofs.Ytlkopcgoaldpeaa.HL
open Go Go.Proofs
set_option linter.unusedSimpArgs false
set_option linter.unusedVariables false
attribute [local irreducible] Lt Lq CW OW TW CallH


/-- what Encode gives -/
def encB (fuel : Int) (cs : List Cd) : List Int := if checkP fuel cs = -2 then encP fuel cs else []

set_option maxRecDepth 100000 in
set_option maxHeartbeats 8000000 in
theorem encode_ok (H : Hp) (fuel : Int) (vc : Value) (cs : List Cd) (hv : Holds H 6 vc cs.length (cds cs)) (hn : cs.length ≤ 1000000) (hc : ∀ x ∈ cs, x.ok) : CallH Try.prog 14 #[.agg #[.int .i64 fuel, vc]] H (fun v H' => ∃ vb o, v = .tuple #[vb, fltV o] ∧ Le H H' ∧ (o = none ↔ checkP fuel cs = -2) ∧ (∀ b, o = some b → H b = none ∧ H' b = some (fltO (checkP fuel cs))) ∧ ∃ rs, OwnS H' 5 1 vb (encB fuel cs).length (u8s (encB fuel cs)) rs ∧ ∀ r, rs = some r → H r = none) := by
  refine CallH_enter (l := [_]) (rl := [.tmp 2, .tmp 3]) (n := 74) Try.func14 rfl rfl rfl rfl rfl ?_
  simp only [envOf, Nat.reduceAdd]
  obtain ⟨av, kv, rfl⟩ := hv.form
  refine CW_seq (fun K1 hK1 => ?_)
  refine CW_region ?_
  refine OW_opS (fun K hK r => ?_)
  simp only [x_box, Value.cells, eX, ↓reduceIte, Nat.reduceEqDiff, Int.reduceToNat]
  intro b1 hb1
  have f1_H : H b1 = none := none_of_le lhA hb1
  try simp only [eX, ↓reduceIte, Nat.reduceEqDiff, Int.reduceToNat]
  refine hK _ _ ?_; clear hK K
  refine OW_as rfl ?_
  refine OW_as rfl ?_
  refine OW_nil ?_
  try simp only [Ex.thnH, Ex.inBlockH, ↓reduceIte, Nat.reduceEqDiff]
  refine hK1 _ _ ?_; try clear hK1 K1
  refine CW_seq (fun K2 hK2 => ?_)
  refine CW_seq (fun K3 hK3 => ?_)
  refine CW_region ?_
  refine OW_opS (fun K hK r => ?_)
  simp only [x_load, eX, ↓reduceIte, Nat.reduceEqDiff, Int.reduceToNat]
  first | refine Lt_loadAll Try.underlying24 rfl sz24 hbA bdA ?_ | refine Lt_loadAtA Try.underlying24 rfl sz24 hbA bdA ?_
  try simp only [List.extract_toArray, List.extract_eq_take_drop, Nat.zero_add, Nat.reduceAdd, Nat.reduceSub, Nat.sub_zero, List.drop_succ_cons, List.drop_zero, List.take_succ_cons, List.take_zero, List.take_nil, List.drop_nil]
  try simp only [eX, ↓reduceIte, Nat.reduceEqDiff, Int.reduceToNat]
  refine hK _ _ ?_; clear hK K
  refine OW_opS (fun K hK r => ?_)
  simp only [x_callF _ bd24, List.map_toArray, List.map_cons, List.map_nil, eX, ↓reduceIte, Nat.reduceEqDiff, Int.reduceToNat]
  refine (check_ok _ fuel _ cs (hv.le lhA) hn).mono ?_
  rintro v13 H13 ⟨o13, rfl, hl13, ho13, hq13⟩
  have kH13_b1 := hl13 b1 _ hbA
  have lH13_H : Le H H13 := Le.trans lhA hl13
  try simp only [eX, ↓reduceIte, Nat.reduceEqDiff, Int.reduceToNat]
  refine hK _ _ ?_; clear hK K
  refine OW_as rfl ?_
  refine OW_nil ?_
  try simp only [Ex.thnH, Ex.inBlockH, ↓reduceIte, Nat.reduceEqDiff]
  refine hK3 _ _ ?_; try clear hK3 K3
  refine CW_seq (fun K4 hK4 => ?_)
  refine CW_region ?_
  refine OW_mv rfl ?_
  refine OW_opS (fun K hK r => ?_)
  simp only [x_bin, g_int, g_bool, g_string, g_pointer, g_slice, g_map, g_func, g_nilFunc, g_err, g_ifv, g_iface, g_nil_iface, g_nil_r, g_nil_l, eX, ↓reduceIte, Nat.reduceEqDiff, Int.reduceToNat]
  first | rw [b_err_neq _ _ Try.underlying35] | rw [b_ifv_neq _ _ Try.underlying35] | (rw [e_neq _ _ _ _ (by simp), q_equal]; first | rw [q_iface_nil _ _ _ Try.underlying35] | rw [q_nil_iface _ _ _ Try.underlying35] | rw [q_nil_nil _ _ _ Try.underlying35])
  try simp only [eX, ↓reduceIte, Nat.reduceEqDiff, Int.reduceToNat]
  refine hK _ _ ?_; clear hK K
  refine OW_nil ?_
  try simp only [Ex.thnH, Ex.inBlockH, ↓reduceIte, Nat.reduceEqDiff]
  refine hK4 _ _ ?_; try clear hK4 K4
  refine CW_cond (fun r => rfl) (fun c15 => ?_) (fun c15 => ?_)
  · first
    | (exfalso; exact cnA c15; done)
    | skip
      (try simp only [decide_eq_true_eq, decide_eq_false_iff_not, Bool.not_eq_true, Bool.not_eq_false, Bool.and_eq_true, Bool.or_eq_true, Bool.or_eq_false_iff, Bool.not_eq_true, Bool.not_eq_eq_eq_not, Bool.not_true, Bool.not_false] at c15)
      obtain ⟨b13, rfl⟩ : ∃ b, o13 = some b := Option.isSome_iff_exists.1 (by first | assumption | simp_all)
      have hne : checkP fuel cs ≠ -2 := fun h => by have := ho13.2 h; cases this
      refine CW_seq (fun K5 hK5 => ?_)
      refine CW_region ?_
      refine OW_mv rfl ?_
      refine OW_as rfl ?_
      refine OW_as rfl ?_
      refine OW_nil ?_
      try simp only [Ex.thnH, Ex.inBlockH, ↓reduceIte, Nat.reduceEqDiff]
      refine hK5 _ _ ?_; try clear hK5 K5
      refine CW_ret ?_
      try simp only [Ex.thnH, Ex.inBlockH, ↓reduceIte, Nat.reduceEqDiff]
      obtain ⟨hq1, hq2⟩ := hq13 b13 rfl
      refine ⟨[_, _], ⟨rfl, rfl, trivial⟩, _, Le.refl _, _, some b13, rfl, lhA, ⟨(fun h => by cases h), fun h => absurd h hne⟩, fun b hb => ?_, none, ?_, fun r hr => by cases hr⟩
      · cases hb; exact ⟨none_of_le lhA hq1, hq2⟩
      · have e : encB fuel cs = [] := by unfold encB; rw [if_neg hne]
        rw [e]; exact OwnS.nil _ _ _
  · first
    | (exfalso; exact cnA c15; done)
    | skip
      (try simp only [decide_eq_true_eq, decide_eq_false_iff_not, Bool.not_eq_true, Bool.not_eq_false, Bool.and_eq_true, Bool.or_eq_true, Bool.or_eq_false_iff, Bool.not_eq_true, Bool.not_eq_eq_eq_not, Bool.not_true, Bool.not_false] at c15)
      obtain rfl : o13 = none := by cases o13 with
        | none => rfl
        | some b => simp at c15
      have hck : checkP fuel cs = -2 := ho13.1 rfl
      have hr : 1 ≤ fuel ∧ fuel ≤ 1000 ∧ 1 ≤ cs.length ∧ cs.length ≤ 32 := by
        unfold checkP at hck; split at hck
        · assumption
        · omega
      obtain ⟨f, rfl⟩ : ∃ f : Nat, fuel = f := ⟨fuel.toNat, by omega⟩
      have hcf := cnt_len10 (n := f) (by omega)
      have hcl := cnt_len10 (n := cs.length) (by omega)
      obtain ⟨bv, ov, cv, Tv, Fv, rfl, hbv, hsv, atv⟩ := hv.at (by omega)
      try have n_bv_b1 : bv ≠ b1 := ne_of_none hbv f1_H
      refine CW_skip ?_
      try simp only [Ex.thnH, Ex.inBlockH, ↓reduceIte, Nat.reduceEqDiff]
      refine hK2 _ _ ?_; try clear hK2 K2
      refine CW_seq (fun K6 hK6 => ?_)
      refine CW_region ?_
      refine OW_opS (fun K hK r => ?_)
      simp only [x_build, bp58, List.map_toArray, List.map_cons, List.map_nil, eX, ↓reduceIte, Nat.reduceEqDiff, Int.reduceToNat]
      simp only [fill_nil, orF_some, List.setIfInBounds_toArray, List.set_cons_zero, List.set_cons_succ]
      try simp only [eX, ↓reduceIte, Nat.reduceEqDiff, Int.reduceToNat]
      refine hK _ _ ?_; clear hK K
      refine OW_opS (fun K hK r => ?_)
      simp only [x_box, Value.cells, eX, ↓reduceIte, Nat.reduceEqDiff, Int.reduceToNat]
      intro b18 hb18
      try have n18_b1 : b1 ≠ b18 := ne_of_none hbA hb18
      have f18_H : H b18 = none := none_of_le lhA hb18
      have hw18 : WR _ b18 [] (fun b => b = b18) := WR.fresh (H := H13.upd b18 (.cells #[.slice none 0 0] 58)) rfl (upd_same _ _ _)
      have hs18 : ∀ b, b = b18 → H13 b = none := fun b h => by subst h; exact hb18
      try simp only [eX, ↓reduceIte, Nat.reduceEqDiff, Int.reduceToNat]
      refine hK _ _ ?_; clear hK K
      refine OW_as rfl ?_
      refine OW_nil ?_
      try simp only [Ex.thnH, Ex.inBlockH, ↓reduceIte, Nat.reduceEqDiff]
      refine hK6 _ _ ?_; try clear hK6 K6
      refine CW_seq (fun K7 hK7 => ?_)
      refine CW_region ?_
      refine OW_mv rfl ?_
      refine OW_opS (fun K hK r => ?_)
      simp only [x_fieldAddr, fa24_0, add_mk, Nat.reduceAdd, Nat.zero_add, eX, ↓reduceIte, Nat.reduceEqDiff, Int.reduceToNat]
      refine hK _ _ ?_; clear hK K
      refine OW_opS (fun K hK r => ?_)
      simp only [x_load, eX, ↓reduceIte, Nat.reduceEqDiff, Int.reduceToNat]
      refine Lt_loadAt1 Try.underlying3 rfl hbA ldA ?_
      try simp only [eX, ↓reduceIte, Nat.reduceEqDiff, Int.reduceToNat]
      refine hK _ _ ?_; clear hK K
      refine OW_opS (fun K hK r => ?_)
      simp (disch := (first | omega | decide)) only [x_convert, c_int _ _ _ _ Try.underlying3 Try.underlying60, wrap_i64, wrap_u64, wrap_u32, wrap_u8, eX, ↓reduceIte, Nat.reduceEqDiff, Int.reduceToNat]
      refine hK _ _ ?_; clear hK K
      refine OW_opS (fun K hK r => ?_)
      simp only [x_callF _ bd26, List.map_toArray, List.map_cons, List.map_nil, eX, ↓reduceIte, Nat.reduceEqDiff, Int.reduceToNat]
      refine (wCount_ok _ b18 _ _ hw18 f (by omega) (by simp)).mono ?_
      rintro v23 H23 ⟨S23, hw23, hf23⟩
      have hl23 := hf23.le (le_upd _ _ _ hb18) hs18
      have hs23 := hf23.sep (le_upd _ _ _ hb18) hs18
      have kH23_b1 := hl23 b1 _ hbA
      have lH23_H : Le H H23 := Le.trans lhA hl23
      try simp only [eX, ↓reduceIte, Nat.reduceEqDiff, Int.reduceToNat]
      refine hK _ _ ?_; clear hK K
      refine OW_nil ?_
      try simp only [Ex.thnH, Ex.inBlockH, ↓reduceIte, Nat.reduceEqDiff]
      refine hK7 _ _ ?_; try clear hK7 K7
      refine CW_seq (fun K8 hK8 => ?_)
      refine CW_region ?_
      refine OW_mv rfl ?_
      refine OW_opS (fun K hK r => ?_)
      simp only [x_fieldAddr, fa24_1, add_mk, Nat.reduceAdd, Nat.zero_add, eX, ↓reduceIte, Nat.reduceEqDiff, Int.reduceToNat]
      refine hK _ _ ?_; clear hK K
      refine OW_opS (fun K hK r => ?_)
      simp only [x_load, eX, ↓reduceIte, Nat.reduceEqDiff, Int.reduceToNat]
      refine Lt_loadAt1 Try.underlying22 rfl hbA ldA ?_
      try simp only [eX, ↓reduceIte, Nat.reduceEqDiff, Int.reduceToNat]
      refine hK _ _ ?_; clear hK K
      refine OW_opS (fun K hK r => ?_)
      simp only [x_builtin, l_len, List.map_toArray, List.map_cons, List.map_nil, i_len_slice _ _ Try.underlying22, eX, ↓reduceIte, Nat.reduceEqDiff, Int.reduceToNat]
      refine hK _ _ ?_; clear hK K
      refine OW_opS (fun K hK r => ?_)
      simp (disch := (first | omega | decide)) only [x_convert, c_int _ _ _ _ Try.underlying3 Try.underlying60, wrap_i64, wrap_u64, wrap_u32, wrap_u8, eX, ↓reduceIte, Nat.reduceEqDiff, Int.reduceToNat]
      refine hK _ _ ?_; clear hK K
      refine OW_opS (fun K hK r => ?_)
      simp only [x_callF _ bd26, List.map_toArray, List.map_cons, List.map_nil, eX, ↓reduceIte, Nat.reduceEqDiff, Int.reduceToNat]
      refine (wCount_ok _ b18 _ _ hw23 cs.length (by omega) (by simp only [List.length_append, List.length_nil, List.length_cons] at *; omega)).mono ?_
      rintro v29 H29 ⟨S29, hw29, hf29⟩
      have hl29 := hf29.le hl23 hs23
      have hs29 := hf29.sep hl23 hs23
      have kH29_b1 := hl29 b1 _ hbA
      have lH29_H : Le H H29 := Le.trans lhA hl29
      try simp only [eX, ↓reduceIte, Nat.reduceEqDiff, Int.reduceToNat]
      refine hK _ _ ?_; clear hK K
      refine OW_nil ?_
      try simp only [Ex.thnH, Ex.inBlockH, ↓reduceIte, Nat.reduceEqDiff]
      refine hK8 _ _ ?_; try clear hK8 K8
      refine CW_seq (fun K9 hK9 => ?_)
      refine CW_seq (fun K10 hK10 => ?_)
      refine CW_region ?_
      refine OW_opS (fun K hK r => ?_)
      simp only [x_fieldAddr, fa24_1, add_mk, Nat.reduceAdd, Nat.zero_add, eX, ↓reduceIte, Nat.reduceEqDiff, Int.reduceToNat]
      refine hK _ _ ?_; clear hK K
      refine OW_opS (fun K hK r => ?_)
      simp only [x_load, eX, ↓reduceIte, Nat.reduceEqDiff, Int.reduceToNat]
      refine Lt_loadAt1 Try.underlying22 rfl hbA ldA ?_
      try simp only [eX, ↓reduceIte, Nat.reduceEqDiff, Int.reduceToNat]
      refine hK _ _ ?_; clear hK K
      refine OW_opS (fun K hK r => ?_)
      simp only [x_builtin, l_len, List.map_toArray, List.map_cons, List.map_nil, i_len_slice _ _ Try.underlying22, eX, ↓reduceIte, Nat.reduceEqDiff, Int.reduceToNat]
      refine hK _ _ ?_; clear hK K
      refine OW_mv rfl ?_
      refine OW_nil ?_
      try simp only [Ex.thnH, Ex.inBlockH, ↓reduceIte, Nat.reduceEqDiff]
      refine hK10 _ _ ?_; try clear hK10 K10
      refine CW_block ?_
      refine CW_loop (fun m e H_ => ∃ (k : Nat) (S1 : Nat → Prop), k ≤ cs.length ∧ m = cs.length - k ∧ WR H_ b18 (cnt f ++ cnt cs.length ++ (cs.take k).flatMap encC) S1 ∧ Le H13 H_ ∧ (∀ b, S1 b → H13 b = none) ∧ Env.has [(1, .pointer (some ⟨b1, 0, none⟩)), (5, .pointer (some ⟨b18, 0, none⟩)), (31, .slice (some ⟨bv, ov, none⟩) cs.length kv), (32, .int .i64 cs.length), (33, .int .i64 k)] e) (cs.length) ?_ ?_
      · skip
        exact ⟨0, S29, by omega, by omega, (by simpa using hw29), hl29, hs29, ⟨rfl, rfl, rfl, rfl, rfl, trivial⟩⟩
      intro m_ e_ H_ hI_
      obtain ⟨k, S1, hk, rfl, hw, hle, hs1, he⟩ := hI_
      refine CW_env he.sub ?_; clear he e_
      have hbv_ : H_ bv = _ := hle _ _ (lH13_H _ _ hbv)
      have hb1_ := hle _ _ kH13_b1
      have hlen := fm_len (cs := cs.take k) (fun x hx => hc x (List.mem_of_mem_take hx))
      have htk : (cs.take k).length ≤ 32 := by rw [List.length_take]; omega
      have hln : (cnt f ++ cnt cs.length ++ (cs.take k).flatMap encC).length ≤ 2000 := by simp only [List.length_append]; omega
      have hlH : Le H H_ := Le.trans lH13_H hle
      refine CW_seq (fun K11 hK11 => ?_)
      refine CW_region ?_
      refine OW_opS (fun K hK r => ?_)
      simp (disch := (first | omega | decide)) only [x_bin, g_int, b_lss, dec_lt_t, dec_lt_f, dec_le_t, dec_le_f, dec_eq_t, dec_eq_f, Bool.not_true, Bool.not_false, eX, ↓reduceIte, Nat.reduceEqDiff, Int.reduceToNat]
      refine hK _ _ ?_; clear hK K
      refine OW_nil ?_
      try simp only [Ex.thnH, Ex.inBlockH, ↓reduceIte, Nat.reduceEqDiff]
      refine hK11 _ _ ?_; try clear hK11 K11
      refine CW_seq (fun K12 hK12 => ?_)
      refine CW_cond (fun r => rfl) (fun c34 => ?_) (fun c34 => ?_)
      · first
        | (exfalso; exact cnA c34; done)
        | skip
          (try simp only [decide_eq_true_eq, decide_eq_false_iff_not, Bool.not_eq_true, Bool.not_eq_false, Bool.and_eq_true, Bool.or_eq_true, Bool.or_eq_false_iff, Bool.not_eq_true, Bool.not_eq_eq_eq_not, Bool.not_true, Bool.not_false] at c34)
          refine CW_skip ?_
          try simp only [Ex.thnH, Ex.inBlockH, ↓reduceIte, Nat.reduceEqDiff]
          refine hK12 _ _ ?_; try clear hK12 K12
          refine CW_seq (fun K13 hK13 => ?_)
          refine CW_block ?_
          refine CW_seq (fun K14 hK14 => ?_)
          refine CW_region ?_
          refine OW_opS (fun K hK r => ?_)
          simp only [x_indexAddr, eX, ↓reduceIte, Nat.reduceEqDiff, Int.reduceToNat]
          refine Lt_indexS Try.underlying22 sz47 ixA ixA ?_
          try simp only [add_mk, Nat.mul_one, Nat.zero_add, Int.reduceToNat]
          try simp only [eX, ↓reduceIte, Nat.reduceEqDiff, Int.reduceToNat]
          refine hK _ _ ?_; clear hK K
          refine OW_opS (fun K hK r => ?_)
          simp only [x_load, eX, ↓reduceIte, Nat.reduceEqDiff, Int.reduceToNat]
          refine Lt_loadAtA Try.underlying47 rfl sz47 hbA (by simp only [Int.toNat_natCast]; omega) ?_
          simp only [Int.toNat_natCast]
          rw [ext_at Cd.len atv rfl k (by omega) hsv]
          refine hK _ _ ?_; clear hK K
          refine OW_opS (fun K hK r => ?_)
          simp only [x_alloc, zr47, orF_some, Value.cells, eX, ↓reduceIte, Nat.reduceEqDiff, Int.reduceToNat]
          intro b7 hb7
          try have n7_b1 : b1 ≠ b7 := ne_of_none hbA hb7
          try have n7_b18 : b18 ≠ b7 := ne_of_none hbA hb7
          have f7_H : H b7 = none := none_of_le lhA hb7
          try simp only [eX, ↓reduceIte, Nat.reduceEqDiff, Int.reduceToNat]
          refine hK _ _ ?_; clear hK K
          refine OW_op rfl (lt_none) (fun K hK r => ?_)
          simp only [x_store, eX, ↓reduceIte, Nat.reduceEqDiff, Int.reduceToNat]
          first | refine Lt_storeAll sz47 bdA hbA bdA plA (by decide) ?_ | refine Lt_storeAtA sz47 bdA hbA bdA plA (by decide) ?_
          try simp only [eX, ↓reduceIte, Nat.reduceEqDiff, Int.reduceToNat]
          refine hK _ _ ?_; clear hK K
          refine OW_nil ?_
          try simp only [Ex.thnH, Ex.inBlockH, ↓reduceIte, Nat.reduceEqDiff]
          refine hK14 _ _ ?_; try clear hK14 K14
          refine CW_seq (fun K15 hK15 => ?_)
          refine CW_region ?_
          refine OW_opS (fun K hK r => ?_)
          simp only [x_move, eX, ↓reduceIte, Nat.reduceEqDiff, Int.reduceToNat]
          have hw7 := fun o => hw.new (o := o) hb7
          have hle7 : ∀ o, Le (H13.upd b7 o) (H_.upd b7 o) := fun o => le_both hle b7 o
          have hs7 : ∀ o b, S1 b → (H13.upd b7 o) b = none := fun o b hb => by
            rw [upd_ne _ _ (fun e => hw.known b hb (by rw [e]; exact hb7))]; exact hs1 b hb
          refine hK _ _ ?_; clear hK K
          refine OW_opS (fun K hK r => ?_)
          simp only [x_fieldAddr, fa47_0, add_mk, Nat.reduceAdd, Nat.zero_add, eX, ↓reduceIte, Nat.reduceEqDiff, Int.reduceToNat]
          refine hK _ _ ?_; clear hK K
          refine OW_opS (fun K hK r => ?_)
          simp only [x_load, eX, ↓reduceIte, Nat.reduceEqDiff, Int.reduceToNat]
          refine Lt_loadAt1 Try.underlying3 rfl hbA ldA ?_
          try simp only [eX, ↓reduceIte, Nat.reduceEqDiff, Int.reduceToNat]
          refine hK _ _ ?_; clear hK K
          refine OW_opS (fun K hK r => ?_)
          simp (disch := (first | omega | decide)) only [x_convert, c_int _ _ _ _ Try.underlying3 Try.underlying5, wrap_i64, wrap_u64, wrap_u32, wrap_u8, eX, ↓reduceIte, Nat.reduceEqDiff, Int.reduceToNat]
          refine hK _ _ ?_; clear hK K
          refine OW_opS (fun K hK r => ?_)
          simp only [x_callF _ bd27, List.map_toArray, List.map_cons, List.map_nil, eX, ↓reduceIte, Nat.reduceEqDiff, Int.reduceToNat]
          refine (wByte_ok _ b18 _ _ (hw7 _) _ (by simp only [List.length_append, List.length_nil, List.length_cons] at *; omega)).mono ?_
          rintro v41 H41 ⟨S41, hw41, hf41⟩
          have hl41 := hf41.le (hle7 _) (hs7 _)
          have hs41 := hf41.sep (hle7 _) (hs7 _)
          have kH41_b7 := hl41 b7 _ (upd_same _ _ _)
          have kH41_b1 := hl41 b1 _ hbA
          have lH41_H : Le H H41 := Le.trans lhA hl41
          try simp only [eX, ↓reduceIte, Nat.reduceEqDiff, Int.reduceToNat]
          refine hK _ _ ?_; clear hK K
          refine OW_nil ?_
          try simp only [Ex.thnH, Ex.inBlockH, ↓reduceIte, Nat.reduceEqDiff]
          refine hK15 _ _ ?_; try clear hK15 K15
          refine CW_seq (fun K16 hK16 => ?_)
          refine CW_region ?_
          refine OW_opS (fun K hK r => ?_)
          simp only [x_fieldAddr, fa47_0, add_mk, Nat.reduceAdd, Nat.zero_add, eX, ↓reduceIte, Nat.reduceEqDiff, Int.reduceToNat]
          refine hK _ _ ?_; clear hK K
          refine OW_opS (fun K hK r => ?_)
          simp only [x_load, eX, ↓reduceIte, Nat.reduceEqDiff, Int.reduceToNat]
          refine Lt_loadAt1 Try.underlying3 rfl hbA ldA ?_
          try simp only [eX, ↓reduceIte, Nat.reduceEqDiff, Int.reduceToNat]
          refine hK _ _ ?_; clear hK K
          refine OW_opS (fun K hK r => ?_)
          simp only [x_callF _ bd9, List.map_toArray, List.map_cons, List.map_nil, eX, ↓reduceIte, Nat.reduceEqDiff, Int.reduceToNat]
          refine (shape_ok _ (cs.getD k default).op).mono ?_
          rintro v H' ⟨rfl, rfl⟩
          try simp only [eX, ↓reduceIte, Nat.reduceEqDiff, Int.reduceToNat]
          refine hK _ _ ?_; clear hK K
          refine OW_mv rfl ?_
          refine OW_opS (fun K hK r => ?_)
          simp only [x_extract, i_extract, List.getElem?_toArray, List.getElem?_cons_zero, List.getElem?_cons_succ, orF_some, eX, ↓reduceIte, Nat.reduceEqDiff, Int.reduceToNat]
          refine hK _ _ ?_; clear hK K
          refine OW_opS (fun K hK r => ?_)
          simp only [x_extract, i_extract, List.getElem?_toArray, List.getElem?_cons_zero, List.getElem?_cons_succ, orF_some, eX, ↓reduceIte, Nat.reduceEqDiff, Int.reduceToNat]
          refine hK _ _ ?_; clear hK K
          refine OW_as rfl ?_
          refine OW_as rfl ?_
          refine OW_nil ?_
          try simp only [Ex.thnH, Ex.inBlockH, ↓reduceIte, Nat.reduceEqDiff]
          refine hK16 _ _ ?_; try clear hK16 K16
          refine CW_seq (fun K17 hK17 => ?_)
          refine CW_region ?_
          refine OW_mv rfl ?_
          refine OW_opS (fun K hK r => ?_)
          simp only [x_builtin, l_len, List.map_toArray, List.map_cons, List.map_nil, i_len_string _ Try.underlying9, eX, ↓reduceIte, Nat.reduceEqDiff, Int.reduceToNat]
          try simp only [strOf_size]
          refine hK _ _ ?_; clear hK K
          refine OW_mv rfl ?_
          refine OW_nil ?_
          try simp only [Ex.thnH, Ex.inBlockH, ↓reduceIte, Nat.reduceEqDiff]
          refine hK17 _ _ ?_; try clear hK17 K17
          refine CW_block ?_
          refine CW_loop (fun m e H_ => ∃ (j : Nat) (S2 : Nat → Prop), j ≤ (shp (cs.getD k default).op).length ∧ m = (shp (cs.getD k default).op).length - j ∧ WR H_ b18 (cnt f ++ cnt cs.length ++ (cs.take k).flatMap encC ++ (((cs.getD k default).op % 256) :: ((shp (cs.getD k default).op).take j).flatMap (encF (cs.getD k default)))) S2 ∧ Le (H13.upd b7 (.cells (cs.getD k default).cells.toArray 47)) H_ ∧ (∀ b, S2 b → (H13.upd b7 (.cells (cs.getD k default).cells.toArray 47)) b = none) ∧ Env.has [(1, .pointer (some ⟨b1, 0, none⟩)), (5, .pointer (some ⟨b18, 0, none⟩)), (7, .pointer (some ⟨b7, 0, none⟩)), (8, .string (strOf (shp (cs.getD k default).op))), (31, .slice (some ⟨bv, ov, none⟩) cs.length kv), (32, .int .i64 cs.length), (33, .int .i64 k), (49, .int .i64 (shp (cs.getD k default).op).length), (50, .int .i64 j)] e) ((shp (cs.getD k default).op).length) ?_ ?_
          · skip
            refine ⟨0, S41, by omega, by omega, ?_, hl41, hs41, ⟨rfl, rfl, rfl, rfl, rfl, rfl, rfl, rfl, rfl, trivial⟩⟩
            rw [w_u8] at hw41
            exact hw41
          intro m_ e_ H_ hI_
          obtain ⟨j, S2, hj, rfl, hwj, hlj, hsj, he⟩ := hI_
          refine CW_env he.sub ?_; clear he e_
          have hl5 := shp_len (cs.getD k default).op
          have hb7_ := hlj b7 _ (upd_same _ _ _)
          have hxk : (cs.getD k default).ok := hc _ (cd_mem (by omega))
          have hfl := ff_len hxk ((shp (cs.getD k default).op).take j)
          have htj : ((shp (cs.getD k default).op).take j).length ≤ 5 := by rw [List.length_take]; omega
          have hlnj : (cnt f ++ cnt cs.length ++ (cs.take k).flatMap encC ++ (((cs.getD k default).op % 256) :: ((shp (cs.getD k default).op).take j).flatMap (encF (cs.getD k default)))).length ≤ 2100 := by
            rw [List.length_append, List.length_cons]; omega
          refine CW_seq (fun K18 hK18 => ?_)
          refine CW_region ?_
          refine OW_opS (fun K hK r => ?_)
          simp (disch := (first | omega | decide)) only [x_bin, g_int, b_lss, dec_lt_t, dec_lt_f, dec_le_t, dec_le_f, dec_eq_t, dec_eq_f, Bool.not_true, Bool.not_false, eX, ↓reduceIte, Nat.reduceEqDiff, Int.reduceToNat]
          refine hK _ _ ?_; clear hK K
          refine OW_nil ?_
          try simp only [Ex.thnH, Ex.inBlockH, ↓reduceIte, Nat.reduceEqDiff]
          refine hK18 _ _ ?_; try clear hK18 K18
          refine CW_seq (fun K19 hK19 => ?_)
          refine CW_cond (fun r => rfl) (fun c51 => ?_) (fun c51 => ?_)
          · first
            | (exfalso; exact cnA c51; done)
            | skip
              (try simp only [decide_eq_true_eq, decide_eq_false_iff_not, Bool.not_eq_true, Bool.not_eq_false, Bool.and_eq_true, Bool.or_eq_true, Bool.or_eq_false_iff, Bool.not_eq_true, Bool.not_eq_eq_eq_not, Bool.not_true, Bool.not_false] at c51)
              refine CW_skip ?_
              try simp only [Ex.thnH, Ex.inBlockH, ↓reduceIte, Nat.reduceEqDiff]
              refine hK19 _ _ ?_; try clear hK19 K19
              refine CW_seq (fun K20 hK20 => ?_)
              refine CW_block ?_
              refine CW_seq (fun K21 hK21 => ?_)
              refine CW_region ?_
              refine OW_mv rfl ?_
              refine OW_as rfl ?_
              refine OW_nil ?_
              try simp only [Ex.thnH, Ex.inBlockH, ↓reduceIte, Nat.reduceEqDiff]
              refine hK21 _ _ ?_; try clear hK21 K21
              refine CW_seq (fun K22 hK22 => ?_)
              refine CW_region ?_
              refine OW_mv rfl ?_
              refine OW_mv rfl ?_
              refine OW_opS (fun K hK r => ?_)
              simp only [x_index, eX, ↓reduceIte, Nat.reduceEqDiff, Int.reduceToNat]
              refine Lt_letter Try.underlying9 (shp_bytes _) (by omega) ?_
              refine hK _ _ ?_; clear hK K
              refine OW_opS (fun K hK r => ?_)
              simp only [x_callF _ bd28, List.map_toArray, List.map_cons, List.map_nil, eX, ↓reduceIte, Nat.reduceEqDiff, Int.reduceToNat]
              refine (field_ok _ b7 (cs.getD k default) ((shp (cs.getD k default).op).getD j 0) hbA).mono ?_
              rintro v H' ⟨rfl, rfl⟩
              try simp only [eX, ↓reduceIte, Nat.reduceEqDiff, Int.reduceToNat]
              refine hK _ _ ?_; clear hK K
              refine OW_opS (fun K hK r => ?_)
              rw [x_nilCheck _ _ rfl]
              simp only [eX, ↓reduceIte, Nat.reduceEqDiff, Int.reduceToNat]
              refine hK _ _ ?_; clear hK K
              refine OW_opS (fun K hK r => ?_)
              simp only [x_load, eX, ↓reduceIte, Nat.reduceEqDiff, Int.reduceToNat]
              refine Lt_loadAt1 Try.underlying3 rfl hbA (v := .int .i64 ((cs.getD k default).fld ((shp (cs.getD k default).op).getD j 0))) (by rw [List.getElem?_toArray]; exact foff_get _ _) ?_
              refine hK _ _ ?_; clear hK K
              refine OW_as rfl ?_
              refine OW_nil ?_
              try simp only [Ex.thnH, Ex.inBlockH, ↓reduceIte, Nat.reduceEqDiff]
              refine hK22 _ _ ?_; try clear hK22 K22
              refine CW_seq (fun K23 hK23 => ?_)
              refine CW_region ?_
              refine OW_mv rfl ?_
              refine OW_mv rfl ?_
              refine OW_opS (fun K hK r => ?_)
              simp only [x_index, eX, ↓reduceIte, Nat.reduceEqDiff, Int.reduceToNat]
              refine Lt_letter Try.underlying9 (shp_bytes _) (by omega) ?_
              refine hK _ _ ?_; clear hK K
              refine OW_opS (fun K hK r => ?_)
              simp (disch := (first | omega | decide)) only [x_bin, g_int, b_eql, dec_lt_t, dec_lt_f, dec_le_t, dec_le_f, dec_eq_t, dec_eq_f, Bool.not_true, Bool.not_false, eX, ↓reduceIte, Nat.reduceEqDiff, Int.reduceToNat]
              refine hK _ _ ?_; clear hK K
              refine OW_nil ?_
              try simp only [Ex.thnH, Ex.inBlockH, ↓reduceIte, Nat.reduceEqDiff]
              refine hK23 _ _ ?_; try clear hK23 K23
              refine CW_cond (fun r => rfl) (fun c62 => ?_) (fun c62 => ?_)
              · first
                | (exfalso; exact cnA c62; done)
                | skip
                  (try simp only [decide_eq_true_eq, decide_eq_false_iff_not, Bool.not_eq_true, Bool.not_eq_false, Bool.and_eq_true, Bool.or_eq_true, Bool.or_eq_false_iff, Bool.not_eq_true, Bool.not_eq_eq_eq_not, Bool.not_true, Bool.not_false] at c62)
                  have e110 : (shp (cs.getD k default).op).getD j 0 = 110 := by first | assumption | simp_all
                  have efld : (cs.getD k default).fld ((shp (cs.getD k default).op).getD j 0) = (cs.getD k default).n := by rw [e110]; rfl
                  try simp only [efld]
                  refine CW_region ?_
                  refine OW_mv rfl ?_
                  refine OW_mv rfl ?_
                  refine OW_opS (fun K hK r => ?_)
                  simp only [x_callF _ bd29, List.map_toArray, List.map_cons, List.map_nil, eX, ↓reduceIte, Nat.reduceEqDiff, Int.reduceToNat]
                  refine (wNum_ok _ b18 _ _ hwj (cs.getD k default).n hxk.n1 hxk.n2 (by simp only [List.length_append, List.length_nil, List.length_cons] at *; omega)).mono ?_
                  rintro v65 H65 ⟨S65, hw65, hf65⟩
                  have hl65 := hf65.le hlj hsj
                  have hs65 := hf65.sep hlj hsj
                  have kH65_b7 := hl65 b7 _ (upd_same _ _ _)
                  have kH65_b1 := hl65 b1 _ hbA
                  have lH65_H : Le H H65 := Le.trans lhA hl65
                  try simp only [eX, ↓reduceIte, Nat.reduceEqDiff, Int.reduceToNat]
                  refine hK _ _ ?_; clear hK K
                  refine OW_nil ?_
                  try simp only [Ex.thnH, Ex.inBlockH, ↓reduceIte, Nat.reduceEqDiff]
                  refine hK20 _ _ ?_; try clear hK20 K20
                  refine CW_region ?_
                  refine OW_opS (fun K hK r => ?_)
                  simp (disch := (first | omega | decide)) only [x_bin, g_int, b_add, wrap_i64, wrap_u64, wrap_u32, wrap_u8, eX, ↓reduceIte, Nat.reduceEqDiff, Int.reduceToNat]
                  refine hK _ _ ?_; clear hK K
                  refine OW_mv rfl ?_
                  refine OW_nil ?_
                  try simp only [Ex.thnH, Ex.inBlockH, ↓reduceIte, Nat.reduceEqDiff]
                  first
                  | exact ⟨(shp (cs.getD k default).op).length - (j + 1), by omega, j + 1, S65, by omega, rfl, (by rw [encF_step _ (by omega), encF_n (by assumption)]; have h := hw65; rw [List.append_assoc, List.cons_append] at h; exact h), hl65, hs65, ⟨rfl, rfl, rfl, rfl, rfl, rfl, rfl, rfl, rfl, trivial⟩⟩
                  | exact ⟨(shp (cs.getD k default).op).length - (j + 1), by omega, j + 1, S69, by omega, rfl, (by rw [encF_step _ (by omega), encF_o (by assumption)]; have h := hw69; rw [List.append_assoc, List.cons_append] at h; exact h), hl69, hs69, ⟨rfl, rfl, rfl, rfl, rfl, rfl, rfl, rfl, rfl, trivial⟩⟩
              · first
                | (exfalso; exact cnA c62; done)
                | skip
                  (try simp only [decide_eq_true_eq, decide_eq_false_iff_not, Bool.not_eq_true, Bool.not_eq_false, Bool.and_eq_true, Bool.or_eq_true, Bool.or_eq_false_iff, Bool.not_eq_true, Bool.not_eq_eq_eq_not, Bool.not_true, Bool.not_false] at c62)
                  refine CW_region ?_
                  refine OW_mv rfl ?_
                  refine OW_mv rfl ?_
                  refine OW_opS (fun K hK r => ?_)
                  simp (disch := (first | omega | decide)) only [x_convert, c_int _ _ _ _ Try.underlying3 Try.underlying60, wrap_i64, wrap_u64, wrap_u32, wrap_u8, eX, ↓reduceIte, Nat.reduceEqDiff, Int.reduceToNat]
                  try rw [show IntKind.u64.wrap ((cs.getD k default).fld ((shp (cs.getD k default).op).getD j 0)) = (((IntKind.u64.wrap ((cs.getD k default).fld ((shp (cs.getD k default).op).getD j 0))).toNat : Nat) : Int) from (Int.toNat_of_nonneg (u64_nonneg _)).symm]
                  refine hK _ _ ?_; clear hK K
                  refine OW_opS (fun K hK r => ?_)
                  simp only [x_callF _ bd26, List.map_toArray, List.map_cons, List.map_nil, eX, ↓reduceIte, Nat.reduceEqDiff, Int.reduceToNat]
                  refine (wCount_ok _ b18 _ _ hwj (IntKind.u64.wrap ((cs.getD k default).fld ((shp (cs.getD k default).op).getD j 0))).toNat (by have := u64_lt ((cs.getD k default).fld ((shp (cs.getD k default).op).getD j 0)); omega) (by simp only [List.length_append, List.length_nil, List.length_cons] at *; omega)).mono ?_
                  rintro v69 H69 ⟨S69, hw69, hf69⟩
                  have hl69 := hf69.le hlj hsj
                  have hs69 := hf69.sep hlj hsj
                  have kH69_b7 := hl69 b7 _ (upd_same _ _ _)
                  have kH69_b1 := hl69 b1 _ hbA
                  have lH69_H : Le H H69 := Le.trans lhA hl69
                  try simp only [eX, ↓reduceIte, Nat.reduceEqDiff, Int.reduceToNat]
                  refine hK _ _ ?_; clear hK K
                  refine OW_nil ?_
                  try simp only [Ex.thnH, Ex.inBlockH, ↓reduceIte, Nat.reduceEqDiff]
                  refine hK20 _ _ ?_; try clear hK20 K20
                  refine CW_region ?_
                  refine OW_opS (fun K hK r => ?_)
                  simp (disch := (first | omega | decide)) only [x_bin, g_int, b_add, wrap_i64, wrap_u64, wrap_u32, wrap_u8, eX, ↓reduceIte, Nat.reduceEqDiff, Int.reduceToNat]
                  refine hK _ _ ?_; clear hK K
                  refine OW_mv rfl ?_
                  refine OW_nil ?_
                  try simp only [Ex.thnH, Ex.inBlockH, ↓reduceIte, Nat.reduceEqDiff]
                  first
                  | exact ⟨(shp (cs.getD k default).op).length - (j + 1), by omega, j + 1, S65, by omega, rfl, (by rw [encF_step _ (by omega), encF_n (by assumption)]; have h := hw65; rw [List.append_assoc, List.cons_append] at h; exact h), hl65, hs65, ⟨rfl, rfl, rfl, rfl, rfl, rfl, rfl, rfl, rfl, trivial⟩⟩
                  | exact ⟨(shp (cs.getD k default).op).length - (j + 1), by omega, j + 1, S69, by omega, rfl, (by rw [encF_step _ (by omega), encF_o (by assumption)]; have h := hw69; rw [List.append_assoc, List.cons_append] at h; exact h), hl69, hs69, ⟨rfl, rfl, rfl, rfl, rfl, rfl, rfl, rfl, rfl, trivial⟩⟩
          · first
            | (exfalso; exact cnA c51; done)
            | skip
              (try simp only [decide_eq_true_eq, decide_eq_false_iff_not, Bool.not_eq_true, Bool.not_eq_false, Bool.and_eq_true, Bool.or_eq_true, Bool.or_eq_false_iff, Bool.not_eq_true, Bool.not_eq_eq_eq_not, Bool.not_true, Bool.not_false] at c51)
              refine CW_exit ?_
              try simp only [Ex.thnH, Ex.inBlockH, ↓reduceIte, Nat.reduceEqDiff]
              refine hK13 _ _ ?_; try clear hK13 K13
              refine CW_region ?_
              refine OW_opS (fun K hK r => ?_)
              simp (disch := (first | omega | decide)) only [x_bin, g_int, b_add, wrap_i64, wrap_u64, wrap_u32, wrap_u8, eX, ↓reduceIte, Nat.reduceEqDiff, Int.reduceToNat]
              refine hK _ _ ?_; clear hK K
              refine OW_mv rfl ?_
              refine OW_nil ?_
              try simp only [Ex.thnH, Ex.inBlockH, ↓reduceIte, Nat.reduceEqDiff]
              have hj : j = (shp (cs.getD k default).op).length := by omega
              subst hj
              refine ⟨cs.length - (k + 1), by omega, k + 1, S2, by omega, rfl, ?_, Le.trans (le_upd _ _ _ (none_of_le hle hb7)) hlj, (fun b hb => none_of_le (le_upd _ _ _ (none_of_le hle hb7)) (hsj b hb)), ⟨rfl, rfl, rfl, rfl, rfl, trivial⟩⟩
              rw [List.take_length] at hwj
              rw [encCs_step (by omega), ← List.append_assoc]; exact hwj
      · first
        | (exfalso; exact cnA c34; done)
        | skip
          (try simp only [decide_eq_true_eq, decide_eq_false_iff_not, Bool.not_eq_true, Bool.not_eq_false, Bool.and_eq_true, Bool.or_eq_true, Bool.or_eq_false_iff, Bool.not_eq_true, Bool.not_eq_eq_eq_not, Bool.not_true, Bool.not_false] at c34)
          refine CW_exit ?_
          try simp only [Ex.thnH, Ex.inBlockH, ↓reduceIte, Nat.reduceEqDiff]
          refine hK9 _ _ ?_; try clear hK9 K9
          refine CW_seq (fun K24 hK24 => ?_)
          refine CW_region ?_
          refine OW_mv rfl ?_
          refine OW_opS (fun K hK r => ?_)
          simp only [x_callF _ bd30, List.map_toArray, List.map_cons, List.map_nil, eX, ↓reduceIte, Nat.reduceEqDiff, Int.reduceToNat]
          refine (out_ok _ b18 _ _ hw (by omega)).mono ?_
          rintro v73 H73 ⟨hl73, rs73, ho73, hr73⟩
          try simp only [eX, ↓reduceIte, Nat.reduceEqDiff, Int.reduceToNat]
          refine hK _ _ ?_; clear hK K
          refine OW_as rfl ?_
          refine OW_as rfl ?_
          refine OW_nil ?_
          try simp only [Ex.thnH, Ex.inBlockH, ↓reduceIte, Nat.reduceEqDiff]
          refine hK24 _ _ ?_; try clear hK24 K24
          refine CW_ret ?_
          try simp only [Ex.thnH, Ex.inBlockH, ↓reduceIte, Nat.reduceEqDiff]
          have ek : k = cs.length := by omega
          subst ek
          refine ⟨[_, _], ⟨rfl, rfl, trivial⟩, _, Le.refl _, _, none, rfl, (by exact Le.trans hlH hl73), ⟨fun _ => hck, fun _ => rfl⟩, (fun b hb => by cases hb), rs73, ?_, fun r hr => none_of_le hlH (hr73 r hr)⟩
          have e : encB f cs = cnt f ++ cnt cs.length ++ (cs.take cs.length).flatMap encC := by
            unfold encB encP; rw [if_pos hck, List.take_length]
            rw [show (IntKind.u64.wrap (f : Int)).toNat = f from by rw [wrap_u64 _ (by omega) (by omega)]; omega]
          rw [e]; exact ho73

end Go.Proofs.Ytlkopcgoaldpeaa.HL
