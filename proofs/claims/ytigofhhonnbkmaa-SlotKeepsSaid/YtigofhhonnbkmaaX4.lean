/- Parts of the proof, one behind the other: V53, V11, V12, V15, V16, V14, V17, V18, V19. -/
import Derived.Test.YtigofhhonnbkmaaX3
set_option linter.unusedSimpArgs false
set_option linter.unusedVariables false
section
namespace Go.Proofs.Ytigofhhonnbkmaa.HL
open Go Go.Proofs
set_option linter.unusedSimpArgs false
set_option linter.unusedVariables false
attribute [local irreducible] Lt Lq CW OW TW CallH

set_option maxRecDepth 100000 in
set_option maxHeartbeats 8000000 in
theorem mOpen_ok (H : Hp) (L : List Int) (hc : L.length = 64) (hBL : ByteL L) : CallH Try.prog 15 #[.agg (u8s L).toArray] H (fun v H' => Le H H' ∧ ∃ x rs, v = .tuple #[.agg #[.int .i64 (opMv L).gen, .int .i64 (opMv L).ep, .int .i64 (opMv L).ba, .int .i64 (opMv L).ar, .int .i64 (opMv L).ln, x], errV (opMe L)] ∧ OwnS H' 3 1 x (opMv L).hd.length (i64s (opMv L).hd) rs ∧ ∀ r, rs = some r → H r = none) := by
  refine CallH_enter (l := [_]) (rl := [.cell 2 27, .tmp 3]) (n := 68) Try.func15 rfl rfl rfl rfl rfl ?_
  simp only [envOf, Nat.reduceAdd]
  have hDl := opD_len L
  have hDB := opD_byte hBL
  refine CW_seq (fun K1 hK1 => ?_)
  refine CW_region ?_
  refine OW_opS (fun K hK r => ?_)
  simp only [x_box, Value.cells, eX, ↓reduceIte, Nat.reduceEqDiff, Int.reduceToNat]
  intro b1 hb1
  have f1_H : H b1 = none := none_of_le lhA hb1
  try simp only [eX, ↓reduceIte, Nat.reduceEqDiff, Int.reduceToNat]
  refine hK _ _ ?_; clear hK K
  refine OW_opS (fun K hK r => ?_)
  simp only [x_alloc, zr27, orF_some, Value.cells, eX, ↓reduceIte, Nat.reduceEqDiff, Int.reduceToNat]
  intro b2 hb2
  try have n2_b1 : b1 ≠ b2 := ne_of_none hbA hb2
  have f2_H : H b2 = none := none_of_le lhA hb2
  try simp only [eX, ↓reduceIte, Nat.reduceEqDiff, Int.reduceToNat]
  refine hK _ _ ?_; clear hK K
  refine OW_as rfl ?_
  refine OW_nil ?_
  try simp only [Ex.thnH, Ex.inBlockH, ↓reduceIte, Nat.reduceEqDiff]
  refine hK1 _ _ ?_; try clear hK1 K1
  refine CW_seq (fun K2 hK2 => ?_)
  refine CW_region ?_
  refine OW_opS (fun K hK r => ?_)
  simp only [x_load, eX, ↓reduceIte, Nat.reduceEqDiff, Int.reduceToNat]
  first | refine Lt_loadAll Try.underlying30 rfl sz30 hbA bdA ?_ | refine Lt_loadAtA Try.underlying30 rfl sz30 hbA bdA ?_
  try simp only [eX, ↓reduceIte, Nat.reduceEqDiff, Int.reduceToNat]
  refine hK _ _ ?_; clear hK K
  refine OW_opS (fun K hK r => ?_)
  simp only [x_callF _ bd42, List.map_toArray, List.map_cons, List.map_nil, eX, ↓reduceIte, Nat.reduceEqDiff, Int.reduceToNat]
  refine (Open_R _ L hc hBL).mono ?_
  rintro v13 H13 ⟨x13, ⟨hl13, rs13, ho13, hr13⟩, rfl⟩
  obtain ⟨a13, c13, rfl⟩ := ho13.holds.form
  try have kH13_b1 := hl13 b1 _ hbA
  try have kH13_b2 := hl13 b2 _ hbA
  have lH13_H : Le H H13 := Le.trans lhA hl13
  try simp only [eX, ↓reduceIte, Nat.reduceEqDiff, Int.reduceToNat]
  refine hK _ _ ?_; clear hK K
  refine OW_mv rfl ?_
  refine OW_opS (fun K hK r => ?_)
  simp only [x_extract, i_extract, List.getElem?_toArray, List.getElem?_cons_zero, List.getElem?_cons_succ, orF_some, eX, ↓reduceIte, Nat.reduceEqDiff, Int.reduceToNat]
  refine hK _ _ ?_; clear hK K
  refine OW_opS (fun K hK r => ?_)
  simp only [x_extract, i_extract, List.getElem?_toArray, List.getElem?_cons_zero, List.getElem?_cons_succ, orF_some, eX, ↓reduceIte, Nat.reduceEqDiff, Int.reduceToNat]
  refine hK _ _ ?_; clear hK K
  refine OW_opS (fun K hK r => ?_)
  simp only [x_alloc, zr89, orF_some, Value.cells, eX, ↓reduceIte, Nat.reduceEqDiff, Int.reduceToNat]
  intro b4 hb4
  try have n4_b1 : b1 ≠ b4 := ne_of_none hbA hb4
  try have n4_b2 : b2 ≠ b4 := ne_of_none hbA hb4
  have f4_H : H b4 = none := none_of_le lhA hb4
  try simp only [eX, ↓reduceIte, Nat.reduceEqDiff, Int.reduceToNat]
  refine hK _ _ ?_; clear hK K
  refine OW_op rfl (lt_none) (fun K hK r => ?_)
  simp only [x_store, eX, ↓reduceIte, Nat.reduceEqDiff, Int.reduceToNat]
  first | refine Lt_storeAll sz89 bdA hbA bdA plA (by decide) ?_ | refine Lt_storeAtA sz89 bdA hbA bdA plA (by decide) ?_
  try simp only [eX, ↓reduceIte, Nat.reduceEqDiff, Int.reduceToNat]
  refine hK _ _ ?_; clear hK K
  refine OW_as rfl ?_
  refine OW_nil ?_
  try simp only [Ex.thnH, Ex.inBlockH, ↓reduceIte, Nat.reduceEqDiff]
  refine hK2 _ _ ?_; try clear hK2 K2
  refine CW_seq (fun K3 hK3 => ?_)
  refine CW_seq (fun K4 hK4 => ?_)
  refine CW_region ?_
  refine OW_mv rfl ?_
  refine OW_opS (fun K hK r => ?_)
  simp only [x_bin, g_int, g_bool, g_string, g_pointer, g_slice, g_map, g_func, g_nilFunc, g_err, g_iface, g_nil_iface, g_nil_r, g_nil_l, eX, ↓reduceIte, Nat.reduceEqDiff, Int.reduceToNat]
  first | rw [b_err_neq _ _ Try.underlying32] | (rw [e_neq _ _ _ _ (by simp), q_equal]; first | rw [q_iface_nil _ _ _ Try.underlying32] | rw [q_nil_iface _ _ _ Try.underlying32] | rw [q_nil_nil _ _ _ Try.underlying32])
  try simp only [eX, ↓reduceIte, Nat.reduceEqDiff, Int.reduceToNat]
  refine hK _ _ ?_; clear hK K
  refine OW_nil ?_
  try simp only [Ex.thnH, Ex.inBlockH, ↓reduceIte, Nat.reduceEqDiff]
  refine hK4 _ _ ?_; try clear hK4 K4
  refine CW_cond (fun r => rfl) (fun c17 => ?_) (fun c17 => ?_)
  · first
    | (exfalso; exact cnA c17; done)
    | skip
      have hopn : openI L = none := by
        cases h : openI L with
        | none => rfl
        | some x => exfalso; unfold opE at c17; rw [h] at c17; cases c17
      refine CW_seq (fun K5 hK5 => ?_)
      refine CW_region ?_
      refine OW_opS (fun K hK r => ?_)
      simp only [x_build, bp27, List.map_toArray, List.map_cons, List.map_nil, eX, ↓reduceIte, Nat.reduceEqDiff, Int.reduceToNat]
      simp only [fill_nil, orF_some, List.setIfInBounds_toArray, List.set_cons_zero, List.set_cons_succ]
      try simp only [eX, ↓reduceIte, Nat.reduceEqDiff, Int.reduceToNat]
      refine hK _ _ ?_; clear hK K
      refine OW_opS (fun K hK r => ?_)
      simp only [x_makeInterface, i_makeInterface, Try.underlying38, orF_some, eX, ↓reduceIte, Nat.reduceEqDiff, Int.reduceToNat]
      refine hK _ _ ?_; clear hK K
      refine OW_op rfl (lt_none) (fun K hK r => ?_)
      simp only [x_store, eX, ↓reduceIte, Nat.reduceEqDiff, Int.reduceToNat]
      first | refine Lt_storeAll sz27 bdA hbA bdA plA (by decide) ?_ | refine Lt_storeAtA sz27 bdA hbA bdA plA (by decide) ?_
      try simp only [eX, ↓reduceIte, Nat.reduceEqDiff, Int.reduceToNat]
      refine hK _ _ ?_; clear hK K
      refine OW_as rfl ?_
      refine OW_nil ?_
      try simp only [Ex.thnH, Ex.inBlockH, ↓reduceIte, Nat.reduceEqDiff]
      refine hK5 _ _ ?_; try clear hK5 K5
      refine CW_ret ?_
      try simp only [Ex.thnH, Ex.inBlockH, ↓reduceIte, Nat.reduceEqDiff]
      obtain ⟨e1, e2⟩ := opM_no (opM_bad hopn)
      rw [e1, e2]
      refine ⟨[_, _], ⟨⟨_, rfl, Lq_loadAll Try.underlying27 rfl sz27 hbA bdA⟩, rfl, trivial⟩, _, Le.refl _, lhA, .slice none 0 0, none, ?_, OwnS.nil _ _ _, fun r hr => by cases hr⟩
      rfl
  · first
    | (exfalso; exact cnA c17; done)
    | skip
      skip
      refine CW_skip ?_
      try simp only [Ex.thnH, Ex.inBlockH, ↓reduceIte, Nat.reduceEqDiff]
      refine hK3 _ _ ?_; try clear hK3 K3
      refine CW_seq (fun K6 hK6 => ?_)
      refine CW_region ?_
      refine OW_opS (fun K hK r => ?_)
      simp only [x_fieldAddr, fa89_2, add_mk, Nat.reduceAdd, Nat.zero_add, eX, ↓reduceIte, Nat.reduceEqDiff, Int.reduceToNat]
      refine hK _ _ ?_; clear hK K
      refine OW_opS (fun K hK r => ?_)
      simp only [x_load, eX, ↓reduceIte, Nat.reduceEqDiff, Int.reduceToNat]
      refine Lt_loadAt1 Try.underlying80 rfl hbA ldA ?_
      try simp only [eX, ↓reduceIte, Nat.reduceEqDiff, Int.reduceToNat]
      refine hK _ _ ?_; clear hK K
      refine OW_opS (fun K hK r => ?_)
      simp only [x_callF _ bd43, List.map_toArray, List.map_cons, List.map_nil, eX, ↓reduceIte, Nat.reduceEqDiff, Int.reduceToNat]
      refine (newReader_ok _ _ (opD L) (ho13.holds.le lhA) (by omega)).mono ?_
      rintro v22 H22 ⟨hl22, p, a22, c22, rfl, hp0, hr22, hA22⟩
      have k22_1 := hl22 b1 _ hbA
      have k22_2 := hl22 b2 _ hbA
      have k22_4 := hl22 b4 _ hbA
      have np1 : b1 ≠ p := ne_of_none hbA hp0
      have np2 : b2 ≠ p := ne_of_none hbA hp0
      have np4 : b4 ≠ p := ne_of_none hbA hp0
      have lH22_H : Le H H22 := Le.trans lhA hl22
      have fp_H : H p = none := none_of_le lhA hp0
      have kp22 := hr22.1
      obtain ⟨G, hG⟩ : ∃ G : Hp, G = H22.del p := ⟨_, rfl⟩
      have gp : G p = none := by rw [hG]; exact del_self _ _
      have lG : Le H G := by rw [hG]; exact le_del_of lH22_H fp_H
      have g1 : G b1 = _ := (by rw [hG]; exact del_ne _ np1 : G b1 = H22 b1).trans k22_1
      have g2 : G b2 = _ := (by rw [hG]; exact del_ne _ np2 : G b2 = H22 b2).trans k22_2
      have g4 : G b4 = _ := (by rw [hG]; exact del_ne _ np4 : G b4 = H22 b4).trans k22_4
      have gA : ∀ A, a22 = some A → ∃ o, G A.block = some o := fun A hA => by
        obtain ⟨_, h2, c, h3, _⟩ := hA22 A hA
        exact ⟨_, by rw [hG, del_ne _ h2]; exact h3⟩
      try simp only [eX, ↓reduceIte, Nat.reduceEqDiff, Int.reduceToNat]
      refine hK _ _ ?_; clear hK K
      refine OW_as rfl ?_
      refine OW_nil ?_
      try simp only [Ex.thnH, Ex.inBlockH, ↓reduceIte, Nat.reduceEqDiff]
      refine hK6 _ _ ?_; try clear hK6 K6
      refine CW_seq (fun K7 hK7 => ?_)
      obtain ⟨R5, hR5⟩ : ∃ R : Hp, R = emptyHp.upd b4 (.cells #[.int .i64 (opS L), .int .i64 (opK L), .slice a13 (opD L).length c13] 89) := ⟨_, rfl⟩
      refine CW_drawR [0, 1, 0, 2, 0, 2, 0, 2, 0, 2, 0, 4, 3] [0, 1, 2, 3, 4, 5, 6, 7, 8, 9, 10, 11, 12] R5 (by kernel_rfl) (by kernel_rfl) (by subst hR5; exact le_put (le_empty _) k22_4) (fun lR5 => ?_)
      apply TW_pure rfl (lt_some (by decide)) rfl
      · intro r
        simp only [x_fieldAddr, fa89_0, add_mk, Nat.reduceAdd, Nat.zero_add, eX, ↓reduceIte, Nat.reduceEqDiff]
        exact ⟨rfl, Le.refl _⟩
      simp only [eX, ↓reduceIte, Nat.reduceEqDiff, Int.reduceToNat]
      apply TW_look rfl (lt_some (by decide)) rfl
      · intro r
        simp only [x_load, eX, ↓reduceIte, Nat.reduceEqDiff]
        refine Lt_loadAt1 Try.underlying3 rfl hbA ldA ?_
        exact ⟨rfl, Le.refl _⟩
      simp only [eX, ↓reduceIte, Nat.reduceEqDiff, Int.reduceToNat]
      apply TW_pure rfl (lt_some (by decide)) rfl
      · intro r
        simp only [x_move, eX, ↓reduceIte, Nat.reduceEqDiff]
        exact ⟨rfl, Le.refl _⟩
      simp only [eX, ↓reduceIte, Nat.reduceEqDiff, Int.reduceToNat]
      refine TW_chain rfl (lt_some (by decide)) rfl (fun K hK r => ?_)
      simp only [x_callF _ bd44, List.map_toArray, List.map_cons, List.map_nil, eX, ↓reduceIte, Nat.reduceEqDiff, Int.reduceToNat]
      refine (small_ok _ p _ _ _ _ hr22 hDB (by omega)).mono ?_
      rintro v26 H26 ⟨res1, hq26, rfl, a26, c26, hr26, ⟨o26, rfl⟩, hs26⟩
      obtain ⟨hB26, hl26⟩ := hq26.byte hDB
      try rw [upd_upd] at hr26
      try rw [upd_upd]
      have lR26 : Le R5 (H22.upd p o26) := by rw [hR5]; exact le_put (le_empty _) ((upd_ne _ _ np4).trans k22_4)
      try simp only [eX, ↓reduceIte, Nat.reduceEqDiff, Int.reduceToNat]
      refine hK _ _ leA ?_; clear hK K
      apply TW_pure rfl (lt_some (by decide)) rfl
      · intro r
        simp only [x_move, eX, ↓reduceIte, Nat.reduceEqDiff]
        exact ⟨rfl, Le.refl _⟩
      simp only [eX, ↓reduceIte, Nat.reduceEqDiff, Int.reduceToNat]
      refine TW_chain rfl (lt_some (by decide)) rfl (fun K hK r => ?_)
      simp only [x_callF _ bd44, List.map_toArray, List.map_cons, List.map_nil, eX, ↓reduceIte, Nat.reduceEqDiff, Int.reduceToNat]
      refine (small_ok _ p _ _ _ _ hr26 hB26 (by omega)).mono ?_
      rintro v28 H28 ⟨res2, hq28, rfl, a28, c28, hr28, ⟨o28, rfl⟩, hs28⟩
      obtain ⟨hB28, hl28⟩ := hq28.byte hB26
      try rw [upd_upd] at hr28
      try rw [upd_upd]
      have lR28 : Le R5 (H22.upd p o28) := by rw [hR5]; exact le_put (le_empty _) ((upd_ne _ _ np4).trans k22_4)
      try simp only [eX, ↓reduceIte, Nat.reduceEqDiff, Int.reduceToNat]
      refine hK _ _ leA ?_; clear hK K
      apply TW_pure rfl (lt_some (by decide)) rfl
      · intro r
        simp only [x_move, eX, ↓reduceIte, Nat.reduceEqDiff]
        exact ⟨rfl, Le.refl _⟩
      simp only [eX, ↓reduceIte, Nat.reduceEqDiff, Int.reduceToNat]
      refine TW_chain rfl (lt_some (by decide)) rfl (fun K hK r => ?_)
      simp only [x_callF _ bd44, List.map_toArray, List.map_cons, List.map_nil, eX, ↓reduceIte, Nat.reduceEqDiff, Int.reduceToNat]
      refine (small_ok _ p _ _ _ _ hr28 hB28 (by omega)).mono ?_
      rintro v30 H30 ⟨res3, hq30, rfl, a30, c30, hr30, ⟨o30, rfl⟩, hs30⟩
      obtain ⟨hB30, hl30⟩ := hq30.byte hB28
      try rw [upd_upd] at hr30
      try rw [upd_upd]
      have lR30 : Le R5 (H22.upd p o30) := by rw [hR5]; exact le_put (le_empty _) ((upd_ne _ _ np4).trans k22_4)
      try simp only [eX, ↓reduceIte, Nat.reduceEqDiff, Int.reduceToNat]
      refine hK _ _ leA ?_; clear hK K
      apply TW_pure rfl (lt_some (by decide)) rfl
      · intro r
        simp only [x_move, eX, ↓reduceIte, Nat.reduceEqDiff]
        exact ⟨rfl, Le.refl _⟩
      simp only [eX, ↓reduceIte, Nat.reduceEqDiff, Int.reduceToNat]
      refine TW_chain rfl (lt_some (by decide)) rfl (fun K hK r => ?_)
      simp only [x_callF _ bd44, List.map_toArray, List.map_cons, List.map_nil, eX, ↓reduceIte, Nat.reduceEqDiff, Int.reduceToNat]
      refine (small_ok _ p _ _ _ _ hr30 hB30 (by omega)).mono ?_
      rintro v32 H32 ⟨res4, hq32, rfl, a32, c32, hr32, ⟨o32, rfl⟩, hs32⟩
      obtain ⟨hB32, hl32⟩ := hq32.byte hB30
      try rw [upd_upd] at hr32
      try rw [upd_upd]
      have lR32 : Le R5 (H22.upd p o32) := by rw [hR5]; exact le_put (le_empty _) ((upd_ne _ _ np4).trans k22_4)
      have q4 := (Q0.start (L := L)).four hq26 hq28 hq30 hq32
      try simp only [eX, ↓reduceIte, Nat.reduceEqDiff, Int.reduceToNat]
      refine hK _ _ leA ?_; clear hK K
      apply TW_pure rfl (lt_some (by decide)) rfl
      · intro r
        simp only [x_build, bp27, List.map_toArray, List.map_cons, List.map_nil, eX, ↓reduceIte, Nat.reduceEqDiff]
        rw [fill_one rfl clA bdA]
        rw [fill_one rfl clA bdA]
        rw [fill_one rfl clA bdA]
        rw [fill_one rfl clA bdA]
        rw [fill_one rfl clA bdA]
        simp only [fill_nil, orF_some, List.setIfInBounds_toArray, List.set_cons_zero, List.set_cons_succ]
        exact ⟨rfl, Le.refl _⟩
      simp only [eX, ↓reduceIte, Nat.reduceEqDiff, Int.reduceToNat]
      refine TW_make rfl (lt_some (by decide)) rfl (fun K hK r => ?_)
      simp only [x_alloc, zr27, orF_some, Value.cells, eX, ↓reduceIte, Nat.reduceEqDiff, Int.reduceToNat]
      intro b7 hb7
      try have n7_b1 : b1 ≠ b7 := ne_of_none hbA hb7
      try have n7_b2 : b2 ≠ b7 := ne_of_none hbA hb7
      try have n7_b4 : b4 ≠ b7 := ne_of_none hbA hb7
      have f7_H : H b7 = none := none_of_le lhA hb7
      have f7_R5 : R5 b7 = none := none_of_le lhA hb7
      try simp only [eX, ↓reduceIte, Nat.reduceEqDiff, Int.reduceToNat]
      refine hK _ _ ?_; clear hK K
      refine TW_last rfl (lt_none) rfl (fun K hK r => ?_)
      simp only [x_store, eX, ↓reduceIte, Nat.reduceEqDiff, Int.reduceToNat]
      first | refine Lt_storeAll sz27 bdA hbA bdA plA (by decide) ?_ | refine Lt_storeAtA sz27 bdA hbA bdA plA (by decide) ?_
      try simp only [eX, ↓reduceIte, Nat.reduceEqDiff, Int.reduceToNat]
      refine hK _ _ ?_; clear hK K
      refine TW_nil ?_
      try simp only [Ex.thnH, Ex.inBlockH, ↓reduceIte, Nat.reduceEqDiff]
      refine hK7 _ _ ?_; try clear hK7 K7
      refine CW_seq (fun K8 hK8 => ?_)
      refine CW_seq (fun K9 hK9 => ?_)
      refine CW_region ?_
      refine OW_mv rfl ?_
      refine OW_opS (fun K hK r => ?_)
      simp only [x_callF _ bd44, List.map_toArray, List.map_cons, List.map_nil, eX, ↓reduceIte, Nat.reduceEqDiff, Int.reduceToNat]
      have k7p : b7 ≠ p := fun e => by rw [e] at hb7; rw [upd_same] at hb7; cases hb7
      have hr35 : RD ((H22.upd p o32).upd b7 (.cells #[.int .i64 (opS L), .int .i64 (smN res1), .int .i64 (smN res2), .int .i64 (smN res3), .int .i64 (smN res4), .slice none 0 0] 27)) p a32 c32 (rcL res4) res4.isNone := hr32.keep (fun o ho => by rw [upd_ne _ _ k7p.symm]; exact ho) (fun A o _ ho => by rw [upd_ne _ _ (fun e => by rw [e, hb7] at ho; cases ho)]; exact ho)
      refine (small_ok _ p _ _ _ _ hr35 hB32 (by omega)).mono ?_
      rintro v35 H35 ⟨res5, hq35, rfl, a35, c35, hr35', ⟨o35, rfl⟩, hs35⟩
      obtain ⟨hB35, hl35⟩ := hq35.byte hB32
      have q5 := q4.heads hq35
      obtain ⟨HS, hHS⟩ : ∃ HS : Hp, HS = ((H22.upd p o32).upd b7 (.cells #[.int .i64 (opS L), .int .i64 (smN res1), .int .i64 (smN res2), .int .i64 (smN res3), .int .i64 (smN res4), .slice none 0 0] 27)).upd p o35 := ⟨_, rfl⟩
      rw [← hHS] at hr35' ⊢
      have g7 : G b7 = none := none_of_le (fun b o hb => by rw [hG] at hb; rw [upd_ne _ _ (fun e => by rw [e, del_self] at hb; cases hb)]; exact le_del _ _ b o hb) hb7
      have lGS : Le G HS := fun b o hb => by
        have n1 : b ≠ p := fun e => by rw [e, gp] at hb; cases hb
        have n2 : b ≠ b7 := fun e => by rw [e, g7] at hb; cases hb
        rw [hHS, upd_ne _ _ n1, upd_ne _ _ n2, upd_ne _ _ n1]
        rw [hG] at hb
        exact le_del _ _ b o hb
      have kS7 : HS b7 = some (.cells #[.int .i64 (opS L), .int .i64 (smN res1), .int .i64 (smN res2), .int .i64 (smN res3), .int .i64 (smN res4), .slice none 0 0] 27) := by rw [hHS, upd_ne _ _ k7p]; exact upd_same _ _ _
      have hsb5 : SameB a22 a35 := (((hs26.trans hs28).trans hs30).trans hs32).trans hs35
      try simp only [eX, ↓reduceIte, Nat.reduceEqDiff, Int.reduceToNat]
      refine hK _ _ ?_; clear hK K
      refine OW_as rfl ?_
      refine OW_nil ?_
      try simp only [Ex.thnH, Ex.inBlockH, ↓reduceIte, Nat.reduceEqDiff]
      refine hK9 _ _ ?_; try clear hK9 K9
      refine CW_block ?_
      refine CW_loop (fun m_ e H_ => ∃ (hs l : List Int) (bad : Bool) (a vca : Option Addr) (c vc : Nat) (rs : Option Nat), m_ = l.length ∧ l.length + hs.length ≤ 50 ∧ ByteL l ∧ RD H_ p a c l bad ∧ SameB a22 a ∧ Le G H_ ∧ H_ b7 = some (.cells #[.int .i64 (opS L), .int .i64 (smN res1), .int .i64 (smN res2), .int .i64 (smN res3), .int .i64 (smN res4), .slice vca hs.length vc] 27) ∧ OwnS H_ 3 1 (.slice vca hs.length vc) hs.length (i64s hs) rs ∧ (∀ r, rs = some r → G r = none ∧ r ≠ p ∧ r ≠ b7) ∧ QH L l bad (Mf.mk (opS L) (smN res1) (smN res2) (smN res3) (smN res4) hs) (smN res5) ∧ Env.has [(1, .pointer (some ⟨b1, 0, none⟩)), (2, .pointer (some ⟨b2, 0, none⟩)), (6, .pointer (some ⟨p, 0, none⟩)), (7, .pointer (some ⟨b7, 0, none⟩)), (8, .int .i64 (smN res5))] e) ((rcL res5).length) ?_ ?_
      · skip
        exact ⟨[], rcL res5, res5.isNone, a35, none, c35, 0, none, rfl, by simp; omega, hB35, hr35', hsb5, lGS, kS7, OwnS.nil _ _ _, (fun r hr => by cases hr), q5, rfl, rfl, rfl, rfl, rfl, trivial⟩
      intro m_ e_ H_ hI_
      obtain ⟨hs, l, bad, a, vca, c, vc, rs, rfl, hln, hBl, hrd, hsb, lGH, k7, ho, hrs, hQ, he⟩ := hI_
      refine CW_env he.sub ?_; clear he e_
      have kp := hrd.1
      have k1 := lGH b1 _ g1
      have k2 := lGH b2 _ g2
      have nrp : rs ≠ some p := fun e => (hrs _ e).2.1 rfl
      refine CW_seq (fun K10 hK10 => ?_)
      refine CW_seq (fun K11 hK11 => ?_)
      refine CW_region ?_
      refine OW_opS (fun K hK r => ?_)
      simp only [x_fieldAddr, fa27_5, add_mk, Nat.reduceAdd, Nat.zero_add, eX, ↓reduceIte, Nat.reduceEqDiff, Int.reduceToNat]
      refine hK _ _ ?_; clear hK K
      refine OW_opS (fun K hK r => ?_)
      simp only [x_load, eX, ↓reduceIte, Nat.reduceEqDiff, Int.reduceToNat]
      refine Lt_loadAt1 Try.underlying22 rfl hbA ldA ?_
      try simp only [eX, ↓reduceIte, Nat.reduceEqDiff, Int.reduceToNat]
      refine hK _ _ ?_; clear hK K
      refine OW_opS (fun K hK r => ?_)
      simp only [x_builtin, l_len, List.map_toArray, List.map_cons, List.map_nil, i_len_slice _ _ Try.underlying22, eX, ↓reduceIte, Nat.reduceEqDiff, Int.reduceToNat]
      refine hK _ _ ?_; clear hK K
      refine OW_mv rfl ?_
      refine OW_opS (fun K hK r => ?_)
      simp (disch := (first | omega | decide)) only [x_bin, g_int, b_lss, dec_lt_t, dec_lt_f, dec_le_t, dec_le_f, dec_eq_t, dec_eq_f, Bool.not_true, Bool.not_false, eX, ↓reduceIte, Nat.reduceEqDiff, Int.reduceToNat]
      refine hK _ _ ?_; clear hK K
      refine OW_mv rfl ?_
      (first | refine OW_split (d := 41) rfl (fun g41 => ?_) (fun g41 => ?_) | skip)
      all_goals try (exfalso; exact cnA g41)
      all_goals (try simp only [decide_eq_true_eq, decide_eq_false_iff_not, Bool.not_eq_true, Bool.not_eq_false, Bool.and_eq_true, Bool.or_eq_true, Bool.or_eq_false_iff, Bool.not_eq_true, Bool.not_eq_eq_eq_not, Bool.not_true, Bool.not_false] at g41)
      all_goals
        try simp only [eX, ↓reduceIte, Nat.reduceEqDiff, Int.reduceToNat]
        first
        | refine OW_guardT rfl (lt_some (by decide)) rfl (fun K hK r => ?_)
          simp only [x_move, eX, ↓reduceIte, Nat.reduceEqDiff, Int.reduceToNat]
          refine hK _ _ ?_; clear hK K
        | refine OW_guardF rfl (lt_some (by decide)) rfl ?_
          simp only [eX, ↓reduceIte, Nat.reduceEqDiff, Int.reduceToNat]
        first
        | refine OW_guardT rfl (lt_some (by decide)) rfl (fun K hK r => ?_)
          simp only [x_callF _ bd45, List.map_toArray, List.map_cons, List.map_nil, eX, ↓reduceIte, Nat.reduceEqDiff, Int.reduceToNat]
          refine (rLeft_ok _ p _ _ _ _ hrd).mono ?_
          rintro v H' ⟨rfl, hq⟩
          have hq := hq.symm
          subst hq
          try simp only [eX, ↓reduceIte, Nat.reduceEqDiff, Int.reduceToNat]
          refine hK _ _ ?_; clear hK K
        | refine OW_guardF rfl (lt_some (by decide)) rfl ?_
          simp only [eX, ↓reduceIte, Nat.reduceEqDiff, Int.reduceToNat]
        first
        | refine OW_guardT rfl (lt_some (by decide)) rfl (fun K hK r => ?_)
          simp (disch := (first | omega | decide)) only [x_bin, g_int, b_gtr, dec_lt_t, dec_lt_f, dec_le_t, dec_le_f, dec_eq_t, dec_eq_f, Bool.not_true, Bool.not_false, eX, ↓reduceIte, Nat.reduceEqDiff, Int.reduceToNat]
          refine hK _ _ ?_; clear hK K
        | refine OW_guardF rfl (lt_some (by decide)) rfl ?_
          simp only [eX, ↓reduceIte, Nat.reduceEqDiff, Int.reduceToNat]
        refine OW_opS (fun K hK r => ?_)
        simp only [x_pick, l_asBool, HL.ite_bool, if_true, if_false, Bool.false_eq_true, eX, ↓reduceIte, Nat.reduceEqDiff, Int.reduceToNat]
        refine hK _ _ ?_; clear hK K
        refine OW_nil ?_
        try simp only [Ex.thnH, Ex.inBlockH, ↓reduceIte, Nat.reduceEqDiff]
        refine hK11 _ _ ?_; try clear hK11 K11
        refine CW_cond (fun r => rfl) (fun c45 => ?_) (fun c45 => ?_)
        · first
          | (exfalso; exact cnA c45; done)
          | skip
            (try simp only [decide_eq_true_eq, decide_eq_false_iff_not, Bool.not_eq_true, Bool.not_eq_false, Bool.and_eq_true, Bool.or_eq_true, Bool.or_eq_false_iff, Bool.not_eq_true, Bool.not_eq_eq_eq_not, Bool.not_true, Bool.not_false] at c45)
            refine CW_skip ?_
            try simp only [Ex.thnH, Ex.inBlockH, ↓reduceIte, Nat.reduceEqDiff]
            refine hK10 _ _ ?_; try clear hK10 K10
            refine CW_block ?_
            obtain ⟨R8, hR8⟩ : ∃ R : Hp, R = emptyHp.upd b7 (.cells #[.int .i64 (opS L), .int .i64 (smN res1), .int .i64 (smN res2), .int .i64 (smN res3), .int .i64 (smN res4), .slice vca hs.length vc] 27) := ⟨_, rfl⟩
            refine CW_drawR [0, 1, 0, 2, 2, 3, 0, 3] [0, 1, 2, 3, 4, 5, 6, 7] R8 (by kernel_rfl) (by kernel_rfl) (by subst hR8; exact le_put (le_empty _) k7) (fun lR8 => ?_)
            apply TW_pure rfl (lt_some (by decide)) rfl
            · intro r
              simp only [x_fieldAddr, fa27_5, add_mk, Nat.reduceAdd, Nat.zero_add, eX, ↓reduceIte, Nat.reduceEqDiff]
              exact ⟨rfl, Le.refl _⟩
            simp only [eX, ↓reduceIte, Nat.reduceEqDiff, Int.reduceToNat]
            apply TW_look rfl (lt_some (by decide)) rfl
            · intro r
              simp only [x_load, eX, ↓reduceIte, Nat.reduceEqDiff]
              refine Lt_loadAt1 Try.underlying22 rfl hbA ldA ?_
              exact ⟨rfl, Le.refl _⟩
            simp only [eX, ↓reduceIte, Nat.reduceEqDiff, Int.reduceToNat]
            apply TW_pure rfl (lt_some (by decide)) rfl
            · intro r
              simp only [x_move, eX, ↓reduceIte, Nat.reduceEqDiff]
              exact ⟨rfl, Le.refl _⟩
            simp only [eX, ↓reduceIte, Nat.reduceEqDiff, Int.reduceToNat]
            refine TW_chain rfl (lt_some (by decide)) rfl (fun K hK r => ?_)
            simp only [x_callF _ bd44, List.map_toArray, List.map_cons, List.map_nil, eX, ↓reduceIte, Nat.reduceEqDiff, Int.reduceToNat]
            refine (small_ok _ p _ _ _ _ hrd hBl (by omega)).mono ?_
            rintro v49 H49 ⟨res6, hq49, rfl, a49, c49, hr49, ⟨o49, rfl⟩, hs49⟩
            obtain ⟨hB49, hl49⟩ := hq49.byte hBl
            have hless := hq49.less (by omega)
            have lR49 : Le R8 (H_.upd p o49) := by rw [hR8]; exact le_put (le_empty _) ((upd_ne _ _ k7p).trans k7)
            have w7 : (H_.upd p o49) b7 = _ := (upd_ne _ _ k7p).trans k7
            have lR5_49 : Le R5 (H_.upd p o49) := by rw [hR5]; exact le_put (le_empty _) ((upd_ne _ _ np4).trans (lGH b4 _ g4))
            have lH_49 : Le H (H_.upd p o49) := le_upd_of (Le.trans lG lGH) fp_H
            have ho49 := ho.upd (o := o49) nrp
            try simp only [eX, ↓reduceIte, Nat.reduceEqDiff, Int.reduceToNat]
            refine hK _ _ leA ?_; clear hK K
            refine TW_chain rfl (lt_some (by decide)) rfl (fun K hK r => ?_)
            simp only [x_buildSlice, List.map_toArray, List.map_cons, List.map_nil, eX, ↓reduceIte, Nat.reduceEqDiff, Int.reduceToNat]
            refine Lt_buildSlice (vs := [_]) Try.underlying22 sz3 zr3 rfl bsA (by first | decide | (simp; done)) ?_
            simp only [List.flatMap_cons, List.flatMap_nil, Value.cells, List.append_nil, List.cons_append, List.nil_append, List.length_cons, List.length_nil, Nat.zero_add, Nat.reduceAdd]
            intro b50 hb50
            try have n50_b1 : b1 ≠ b50 := ne_of_none hbA hb50
            try have n50_b2 : b2 ≠ b50 := ne_of_none hbA hb50
            try have n50_b4 : b4 ≠ b50 := ne_of_none hbA hb50
            try have n50_b7 : b7 ≠ b50 := ne_of_none hbA hb50
            have f50_H : H b50 = none := none_of_le lhA hb50
            have f50_R5 : R5 b50 = none := none_of_le lhA hb50
            have f50_R8 : R8 b50 = none := none_of_le lhA hb50
            try simp only [eX, ↓reduceIte, Nat.reduceEqDiff, Int.reduceToNat]
            refine hK _ _ leA ?_; clear hK K
            refine TW_last rfl (lt_some (by decide)) rfl (fun K hK r => ?_)
            simp only [x_builtin, l_append, List.map_toArray, List.map_cons, List.map_nil, eX, ↓reduceIte, Nat.reduceEqDiff, Int.reduceToNat]
            refine Lt_append Try.underlying22 Try.underlying22 (by simp) sz3 by3 (by decide) zr3 rfl _ (n := hs.length) (m := 1) (ds := [.int .i64 (smN res6)]) (ho49.make hb50) (len_slice _ _ _) (fun Kx => ?_) (by simp) plA (by omega) ?_
            · refine (first_holds (w := 1) (n := 1) (cs := [.int .i64 (smN res6)]) ⟨rfl, .inr ⟨b50, 0, 1, _, _, _, rfl, hbA, by simp, by simp⟩⟩ (Nat.le_refl _) Kx).trans ?_
              rfl
            intro v51 H51 rs51 hg51 ho51 hr51
            obtain ⟨a51, c51, rfl⟩ := ho51.holds.form
            have lGx : Le G (H_.upd p o49) := le_upd_of lGH gp
            have g50 : G b50 = none := none_of_le lGx hb50
            have n50p : p ≠ b50 := fun e => by rw [← e, upd_same] at hb50; cases hb50
            have n507 : b7 ≠ b50 := fun e => by rw [← e, w7] at hb50; cases hb50
            have k51_7 := hg51.known b7 _ ((upd_ne _ _ n507).trans w7) (fun e => (hrs _ e).2.2 rfl)
            have lG51 : Le G H51 := hg51.le (H0 := G) (le_upd_of lGx g50) (fun r hr => (hrs r hr).1)
            have hA49 := SameB.inG gA (hsb.trans hs49)
            have hrd51 : RD H51 p a49 c49 (rcL res6) res6.isNone := hr49.inG (fun o ho => hg51.known p o ((upd_ne _ _ n50p).trans ho) nrp) lGx lG51 hA49
            have lG7 : ∀ o, Le G (H51.upd b7 o) := fun o => le_upd_of lG51 g7
            have hrd7 : ∀ o, RD (H51.upd b7 o) p a49 c49 (rcL res6) res6.isNone := fun o => hrd51.inG (fun o' ho => by rw [upd_ne _ _ k7p.symm]; exact ho) lG51 (lG7 o) hA49
            have hrs51 : ∀ r, rs51 = some r → G r = none ∧ r ≠ p ∧ r ≠ b7 := fun r e => (hr51 r e).elim (hrs r) (fun hn => ⟨none_of_le (le_upd_of lGx g50) hn, (fun e => by rw [e, upd_ne _ _ n50p, upd_same] at hn; cases hn), (fun e => by rw [e, upd_ne _ _ n507, w7] at hn; cases hn)⟩)
            have hol : OwnS H51 3 1 (.slice a51 (hs ++ [smN res6]).length c51) (hs ++ [smN res6]).length (i64s (hs ++ [smN res6])) rs51 := by
              rw [List.length_append]
              have : i64s (hs ++ [smN res6]) = i64s hs ++ [.int .i64 (smN res6)] := by simp [i64s]
              rw [this]; exact ho51
            refine hK _ _ ?_; clear hK K
            apply TW_pure rfl (lt_some (by decide)) rfl
            · intro r
              simp only [x_fieldAddr, fa27_5, add_mk, Nat.reduceAdd, Nat.zero_add, eX, ↓reduceIte, Nat.reduceEqDiff]
              exact ⟨rfl, Le.refl _⟩
            simp only [eX, ↓reduceIte, Nat.reduceEqDiff, Int.reduceToNat]
            refine TW_last rfl (lt_none) rfl (fun K hK r => ?_)
            simp only [x_store, eX, ↓reduceIte, Nat.reduceEqDiff, Int.reduceToNat]
            refine Lt_storeAt1 sz22 hbA bdA plA fzA ?_
            try simp only [setL0, setL1, setL2, setL3, setL4, setL5, setL6, setL7, setL8, setL9]
            try simp only [eX, ↓reduceIte, Nat.reduceEqDiff, Int.reduceToNat]
            refine hK _ _ ?_; clear hK K
            refine TW_nil ?_
            try simp only [Ex.thnH, Ex.inBlockH, ↓reduceIte, Nat.reduceEqDiff]
            exact ⟨(rcL res6).length, hless, hs ++ [smN res6], rcL res6, res6.isNone, a49, a51, c49, c51, rs51, rfl, by simp; omega, hB49, hrd7 _, hsb.trans hs49, lG7 _, by rw [List.length_append]; exact upd_same _ _ _, hol.upd (fun e => (hrs51 _ e).2.2 rfl), hrs51, hQ.next (by first | assumption | omega | (simp_all; omega)) hq49, rfl, rfl, rfl, rfl, rfl, trivial⟩
        · first
          | (exfalso; exact cnA c45; done)
          | skip
            (try simp only [decide_eq_true_eq, decide_eq_false_iff_not, Bool.not_eq_true, Bool.not_eq_false, Bool.and_eq_true, Bool.or_eq_true, Bool.or_eq_false_iff, Bool.not_eq_true, Bool.not_eq_eq_eq_not, Bool.not_true, Bool.not_false] at c45)
            have hexit : ¬ (((Mf.mk (opS L) (smN res1) (smN res2) (smN res3) (smN res4) hs).hd.length : Int) < smN res5 ∧ 0 < l.length) := by
              show ¬ ((hs.length : Int) < smN res5 ∧ 0 < l.length)
              first | omega | (simp_all; done) | (simp_all; omega)
            refine CW_exit ?_
            try simp only [Ex.thnH, Ex.inBlockH, ↓reduceIte, Nat.reduceEqDiff]
            refine hK8 _ _ ?_; try clear hK8 K8
            refine CW_seq (fun K12 hK12 => ?_)
            refine CW_seq (fun K13 hK13 => ?_)
            refine CW_region ?_
            refine OW_opS (fun K hK r => ?_)
            simp only [x_load, eX, ↓reduceIte, Nat.reduceEqDiff, Int.reduceToNat]
            first | refine Lt_loadAll Try.underlying27 rfl sz27 hbA bdA ?_ | refine Lt_loadAtA Try.underlying27 rfl sz27 hbA bdA ?_
            try simp only [List.extract_toArray, List.extract_eq_take_drop, Nat.zero_add, Nat.reduceAdd, Nat.reduceSub, Nat.sub_zero, List.drop_succ_cons, List.drop_zero, List.take_succ_cons, List.take_zero, List.take_nil, List.drop_nil]
            try simp only [eX, ↓reduceIte, Nat.reduceEqDiff, Int.reduceToNat]
            refine hK _ _ ?_; clear hK K
            refine OW_opS (fun K hK r => ?_)
            simp only [x_callF _ bd10, List.map_toArray, List.map_cons, List.map_nil, eX, ↓reduceIte, Nat.reduceEqDiff, Int.reduceToNat]
            have hl5 : 0 < 1 := by omega
            refine (mSeal_ok _ (Mf.mk (opS L) (smN res1) (smN res2) (smN res3) (smN res4) hs) _ vc (ho.holds.le lhA) (by show hs.length ≤ _; omega)).mono ?_
            rintro v55 H55 ⟨rfl, l55⟩
            have k55_1 := l55 b1 _ (lGH b1 _ g1)
            have k55_2 := l55 b2 _ (lGH b2 _ g2)
            have k55_7 := l55 b7 _ k7
            have lR55 : Le R5 H55 := by rw [hR5]; exact le_put (le_empty _) (Le.trans lGH l55 b4 _ g4)
            have lH55_H : Le H H55 := Le.trans (Le.trans lG lGH) l55
            have hsl := Mf.seal_len (Mf.mk (opS L) (smN res1) (smN res2) (smN res3) (smN res4) hs)
            obtain ⟨hend1, hend2⟩ := opM_end hQ hexit
            try simp only [eX, ↓reduceIte, Nat.reduceEqDiff, Int.reduceToNat]
            refine hK _ _ ?_; clear hK K
            refine OW_mv rfl ?_
            refine OW_opS (fun K hK r => ?_)
            simp only [x_extract, i_extract, List.getElem?_toArray, List.getElem?_cons_zero, List.getElem?_cons_succ, orF_some, eX, ↓reduceIte, Nat.reduceEqDiff, Int.reduceToNat]
            refine hK _ _ ?_; clear hK K
            refine OW_opS (fun K hK r => ?_)
            simp only [x_extract, i_extract, List.getElem?_toArray, List.getElem?_cons_zero, List.getElem?_cons_succ, orF_some, eX, ↓reduceIte, Nat.reduceEqDiff, Int.reduceToNat]
            refine hK _ _ ?_; clear hK K
            refine OW_opS (fun K hK r => ?_)
            simp only [x_alloc, zr30, orF_some, Value.cells, eX, ↓reduceIte, Nat.reduceEqDiff, Int.reduceToNat]
            intro b9 hb9
            try have n9_b1 : b1 ≠ b9 := ne_of_none hbA hb9
            try have n9_b2 : b2 ≠ b9 := ne_of_none hbA hb9
            try have n9_b4 : b4 ≠ b9 := ne_of_none hbA hb9
            try have n9_b7 : b7 ≠ b9 := ne_of_none hbA hb9
            have f9_H : H b9 = none := none_of_le lhA hb9
            have f9_R5 : R5 b9 = none := none_of_le lhA hb9
            try simp only [eX, ↓reduceIte, Nat.reduceEqDiff, Int.reduceToNat]
            refine hK _ _ ?_; clear hK K
            refine OW_op rfl (lt_none) (fun K hK r => ?_)
            simp only [x_store, eX, ↓reduceIte, Nat.reduceEqDiff, Int.reduceToNat]
            first | refine Lt_storeAll sz30 bdA hbA bdA plA (by decide) ?_ | refine Lt_storeAtA sz30 bdA hbA bdA plA (by decide) ?_
            try simp only [eX, ↓reduceIte, Nat.reduceEqDiff, Int.reduceToNat]
            refine hK _ _ ?_; clear hK K
            refine OW_as rfl ?_
            refine OW_nil ?_
            try simp only [Ex.thnH, Ex.inBlockH, ↓reduceIte, Nat.reduceEqDiff]
            refine hK13 _ _ ?_; try clear hK13 K13
            refine CW_seq (fun K14 hK14 => ?_)
            refine CW_region ?_
            refine OW_mv rfl ?_
            refine OW_opS (fun K hK r => ?_)
            simp only [x_bin, g_int, g_bool, g_string, g_pointer, g_slice, g_map, g_func, g_nilFunc, g_err, g_iface, g_nil_iface, g_nil_r, g_nil_l, eX, ↓reduceIte, Nat.reduceEqDiff, Int.reduceToNat]
            first | rw [b_err_neq _ _ Try.underlying32] | (rw [e_neq _ _ _ _ (by simp), q_equal]; first | rw [q_iface_nil _ _ _ Try.underlying32] | rw [q_nil_iface _ _ _ Try.underlying32] | rw [q_nil_nil _ _ _ Try.underlying32])
            try simp only [eX, ↓reduceIte, Nat.reduceEqDiff, Int.reduceToNat]
            refine hK _ _ ?_; clear hK K
            refine OW_mv rfl ?_
            (first | refine OW_split (d := 60) rfl (fun g60 => ?_) (fun g60 => ?_) | skip)
            all_goals try (exfalso; exact cnA g60)
            all_goals (try simp only [decide_eq_true_eq, decide_eq_false_iff_not, Bool.not_eq_true, Bool.not_eq_false, Bool.and_eq_true, Bool.or_eq_true, Bool.or_eq_false_iff, Bool.not_eq_true, Bool.not_eq_eq_eq_not, Bool.not_true, Bool.not_false] at g60)
            all_goals
              try simp only [eX, ↓reduceIte, Nat.reduceEqDiff, Int.reduceToNat]
              first
              | refine OW_guardT rfl (lt_some (by decide)) rfl (fun K hK r => ?_)
                simp only [x_load, eX, ↓reduceIte, Nat.reduceEqDiff, Int.reduceToNat]
                first | refine Lt_loadAll Try.underlying30 rfl sz30 hbA bdA ?_ | refine Lt_loadAtA Try.underlying30 rfl sz30 hbA bdA ?_
                try simp only [eX, ↓reduceIte, Nat.reduceEqDiff, Int.reduceToNat]
                refine hK _ _ ?_; clear hK K
              | refine OW_guardF rfl (lt_some (by decide)) rfl ?_
                simp only [eX, ↓reduceIte, Nat.reduceEqDiff, Int.reduceToNat]
              first
              | refine OW_guardT rfl (lt_some (by decide)) rfl (fun K hK r => ?_)
                simp only [x_load, eX, ↓reduceIte, Nat.reduceEqDiff, Int.reduceToNat]
                first | refine Lt_loadAll Try.underlying30 rfl sz30 hbA bdA ?_ | refine Lt_loadAtA Try.underlying30 rfl sz30 hbA bdA ?_
                try simp only [eX, ↓reduceIte, Nat.reduceEqDiff, Int.reduceToNat]
                refine hK _ _ ?_; clear hK K
              | refine OW_guardF rfl (lt_some (by decide)) rfl ?_
                simp only [eX, ↓reduceIte, Nat.reduceEqDiff, Int.reduceToNat]
              first
              | refine OW_guardT rfl (lt_some (by decide)) rfl (fun K hK r => ?_)
                simp only [x_bin, g_agg _ _ _ _ _ _ eqg30, eX, ↓reduceIte, Nat.reduceEqDiff, Int.reduceToNat]
                rw [e_neq _ _ _ _ (by simp)]
                rw [q_equal, q_array 9999 30 5 64 Try.underlying30 _ Try.underlying5 sz5 (fun x y K => q_int 9998 5 _ Try.underlying5 _ x y K) _ _ bdA bdA]
                try simp only [eX, ↓reduceIte, Nat.reduceEqDiff, Int.reduceToNat]
                refine hK _ _ ?_; clear hK K
              | refine OW_guardF rfl (lt_some (by decide)) rfl ?_
                simp only [eX, ↓reduceIte, Nat.reduceEqDiff, Int.reduceToNat]
              refine OW_opS (fun K hK r => ?_)
              simp only [x_pick, l_asBool, HL.ite_bool, if_true, if_false, Bool.false_eq_true, eX, ↓reduceIte, Nat.reduceEqDiff, Int.reduceToNat]
              refine hK _ _ ?_; clear hK K
              refine OW_nil ?_
              try simp only [Ex.thnH, Ex.inBlockH, ↓reduceIte, Nat.reduceEqDiff]
              refine hK14 _ _ ?_; try clear hK14 K14
              refine CW_cond (fun r => rfl) (fun c64 => ?_) (fun c64 => ?_)
              · first
                | (exfalso; exact cnA c64; done)
                | skip
                  (try simp only [decide_eq_true_eq, decide_eq_false_iff_not, Bool.not_eq_true, Bool.not_eq_false, Bool.and_eq_true, Bool.or_eq_true, Bool.or_eq_false_iff, Bool.not_eq_true, Bool.not_eq_eq_eq_not, Bool.not_true, Bool.not_false] at c64)
                  refine CW_seq (fun K15 hK15 => ?_)
                  refine CW_region ?_
                  refine OW_opS (fun K hK r => ?_)
                  simp only [x_build, bp27, List.map_toArray, List.map_cons, List.map_nil, eX, ↓reduceIte, Nat.reduceEqDiff, Int.reduceToNat]
                  simp only [fill_nil, orF_some, List.setIfInBounds_toArray, List.set_cons_zero, List.set_cons_succ]
                  try simp only [eX, ↓reduceIte, Nat.reduceEqDiff, Int.reduceToNat]
                  refine hK _ _ ?_; clear hK K
                  refine OW_opS (fun K hK r => ?_)
                  simp only [x_makeInterface, i_makeInterface, Try.underlying38, orF_some, eX, ↓reduceIte, Nat.reduceEqDiff, Int.reduceToNat]
                  refine hK _ _ ?_; clear hK K
                  refine OW_op rfl (lt_none) (fun K hK r => ?_)
                  simp only [x_store, eX, ↓reduceIte, Nat.reduceEqDiff, Int.reduceToNat]
                  first | refine Lt_storeAll sz27 bdA hbA bdA plA (by decide) ?_ | refine Lt_storeAtA sz27 bdA hbA bdA plA (by decide) ?_
                  try simp only [eX, ↓reduceIte, Nat.reduceEqDiff, Int.reduceToNat]
                  refine hK _ _ ?_; clear hK K
                  refine OW_as rfl ?_
                  refine OW_nil ?_
                  try simp only [Ex.thnH, Ex.inBlockH, ↓reduceIte, Nat.reduceEqDiff]
                  refine hK15 _ _ ?_; try clear hK15 K15
                  refine CW_ret ?_
                  try simp only [Ex.thnH, Ex.inBlockH, ↓reduceIte, Nat.reduceEqDiff]
                  have hno : ¬ ((Mf.mk (opS L) (smN res1) (smN res2) (smN res3) (smN res4) hs).bad = none ∧ (Mf.mk (opS L) (smN res1) (smN res2) (smN res3) (smN res4) hs).sealB = L) := by
                    rintro ⟨h1, h2⟩
                    first
                    | (rw [h1] at g60; cases g60; done)
                    | exact c64 h2
                  obtain ⟨e1, e2⟩ := opM_no (hend2 hno)
                  rw [e1, e2]
                  refine ⟨[_, _], ⟨⟨_, rfl, Lq_loadAll Try.underlying27 rfl sz27 hbA bdA⟩, rfl, trivial⟩, _, Le.refl _, lhA, .slice none 0 0, none, ?_, OwnS.nil _ _ _, fun r hr => by cases hr⟩
                  rfl
              · first
                | (exfalso; exact cnA c64; done)
                | skip
                  (try simp only [decide_eq_true_eq, decide_eq_false_iff_not, Bool.not_eq_true, Bool.not_eq_false, Bool.and_eq_true, Bool.or_eq_true, Bool.or_eq_false_iff, Bool.not_eq_true, Bool.not_eq_eq_eq_not, Bool.not_true, Bool.not_false] at c64)
                  refine CW_skip ?_
                  try simp only [Ex.thnH, Ex.inBlockH, ↓reduceIte, Nat.reduceEqDiff]
                  refine hK12 _ _ ?_; try clear hK12 K12
                  refine CW_seq (fun K16 hK16 => ?_)
                  refine CW_region ?_
                  refine OW_opS (fun K hK r => ?_)
                  simp only [x_load, eX, ↓reduceIte, Nat.reduceEqDiff, Int.reduceToNat]
                  first | refine Lt_loadAll Try.underlying27 rfl sz27 hbA bdA ?_ | refine Lt_loadAtA Try.underlying27 rfl sz27 hbA bdA ?_
                  try simp only [List.extract_toArray, List.extract_eq_take_drop, Nat.zero_add, Nat.reduceAdd, Nat.reduceSub, Nat.sub_zero, List.drop_succ_cons, List.drop_zero, List.take_succ_cons, List.take_zero, List.take_nil, List.drop_nil]
                  try simp only [eX, ↓reduceIte, Nat.reduceEqDiff, Int.reduceToNat]
                  refine hK _ _ ?_; clear hK K
                  refine OW_op rfl (lt_none) (fun K hK r => ?_)
                  simp only [x_store, eX, ↓reduceIte, Nat.reduceEqDiff, Int.reduceToNat]
                  first | refine Lt_storeAll sz27 bdA hbA bdA plA (by decide) ?_ | refine Lt_storeAtA sz27 bdA hbA bdA plA (by decide) ?_
                  try simp only [eX, ↓reduceIte, Nat.reduceEqDiff, Int.reduceToNat]
                  refine hK _ _ ?_; clear hK K
                  refine OW_as rfl ?_
                  refine OW_nil ?_
                  try simp only [Ex.thnH, Ex.inBlockH, ↓reduceIte, Nat.reduceEqDiff]
                  refine hK16 _ _ ?_; try clear hK16 K16
                  refine CW_ret ?_
                  try simp only [Ex.thnH, Ex.inBlockH, ↓reduceIte, Nat.reduceEqDiff]
                  have hy1 : (Mf.mk (opS L) (smN res1) (smN res2) (smN res3) (smN res4) hs).bad = none := by
                    first
                    | (cases c64; done)
                    | (exact Option.isNone_iff_eq_none.1 (by simpa using g60))
                  have hy2 : (Mf.mk (opS L) (smN res1) (smN res2) (smN res3) (smN res4) hs).sealB = L := by
                    first
                    | (cases c64; done)
                    | (simpa using c64)
                  obtain ⟨e1, e2⟩ := opM_yes (hend1 hy1 hy2)
                  rw [e1, e2]
                  refine ⟨[_, _], ⟨⟨_, rfl, Lq_loadAll Try.underlying27 rfl sz27 hbA bdA⟩, rfl, trivial⟩, _, Le.refl _, lhA, .slice vca hs.length vc, rs, ?_, ((ho.le l55).make hb9).upd (fun e => by have := (hrs _ e).1; rw [g2] at this; cases this), fun r hr => none_of_le lG (hrs r hr).1⟩
                  rfl

end Go.Proofs.Ytigofhhonnbkmaa.HL
end
section
namespace Go.Proofs.Ytigofhhonnbkmaa.HL
open Go Go.Proofs
set_option linter.unusedSimpArgs false
set_option linter.unusedVariables false
attribute [local irreducible] Lt Lq CW OW TW CallH



theorem foldl_put : ∀ (l : List Value) (k off : Nat) (c : Array Value), (l.zipIdx k).foldl (fun cs (p : Value × Nat) => cs.setIfInBounds (off + p.2) p.1) c = putCells c (off + k) l
  | [], _, _, _ => rfl
  | v :: r, k, off, c => by
    simp only [List.zipIdx_cons, List.foldl_cons, putCells]
    rw [foldl_put r (k + 1) off]; rfl
theorem fill_many {place : Nat → Option (Nat × Nat)} {c : Array Value} {i off n : Nat} {v : Value} {l : List Value} {r : List (Nat × Value)} (hp : place i = some (off, n)) (hv : v.cells = l.toArray) (hn : l.length = n) (ho : off + n ≤ c.size) : Instr.fill place c ((i, v) :: r) = Instr.fill place (putCells c off l) r := by
  simp only [Instr.fill, hp, hv]
  rw [if_neg (by simp; omega)]
  congr 1
  rw [← Array.foldl_toList, Array.toList_zipIdx]
  exact foldl_put l 0 off c
theorem put_one {a : Value} {z l : List Value} (h : z.length = l.length) : putCells (a :: z).toArray 1 l = (a :: l).toArray := by
  apply Array.ext'
  rw [putCells_toList l _ 1 (by simp; omega)]
  rw [List.drop_eq_nil_of_le (by simp; omega)]; simp
theorem bw_ok (H : Hp) (K : Value → Hp → Prop) (i : Int) (x : Sec) : Lt Try.prog (Instr.build 130 #[(0, .int .i64 i), (1, .agg x.c.toArray)]) H K = K (.agg (Wt.c ⟨i, x⟩).toArray) H := by
  rw [bp130]
  rw [fill_one rfl rfl (by simp)]
  rw [fill_many (l := x.c) (n := 64) rfl rfl x.len (by simp), fill_nil, orF_some]
  simp only [List.setIfInBounds_toArray, List.set_cons_zero]
  rw [put_one (by rw [x.len]; rfl)]
theorem wt_holds {H : Hp} {b : Nat} {w : Wt} (hb : H b = some (.cells w.c.toArray 130)) : Holds H 65 (.slice (some ⟨b, 0, none⟩) 1 1) 1 w.c := by
  refine ⟨by rw [Wt.len], .inr ⟨b, 0, 1, _, _, _, rfl, hb, by simp [Sec.h], ?_⟩⟩
  rw [Array.toList_extract, List.extract_eq_take_drop]
  exact List.take_of_length_le (by rw [List.drop_zero, Wt.len]; omega)
theorem SX.mono {F K : Hp} {p : Nat} {s : St} {r cap : Nat} {bs : List Nat} {Fs : Nat → Hp} (h : SX F p s r cap bs Fs) (k : Le F K) : SX K p s r cap bs Fs :=
  ⟨k _ _ h.hd, h.len, h.own.le k, h.dev, fun i hi => Le.trans (h.le i hi) k, h.fp, h.sep⟩
theorem SX.ne {F : Hp} {p : Nat} {s : St} {r cap : Nat} {bs : List Nat} {Fs : Nat → Hp} (h : SX F p s r cap bs Fs) : r ≠ p := by
  obtain ⟨_, ⟨h0, _, _⟩ | ⟨r', cc, c, h1, h2, _⟩⟩ := h.own
  · cases h0
  · injection h1 with h1 _ _
    injection h1 with h1
    injection h1 with h1 _ _
    subst h1
    intro e; subst e
    rw [h.hd] at h2; injection h2 with h2; injection h2 with _ h2; revert h2; decide
/-- the set behind a change of one device, and of its head -/
theorem SX.put2 {F K : Hp} {p : Nat} {s t : St} {r cap : Nat} {bs : List Nat} {Fs : Nat → Hp} (h : SX F p s r cap bs Fs) {i : Nat} (hi : i < s.dv.length) {Fi : Hp} {d : Dv} (hd : DvX Fi (bs.getD i 0) d) (ht : t.dv = s.dv.set i d)
    (hK : K p = some (.cells #[.int .i64 t.steps, .int .i64 t.left, .bool t.armed, .bool t.gone, .slice (some ⟨r, 0, none⟩) s.dv.length cap] 114)) (hle : Le Fi K) (hkeep : ∀ x o, F x = some o → Fs i x = none → x ≠ p → K x = some o) (hnew : ∀ x, Fi x ≠ none → Fs i x ≠ none ∨ F x = none) : ∃ Fs', SX K p t r cap bs Fs' ∧ Fs' = (fun j => if j = i then Fi else Fs j) := by
  have hl : t.dv.length = s.dv.length := by rw [ht]; simp
  have hFp : ∀ x, F x ≠ none → Fs i x = none → Fi x = none := fun x hx hn => by
    cases hc : Fi x with
    | none => rfl
    | some o => rcases hnew x (by rw [hc]; simp) with h1 | h1
                · exact absurd hn h1
                · exact absurd h1 hx
  have hr : F r ≠ none := h.own.known r rfl
  refine ⟨fun j => if j = i then Fi else Fs j, ⟨by rw [hl]; exact hK, by rw [hl]; exact h.len, ?_, ?_, ?_, ?_, ?_⟩, rfl⟩
  · rw [hl]; exact h.own.stay (fun b o hb ho => by cases hb; exact hkeep r o ho (h.fp i hi).2 h.ne)
  · intro j hj
    rw [hl] at hj
    by_cases e : j = i
    · subst e; simp only [if_true]; rw [ht]; simpa [List.getD_eq_getElem?_getD, List.getElem?_set_self hi] using hd
    · simp only [if_neg e]; rw [ht]
      have := h.dev j hj
      simpa [List.getD_eq_getElem?_getD, List.getElem?_set_ne (Ne.symm e)] using this
  · intro j hj
    rw [hl] at hj
    by_cases e : j = i
    · subst e; simp only [if_true]; exact hle
    · simp only [if_neg e]
      intro x o hx
      refine hkeep x o (h.le j hj x o hx) (h.sep j i hj hi e x (by rw [hx]; simp)) (fun e2 => by subst e2; rw [(h.fp j hj).1] at hx; cases hx)
  · intro j hj
    rw [hl] at hj
    by_cases e : j = i
    · subst e; simp only [if_true]
      exact ⟨hFp p (by rw [h.hd]; simp) (h.fp j hj).1, hFp r hr (h.fp j hj).2⟩
    · simp only [if_neg e]; exact h.fp j hj
  · intro j k hj hk hjk x hx
    rw [hl] at hj hk
    by_cases e : j = i
    · subst e
      simp only [if_true] at hx
      simp only [if_neg (Ne.symm hjk)]
      rcases hnew x hx with h1 | h1
      · exact h.sep j k hj hk hjk x h1
      · exact none_of_le (h.le k hk) h1
    · simp only [if_neg e] at hx
      by_cases e2 : k = i
      · subst e2
        simp only [if_true]
        refine hFp x ?_ (h.sep j k hj hk hjk x hx)
        cases hc : Fs j x with
        | none => exact absurd hc hx
        | some o => rw [h.le j hj x o hc]; simp
      · simp only [if_neg e2]; exact h.sep j k hj hk hjk x hx
theorem SX.put {F K : Hp} {p : Nat} {s t : St} {r cap : Nat} {bs : List Nat} {Fs : Nat → Hp} (h : SX F p s r cap bs Fs) {i : Nat} (hi : i < s.dv.length) {Fi : Hp} {d : Dv} (hd : DvX Fi (bs.getD i 0) d) (ht : t.dv = s.dv.set i d)
    (hK : K p = some (.cells #[.int .i64 t.steps, .int .i64 t.left, .bool t.armed, .bool t.gone, .slice (some ⟨r, 0, none⟩) s.dv.length cap] 114)) (hle : Le Fi K) (hkeep : ∀ x o, F x = some o → Fs i x = none → x ≠ p → K x = some o) (hnew : ∀ x, Fi x ≠ none → Fs i x ≠ none ∨ F x = none) : SetX K p t := by
  obtain ⟨Fs', h', _⟩ := h.put2 hi hd ht hK hle hkeep hnew
  exact ⟨r, cap, bs, Fs', h'⟩
/-- the set behind a change of its head -/
theorem SX.head {F K : Hp} {p : Nat} {s t : St} {r cap : Nat} {bs : List Nat} {Fs : Nat → Hp} (h : SX F p s r cap bs Fs) (ht : t.dv = s.dv)
    (hK : K p = some (.cells #[.int .i64 t.steps, .int .i64 t.left, .bool t.armed, .bool t.gone, .slice (some ⟨r, 0, none⟩) s.dv.length cap] 114)) (hkeep : ∀ x o, F x = some o → x ≠ p → K x = some o) : SX K p t r cap bs Fs := by
  refine ⟨by rw [ht]; exact hK, by rw [ht]; exact h.len, by rw [ht]; exact h.own.stay (fun b o hb ho => by cases hb; exact hkeep r o ho h.ne), by rw [ht]; exact h.dev, ?_, by rw [ht]; exact h.fp, by rw [ht]; exact h.sep⟩
  rw [ht]
  exact fun i hi x o hx => hkeep x o (h.le i hi x o hx) (fun e => by subst e; rw [(h.fp i hi).1] at hx; cases hx)
theorem DvX.put {K : Hp} {b m : Nat} {d : Dv} {w : Wt} {es : Array MapEntry} {c : Nat} {wv' : Value} {wrs' : Option Nat} (hb : K b = some (.cells #[.int .i64 d.size, .map (some m), wv'] 119)) (hm : K m = some (.map es c)) (hs : MapS es d.sure) (ho : OwnS K 130 65 wv' (d.wait.length + 1) (wts d.wait ++ w.c) wrs') :
    ∃ Fi, DvX Fi b (d.put w) ∧ Le Fi K ∧ ∀ x, Fi x ≠ none → x = b ∨ x = m ∨ wrs' = some x := by
  refine ⟨fun x => if x = b ∨ x = m ∨ wrs' = some x then K x else none, ⟨m, es, c, wv', wrs', by simpa [Dv.put] using hb, by simpa using hm, hs, ?_, fun x hx => ?_⟩, fun x o hx => ?_, fun x hx => ?_⟩
  · have e : wts (d.put w).wait = wts d.wait ++ w.c := by simp [Dv.put, wts]
    have e2 : (d.put w).wait.length = d.wait.length + 1 := by simp [Dv.put]
    rw [e, e2]
    exact ho.stay (fun b o hb ho => by simp [hb, ho])
  · by_cases h : x = b ∨ x = m ∨ wrs' = some x
    · exact h
    · simp [h] at hx
  · by_cases h : x = b ∨ x = m ∨ wrs' = some x
    · simpa [h] using hx
    · simp [h] at hx
  · by_cases h : x = b ∨ x = m ∨ wrs' = some x
    · exact h
    · simp [h] at hx


theorem has_dev (H : Hp) (p : Nat) (s : St) (rd cap : Nat) (bs : List Nat) (Fs : Nat → Hp) (h : SX H p s rd cap bs Fs) (dev i : Int) : CallH Try.prog 56 #[devV s bs dev, .int .i64 i] H (fun v H' => v = .bool (s.has dev i) ∧ H' = H) := by
  unfold devV St.has
  by_cases hin : 0 ≤ dev ∧ dev < s.dv.length
  · rw [if_pos hin]
    obtain ⟨m, wv, hb⟩ := (h.dev dev.toNat (by omega)).blk
    refine (has_ok H _ _ _ _ (h.le dev.toNat (by omega) _ _ hb) i).mono ?_
    rintro v H' ⟨rfl, rfl⟩
    exact ⟨by simp [hin], rfl⟩
  · rw [if_neg hin]
    refine (has_nil H i).mono ?_
    rintro v H' ⟨rfl, rfl⟩
    exact ⟨by simp [hin], rfl⟩

set_option maxRecDepth 100000 in
set_option maxHeartbeats 4000000 in
theorem write_ok (H : Hp) (p : Nat) (s : St) (rd cap : Nat) (bs : List Nat) (Fs : Nat → Hp) (h : SX H p s rd cap bs Fs) (hl : s.dv.length ≤ 1000) (hw : ∀ i, (s.dv.getD i default).wait.length ≤ 1000000) (dev i : Int) (x : Sec) : CallH Try.prog 24 #[(.pointer (some ⟨p, 0, none⟩)), .int .i64 dev, .int .i64 i, x.v] H (fun v H' => v = errV (s.wr dev i x).2 ∧ SetX H' p (s.wr dev i x).1) := by
  refine CallH_enter (l := [_, _, _, _]) (rl := [.tmp 8]) (n := 43) Try.func24 rfl rfl rfl rfl rfl ?_
  simp only [envOf, Nat.reduceAdd]
  refine CW_seq (fun K1 hK1 => ?_)
  refine CW_region ?_
  refine OW_opS (fun K hK r => ?_)
  simp only [x_box, Value.cells, eX, ↓reduceIte, Nat.reduceEqDiff, Int.reduceToNat]
  intro b7 hb7
  have f7_H : H b7 = none := none_of_le lhA hb7
  have h7 := h.mono (le_upd H b7 (.cells x.c.toArray 30) hb7)
  have k7p := h7.hd
  try simp only [eX, ↓reduceIte, Nat.reduceEqDiff, Int.reduceToNat]
  refine hK _ _ ?_; clear hK K
  refine OW_as rfl ?_
  refine OW_nil ?_
  try simp only [Ex.thnH, Ex.inBlockH, ↓reduceIte, Nat.reduceEqDiff]
  refine hK1 _ _ ?_; try clear hK1 K1
  refine CW_seq (fun K2 hK2 => ?_)
  refine CW_region ?_
  refine OW_mv rfl ?_
  refine OW_mv rfl ?_
  refine OW_opS (fun K hK r => ?_)
  simp only [x_callF _ bd55, List.map_toArray, List.map_cons, List.map_nil, eX, ↓reduceIte, Nat.reduceEqDiff, Int.reduceToNat]
  refine (device_ok _ p s rd cap bs Fs h7 dev hl).mono ?_
  rintro v H' ⟨rfl, rfl⟩
  try simp only [eX, ↓reduceIte, Nat.reduceEqDiff, Int.reduceToNat]
  refine hK _ _ ?_; clear hK K
  refine OW_as rfl ?_
  refine OW_nil ?_
  try simp only [Ex.thnH, Ex.inBlockH, ↓reduceIte, Nat.reduceEqDiff]
  refine hK2 _ _ ?_; try clear hK2 K2
  refine CW_seq (fun K3 hK3 => ?_)
  refine CW_block ?_
  refine CW_seq (fun K4 hK4 => ?_)
  refine CW_region ?_
  refine OW_mv rfl ?_
  refine OW_opS (fun K hK r => ?_)
  simp only [x_bin, g_int, g_bool, g_string, g_pointer, g_slice, g_map, g_func, g_nilFunc, g_iface, g_nil_iface, g_nil_r, g_nil_l, eX, ↓reduceIte, Nat.reduceEqDiff, Int.reduceToNat]
  rw [e_eql _ _ _ _ (by simp)]
  rw [q_equal]
  first | rw [q_ptr_nil _ _ _ Try.underlying47] | rw [q_nil_ptr _ _ _ Try.underlying47]
  try simp only [eX, ↓reduceIte, Nat.reduceEqDiff, Int.reduceToNat]
  refine hK _ _ ?_; clear hK K
  refine OW_as rfl ?_
  refine OW_nil ?_
  try simp only [Ex.thnH, Ex.inBlockH, ↓reduceIte, Nat.reduceEqDiff]
  refine hK4 _ _ ?_; try clear hK4 K4
  refine CW_cond (fun r => rfl) (fun c14 => ?_) (fun c14 => ?_)
  · first
    | (exfalso; exact cnA c14; done)
    | skip
      (try simp only [decide_eq_true_eq, decide_eq_false_iff_not, Bool.not_eq_true, Bool.not_eq_false, Bool.and_eq_true, Bool.or_eq_true, Bool.or_eq_false_iff, Bool.not_eq_true, Bool.not_eq_eq_eq_not, Bool.not_true, Bool.not_false] at c14)
      refine CW_seq (fun K5 hK5 => ?_)
      refine CW_region ?_
      refine OW_opS (fun K hK r => ?_)
      simp only [x_makeInterface, i_makeInterface, Try.underlying38, orF_some, eX, ↓reduceIte, Nat.reduceEqDiff, Int.reduceToNat]
      refine hK _ _ ?_; clear hK K
      refine OW_as rfl ?_
      refine OW_nil ?_
      try simp only [Ex.thnH, Ex.inBlockH, ↓reduceIte, Nat.reduceEqDiff]
      refine hK5 _ _ ?_; try clear hK5 K5
      refine CW_ret ?_
      try simp only [Ex.thnH, Ex.inBlockH, ↓reduceIte, Nat.reduceEqDiff]
      skip
  · first
    | (exfalso; exact cnA c14; done)
    | skip
      (try simp only [decide_eq_true_eq, decide_eq_false_iff_not, Bool.not_eq_true, Bool.not_eq_false, Bool.and_eq_true, Bool.or_eq_true, Bool.or_eq_false_iff, Bool.not_eq_true, Bool.not_eq_eq_eq_not, Bool.not_true, Bool.not_false] at c14)
      refine CW_seq (fun K6 hK6 => ?_)
      refine CW_region ?_
      refine OW_mv rfl ?_
      refine OW_mv rfl ?_
      refine OW_opS (fun K hK r => ?_)
      simp only [x_callF _ bd56, List.map_toArray, List.map_cons, List.map_nil, eX, ↓reduceIte, Nat.reduceEqDiff, Int.reduceToNat]
      refine (has_dev _ p s rd cap bs Fs h7 dev i).mono ?_
      rintro v H' ⟨rfl, rfl⟩
      try simp only [eX, ↓reduceIte, Nat.reduceEqDiff, Int.reduceToNat]
      refine hK _ _ ?_; clear hK K
      refine OW_opS (fun K hK r => ?_)
      simp only [x_un, u_not, eX, ↓reduceIte, Nat.reduceEqDiff, Int.reduceToNat]
      refine hK _ _ ?_; clear hK K
      refine OW_as rfl ?_
      refine OW_nil ?_
      try simp only [Ex.thnH, Ex.inBlockH, ↓reduceIte, Nat.reduceEqDiff]
      refine hK6 _ _ ?_; try clear hK6 K6
      refine CW_cond (fun r => rfl) (fun c18 => ?_) (fun c18 => ?_)
      · first
        | (exfalso; exact cnA c18; done)
        | skip
          (try simp only [decide_eq_true_eq, decide_eq_false_iff_not, Bool.not_eq_true, Bool.not_eq_false, Bool.and_eq_true, Bool.or_eq_true, Bool.or_eq_false_iff, Bool.not_eq_true, Bool.not_eq_eq_eq_not, Bool.not_true, Bool.not_false] at c18)
          have hno : s.has dev i = false := by simpa using c18
          refine CW_seq (fun K7 hK7 => ?_)
          refine CW_region ?_
          refine OW_opS (fun K hK r => ?_)
          simp only [x_makeInterface, i_makeInterface, Try.underlying38, orF_some, eX, ↓reduceIte, Nat.reduceEqDiff, Int.reduceToNat]
          refine hK _ _ ?_; clear hK K
          refine OW_as rfl ?_
          refine OW_nil ?_
          try simp only [Ex.thnH, Ex.inBlockH, ↓reduceIte, Nat.reduceEqDiff]
          refine hK7 _ _ ?_; try clear hK7 K7
          refine CW_ret ?_
          try simp only [Ex.thnH, Ex.inBlockH, ↓reduceIte, Nat.reduceEqDiff]
          refine ⟨[_], ⟨rfl, trivial⟩, _, Le.refl _, ?_, ?_⟩
          · show _ = errV _
            unfold St.wr; rw [if_neg (by rw [hno]; simp)]; rfl
          · unfold St.wr; rw [if_neg (by rw [hno]; simp)]; exact ⟨rd, cap, bs, Fs, h7⟩
      · first
        | (exfalso; exact cnA c18; done)
        | skip
          (try simp only [decide_eq_true_eq, decide_eq_false_iff_not, Bool.not_eq_true, Bool.not_eq_false, Bool.and_eq_true, Bool.or_eq_true, Bool.or_eq_false_iff, Bool.not_eq_true, Bool.not_eq_eq_eq_not, Bool.not_true, Bool.not_false] at c18)
          have hyes : s.has dev i = true := by simpa using c18
          have hin : 0 ≤ dev ∧ dev < s.dv.length := by unfold St.has at hyes; simp at hyes; omega
          have hk : dev.toNat < s.dv.length := by omega
          have hdv : devV s bs dev = ptrV (bs.getD dev.toNat 0) := by unfold devV; rw [if_pos hin]
          rw [hdv]
          obtain ⟨b, hbd⟩ : ∃ b, b = bs.getD dev.toNat 0 := ⟨_, rfl⟩
          rw [← hbd]
          obtain ⟨m, es, c, wv, wrs, hb0, hm0, hms, how, hdom⟩ := hbd ▸ h.dev dev.toNat hk
          have hle := h.le dev.toNat hk
          have hfp := h.fp dev.toNat hk
          have hbp : b ≠ p := fun e => by rw [e, hfp.1] at hb0; cases hb0
          have hmp : m ≠ p := fun e => by rw [e, hfp.1] at hm0; cases hm0
          have hb7' : b ≠ b7 := ne_of_none (hle _ _ hb0) hb7
          have hm7' : m ≠ b7 := ne_of_none (hle _ _ hm0) hb7
          have hp7 : p ≠ b7 := ne_of_none h.hd hb7
          have kb := hle _ _ hb0
          have km := hle _ _ hm0
          obtain ⟨wa, wcp, rfl⟩ := how.holds.form
          refine CW_skip ?_
          try simp only [Ex.thnH, Ex.inBlockH, ↓reduceIte, Nat.reduceEqDiff]
          refine hK3 _ _ ?_; try clear hK3 K3
          refine CW_seq (fun K8 hK8 => ?_)
          refine CW_seq (fun K9 hK9 => ?_)
          refine CW_region ?_
          refine OW_mv rfl ?_
          refine OW_opS (fun K hK r => ?_)
          rw [x_nilCheck _ _ rfl]
          simp only [eX, ↓reduceIte, Nat.reduceEqDiff, Int.reduceToNat]
          refine hK _ _ ?_; clear hK K
          refine OW_opS (fun K hK r => ?_)
          simp only [x_fieldAddr, fa114_0, add_mk, Nat.reduceAdd, Nat.zero_add, eX, ↓reduceIte, Nat.reduceEqDiff, Int.reduceToNat]
          refine hK _ _ ?_; clear hK K
          refine OW_opS (fun K hK r => ?_)
          simp only [x_callF _ bd57, List.map_toArray, List.map_cons, List.map_nil, eX, ↓reduceIte, Nat.reduceEqDiff, Int.reduceToNat]
          refine (step_ok _ p s _ h7.hd).mono ?_
          rintro v H' ⟨rfl, rfl⟩
          try simp only [eX, ↓reduceIte, Nat.reduceEqDiff, Int.reduceToNat]
          refine hK _ _ ?_; clear hK K
          refine OW_as rfl ?_
          refine OW_nil ?_
          try simp only [Ex.thnH, Ex.inBlockH, ↓reduceIte, Nat.reduceEqDiff]
          refine hK9 _ _ ?_; try clear hK9 K9
          refine CW_seq (fun K10 hK10 => ?_)
          refine CW_region ?_
          refine OW_mv rfl ?_
          refine OW_opS (fun K hK r => ?_)
          simp only [x_bin, g_int, g_bool, g_string, g_pointer, g_slice, g_map, g_func, g_nilFunc, g_err, g_iface, g_nil_iface, g_nil_r, g_nil_l, eX, ↓reduceIte, Nat.reduceEqDiff, Int.reduceToNat]
          first | rw [b_err_neq _ _ Try.underlying32] | (rw [e_neq _ _ _ _ (by simp), q_equal]; first | rw [q_iface_nil _ _ _ Try.underlying32] | rw [q_nil_iface _ _ _ Try.underlying32] | rw [q_nil_nil _ _ _ Try.underlying32])
          try simp only [eX, ↓reduceIte, Nat.reduceEqDiff, Int.reduceToNat]
          refine hK _ _ ?_; clear hK K
          refine OW_nil ?_
          try simp only [Ex.thnH, Ex.inBlockH, ↓reduceIte, Nat.reduceEqDiff]
          refine hK10 _ _ ?_; try clear hK10 K10
          refine CW_cond (fun r => rfl) (fun c29 => ?_) (fun c29 => ?_)
          · first
            | (exfalso; exact cnA c29; done)
            | skip
              (try simp only [decide_eq_true_eq, decide_eq_false_iff_not, Bool.not_eq_true, Bool.not_eq_false, Bool.and_eq_true, Bool.or_eq_true, Bool.or_eq_false_iff, Bool.not_eq_true, Bool.not_eq_eq_eq_not, Bool.not_true, Bool.not_false] at c29)
              have hst : s.step.2 = false := by cases hc : s.step.2 with
                | false => rfl
                | true => rw [hc] at c29; simp at c29
              refine CW_seq (fun K11 hK11 => ?_)
              refine CW_region ?_
              refine OW_mv rfl ?_
              refine OW_as rfl ?_
              refine OW_nil ?_
              try simp only [Ex.thnH, Ex.inBlockH, ↓reduceIte, Nat.reduceEqDiff]
              refine hK11 _ _ ?_; try clear hK11 K11
              refine CW_ret ?_
              try simp only [Ex.thnH, Ex.inBlockH, ↓reduceIte, Nat.reduceEqDiff]
              have hwr : s.wr dev i x = (s.step.1, some 3) := by
                unfold St.wr; rw [if_pos hyes]
                generalize hq : s.step = q at *
                obtain ⟨t, bb⟩ := q
                simp only at hst; subst hst; rfl
              refine ⟨[_], ⟨rfl, trivial⟩, _, Le.refl _, ?_, ?_⟩
              · rw [hwr, hst]; rfl
              · rw [hwr]; exact ⟨rd, cap, bs, Fs, h7.head (step_dv s) (upd_same _ _ _) (fun z o hz hzp => (upd_ne _ _ hzp).trans hz)⟩
          · first
            | (exfalso; exact cnA c29; done)
            | skip
              (try simp only [decide_eq_true_eq, decide_eq_false_iff_not, Bool.not_eq_true, Bool.not_eq_false, Bool.and_eq_true, Bool.or_eq_true, Bool.or_eq_false_iff, Bool.not_eq_true, Bool.not_eq_eq_eq_not, Bool.not_true, Bool.not_false] at c29)
              have hst : s.step.2 = true := by cases hc : s.step.2 with
                | true => rfl
                | false => rw [hc] at c29; simp at c29
              have hwl := hw dev.toNat
              refine CW_skip ?_
              try simp only [Ex.thnH, Ex.inBlockH, ↓reduceIte, Nat.reduceEqDiff]
              refine hK8 _ _ ?_; try clear hK8 K8
              refine CW_seq (fun K12 hK12 => ?_)
              obtain ⟨R9, hR9⟩ : ∃ R : Hp, R = (emptyHp.upd b (.cells #[.int .i64 (s.dv.getD dev.toNat default).size, .map (some m), .slice wa (s.dv.getD dev.toNat default).wait.length wcp] 119)).upd b7 (.cells x.c.toArray 30) := ⟨_, rfl⟩
              refine CW_drawR [0, 0, 0, 0, 1, 0, 1, 0, 2, 2, 0, 0, 3] [0, 1, 2, 3, 4, 5, 6, 7, 8, 9, 10, 11, 12] R9 (by kernel_rfl) (by kernel_rfl) (by subst hR9; exact le_put (le_put (le_empty _) hbA) hbA) (fun lR9 => ?_)
              apply TW_pure rfl (lt_some (by decide)) rfl
              · intro r
                simp only [x_move, eX, ↓reduceIte, Nat.reduceEqDiff]
                exact ⟨rfl, Le.refl _⟩
              simp only [eX, ↓reduceIte, Nat.reduceEqDiff, Int.reduceToNat]
              apply TW_pure rfl (lt_some (by decide)) rfl
              · intro r
                simp only [x_move, eX, ↓reduceIte, Nat.reduceEqDiff]
                exact ⟨rfl, Le.refl _⟩
              simp only [eX, ↓reduceIte, Nat.reduceEqDiff, Int.reduceToNat]
              apply TW_pure rfl (lt_some (by decide)) rfl
              · intro r
                rw [x_nilCheck _ _ rfl]
                exact ⟨rfl, Le.refl _⟩
              simp only [eX, ↓reduceIte, Nat.reduceEqDiff, Int.reduceToNat]
              apply TW_pure rfl (lt_some (by decide)) rfl
              · intro r
                simp only [x_fieldAddr, fa119_2, add_mk, Nat.reduceAdd, Nat.zero_add, eX, ↓reduceIte, Nat.reduceEqDiff]
                exact ⟨rfl, Le.refl _⟩
              simp only [eX, ↓reduceIte, Nat.reduceEqDiff, Int.reduceToNat]
              apply TW_look rfl (lt_some (by decide)) rfl
              · intro r
                simp only [x_load, eX, ↓reduceIte, Nat.reduceEqDiff]
                refine Lt_loadAt1 Try.underlying117 rfl hbA ldA ?_
                exact ⟨rfl, Le.refl _⟩
              simp only [eX, ↓reduceIte, Nat.reduceEqDiff, Int.reduceToNat]
              apply TW_pure rfl (lt_some (by decide)) rfl
              · intro r
                simp only [x_move, eX, ↓reduceIte, Nat.reduceEqDiff]
                exact ⟨rfl, Le.refl _⟩
              simp only [eX, ↓reduceIte, Nat.reduceEqDiff, Int.reduceToNat]
              apply TW_look rfl (lt_some (by decide)) rfl
              · intro r
                simp only [x_load, eX, ↓reduceIte, Nat.reduceEqDiff]
                refine Lt_loadAll Try.underlying30 rfl sz30 hbA (by simp [x.h]) ?_
                exact ⟨rfl, Le.refl _⟩
              simp only [eX, ↓reduceIte, Nat.reduceEqDiff, Int.reduceToNat]
              apply TW_pure rfl (lt_some (by decide)) rfl
              · intro r
                simp only [x_build, List.map_toArray, List.map_cons, List.map_nil, eX, ↓reduceIte, Nat.reduceEqDiff]
                rw [bw_ok]
                exact ⟨rfl, Le.refl _⟩
              simp only [eX, ↓reduceIte, Nat.reduceEqDiff, Int.reduceToNat]
              refine TW_chain rfl (lt_some (by decide)) rfl (fun K hK r => ?_)
              simp only [x_buildSlice, List.map_toArray, List.map_cons, List.map_nil, eX, ↓reduceIte, Nat.reduceEqDiff, Int.reduceToNat]
              refine Lt_buildSlice (vs := [.agg (Wt.c ⟨i, x⟩).toArray]) Try.underlying117 sz130 zr130 rfl (fun v hv => by simp at hv; subst hv; show (Wt.c ⟨i, x⟩).toArray.size = 65; simp [Sec.h]) (by first | decide | (simp; done)) ?_
              simp only [List.flatMap_cons, List.flatMap_nil, Value.cells, List.append_nil]
              intro b39 hb39
              have n39b : b ≠ b39 := ne_of_none hbA hb39
              have n39b7 : b7 ≠ b39 := ne_of_none hbA hb39
              have n39p : p ≠ b39 := ne_of_none hbA hb39
              have f39_R9 : R9 b39 = none := none_of_le lR9 hb39
              refine hK _ _ leA ?_; clear hK K
              refine TW_chain rfl (lt_some (by decide)) rfl (fun K hK r => ?_)
              simp only [x_builtin, l_append, List.map_toArray, List.map_cons, List.map_nil, eX, ↓reduceIte, Nat.reduceEqDiff, Int.reduceToNat]
              have how40 : OwnS ((H.upd b7 (.cells x.c.toArray 30)).upd p (.cells #[.int .i64 s.step.1.steps, .int .i64 s.step.1.left, .bool s.step.1.armed, .bool s.step.1.gone, .slice (some ⟨rd, 0, none⟩) s.dv.length cap] 114)) 130 65 (.slice wa (s.dv.getD dev.toNat default).wait.length wcp) (s.dv.getD dev.toNat default).wait.length (wts (s.dv.getD dev.toNat default).wait) wrs := (how.le hle).stay (fun z o hz ho => by
                have hzp : z ≠ p := fun e => by subst e; have := how.known z hz; rw [hfp.1] at this; exact this rfl
                rw [upd_ne _ _ hzp, upd_ne _ _ (ne_of_none ho hb7)]; exact ho)
              refine Lt_append Try.underlying117 Try.underlying117 (by simp) sz130 by130 (by decide) zr130 rfl _ (n := (s.dv.getD dev.toNat default).wait.length) (m := 1) (ds := Wt.c ⟨i, x⟩) (how40.make hb39) (fun Kx => len_slice _ _ _ Kx) (fun Kx => first_slice (w := 65) (n := 1) (cs := Wt.c ⟨i, x⟩) (wt_holds (w := ⟨i, x⟩) hbA) Kx) (by rw [Wt.len]) (Wt.plain _) (by omega) ?_
              intro v40 H40 rs40 hg40 ho40 hr40
              obtain ⟨wa40, wc40, rfl⟩ := ho40.holds.form
              have hwb : wrs ≠ some b := fun e => by
                obtain ⟨_, ⟨_, _, h0⟩ | ⟨r', cc, c', _, h2, _, _, _, h3⟩⟩ := how
                · rw [e] at h0; cases h0
                · rw [e] at h3; cases h3; rw [hb0] at h2; injection h2 with h2; injection h2 with _ h2; revert h2; decide
              have hw7 : wrs ≠ some b7 := fun e => how.known b7 e (none_of_le hle hb7)
              have hwp : wrs ≠ some p := fun e => how.known p e hfp.1
              have hwm : wrs ≠ some m := fun e => by
                obtain ⟨_, ⟨_, _, h0⟩ | ⟨r', cc, c', _, h2, _, _, _, h3⟩⟩ := how
                · rw [e] at h0; cases h0
                · rw [e] at h3; cases h3; rw [hm0] at h2; cases h2
              have hbm : b ≠ m := fun e => by rw [e, hm0] at hb0; cases hb0
              have kb40 := hg40.known b _ hbA hwb
              have k740 := hg40.known b7 _ hbA hw7
              have kp40 := hg40.known p _ hbA hwp
              have lR40 : Le R9 H40 := by rw [hR9]; exact le_put (le_put (le_empty _) kb40) k740
              have keep40 : ∀ x o, H x = some o → Fs dev.toNat x = none → x ≠ p → H40 x = some o := fun z o hz hn hzp => hg40.known z o ((upd_ne _ _ (ne_of_none ((upd_ne _ _ hzp).trans ((upd_ne _ _ (ne_of_none hz hb7)).trans hz)) hb39)).trans ((upd_ne _ _ hzp).trans ((upd_ne _ _ (ne_of_none hz hb7)).trans hz))) (fun e => how.known z e hn)
              have km40 : H40 m = some (.map es c) := hg40.known m _ ((upd_ne _ _ (ne_of_none ((upd_ne _ _ hmp).trans ((upd_ne _ _ hm7').trans km)) hb39)).trans ((upd_ne _ _ hmp).trans ((upd_ne _ _ hm7').trans km))) hwm
              refine hK _ _ leA ?_; clear hK K
              apply TW_pure rfl (lt_some (by decide)) rfl
              · intro r
                rw [x_nilCheck _ _ rfl]
                exact ⟨rfl, Le.refl _⟩
              simp only [eX, ↓reduceIte, Nat.reduceEqDiff, Int.reduceToNat]
              apply TW_pure rfl (lt_some (by decide)) rfl
              · intro r
                simp only [x_fieldAddr, fa119_2, add_mk, Nat.reduceAdd, Nat.zero_add, eX, ↓reduceIte, Nat.reduceEqDiff]
                exact ⟨rfl, Le.refl _⟩
              simp only [eX, ↓reduceIte, Nat.reduceEqDiff, Int.reduceToNat]
              refine TW_last rfl (lt_none) rfl (fun K hK r => ?_)
              simp only [x_store, eX, ↓reduceIte, Nat.reduceEqDiff, Int.reduceToNat]
              refine Lt_storeAt1 sz117 hbA bdA plA fzA ?_
              try simp only [setL0, setL1, setL2, setL3, setL4, setL5, setL6, setL7, setL8, setL9]
              try simp only [eX, ↓reduceIte, Nat.reduceEqDiff, Int.reduceToNat]
              refine hK _ _ ?_; clear hK K
              refine TW_nil ?_
              try simp only [Ex.thnH, Ex.inBlockH, ↓reduceIte, Nat.reduceEqDiff]
              refine hK12 _ _ ?_; try clear hK12 K12
              refine CW_seq (fun K13 hK13 => ?_)
              refine CW_region ?_
              refine OW_as rfl ?_
              refine OW_nil ?_
              try simp only [Ex.thnH, Ex.inBlockH, ↓reduceIte, Nat.reduceEqDiff]
              refine hK13 _ _ ?_; try clear hK13 K13
              refine CW_ret ?_
              try simp only [Ex.thnH, Ex.inBlockH, ↓reduceIte, Nat.reduceEqDiff]
              have hwr : s.wr dev i x = ({ s.step.1 with dv := s.dv.set dev.toNat ((s.dv.getD dev.toNat default).put ⟨i, x⟩) }, none) := by
                unfold St.wr; rw [if_pos hyes]
                have hdq := step_dv s
                generalize hq : s.step = q at *
                obtain ⟨t, bb⟩ := q
                simp only at hst hdq; subst hst; rw [← hdq]
              obtain ⟨Fi, hFi, hlFi, hdFi⟩ := DvX.put (w := ⟨i, x⟩) (K := H40.upd b (.cells #[.int .i64 (s.dv.getD dev.toNat default).size, .map (some m), .slice wa40 ((s.dv.getD dev.toNat default).wait.length + 1) wc40] 119)) (upd_same _ _ _) ((upd_ne _ _ (Ne.symm hbm)).trans km40) hms (ho40.upd (fun e => by
                rcases hr40 b e with h1 | h1
                · exact hwb h1
                · have h2 := upd_none h1
                  rw [upd_ne _ _ hbp, upd_ne _ _ hb7', kb] at h2; cases h2))
              have hbF : Fs dev.toNat b ≠ none := by rw [hb0]; simp
              have hmF : Fs dev.toNat m ≠ none := by rw [hm0]; simp
              refine ⟨[_], ⟨rfl, trivial⟩, _, Le.refl _, ?_, ?_⟩
              · rw [hwr]; rfl
              · rw [hwr]
                refine h.put hk (hbd ▸ hFi) rfl ((upd_ne _ _ (Ne.symm hbp)).trans kp40) hlFi (fun z o hz hn hzp => (upd_ne _ _ (fun e => by subst e; exact hbF hn)).trans (keep40 z o hz hn hzp)) (fun z hz => ?_)
                rcases hdFi z hz with rfl | rfl | h1
                · exact .inl hbF
                · exact .inl hmF
                · rcases hr40 z h1 with h2 | h2
                  · exact .inl (how.known z h2)
                  · have h3 := upd_none h2
                    by_cases e : z = p
                    · subst e; rw [upd_same] at h3; cases h3
                    · rw [upd_ne _ _ e] at h3
                      exact .inr (upd_none h3)

end Go.Proofs.Ytigofhhonnbkmaa.HL
end
section
namespace Go.Proofs.Ytigofhhonnbkmaa.HL
open Go Go.Proofs
set_option linter.unusedSimpArgs false
set_option linter.unusedVariables false
attribute [local irreducible] Lt Lq CW OW TW CallH


theorem PlainL.drop {l : List Value} (h : PlainL l) (n : Nat) : PlainL (l.drop n) := fun v hv => h v (List.mem_of_mem_drop hv)
theorem wt_x (w : Wt) : (w.c.toArray).extract 1 (1 + 64) = w.x.c.toArray := by
  apply Array.ext'
  rw [Array.toList_extract, List.extract_eq_take_drop]
  show ((w.x.c).take 64) = _
  exact List.take_of_length_le (by rw [Sec.len]; omega)
theorem wt_at (w : Wt) : (w.c.toArray)[0]? = some (.int .i64 w.at_) := rfl
theorem torn_cells (x old : Sec) (t : Int) (h : 0 < t ∧ t < 64) : putCells x.c.toArray t.toNat (old.c.drop t.toNat) = (torn x old t).c.toArray := by
  apply Array.ext'
  have hl : (old.c.drop t.toNat).length = 64 - t.toNat := by rw [List.length_drop, Sec.len]
  rw [putCells_toList (old.c.drop t.toNat) x.c.toArray t.toNat (by rw [hl]; simp only [List.size_toArray, Sec.len]; omega), hl]
  unfold torn
  rw [dif_pos h]
  have e0 : List.drop (t.toNat + (64 - t.toNat)) (u8s x.b) = [] := List.drop_eq_nil_of_le (by rw [List.length_map, x.h]; omega)
  simp only [Sec.c, u8s, List.map_append, List.map_take, List.map_drop] at e0 ⊢
  rw [e0, List.append_nil]
theorem torn_not (x old : Sec) (t : Int) (h : ¬ (0 < t ∧ t < 64)) : torn x old t = x := by unfold torn; rw [dif_neg h]
theorem stN_none {kept : Nat → Option Int} {ws : List Wt} {s : Int → Sec} {n : Nat} (h : kept n = none) : stN kept ws s (n + 1) = stN kept ws s n := by simp only [stN, h]
theorem stN_some {kept : Nat → Option Int} {ws : List Wt} {s : Int → Sec} {n : Nat} {t : Int} (h : kept n = some t) : stN kept ws s (n + 1) = fun x => if x = (ws.getD n default).at_ then torn (ws.getD n default).x (stN kept ws s n (ws.getD n default).at_) t else stN kept ws s n x := by simp only [stN, h]
theorem sec_holds {H : Hp} {b : Nat} {x : Sec} {T : TypeId} (hb : H b = some (.cells x.c.toArray T)) {t : Nat} (ht : t ≤ 64) (cap : Nat) : Holds H 1 (.slice (some ⟨b, t, none⟩) (64 - t) cap) (64 - t) (x.c.drop t) := by
  refine ⟨by rw [List.length_drop, Sec.len]; omega, .inr ⟨b, t, _, _, _, _, rfl, hb, by simp only [List.size_toArray, Sec.len]; omega, ?_⟩⟩
  rw [Array.toList_extract, List.extract_eq_take_drop]
  exact List.take_of_length_le (by rw [List.length_drop, Sec.len]; omega)
theorem DvX.facts {F : Hp} {b : Nat} {d : Dv} (h : DvX F b d) : ∃ mb es c wv wrs, F b = some (.cells #[.int .i64 d.size, .map (some mb), wv] 119) ∧ F mb = some (.map es c) ∧ MapS es d.sure ∧ OwnS F 130 65 wv d.wait.length (wts d.wait) wrs ∧ b ≠ mb ∧ wrs ≠ some b ∧ wrs ≠ some mb := by
  obtain ⟨mb, es, c, wv, wrs, h1, h2, h3, h4, _⟩ := h
  refine ⟨mb, es, c, wv, wrs, h1, h2, h3, h4, (fun e => by rw [e, h2] at h1; cases h1), (fun e => ?_), (fun e => ?_)⟩
  · obtain ⟨_, ⟨_, _, h0⟩ | ⟨r', cc, c', _, g2, _, _, _, g3⟩⟩ := h4
    · rw [e] at h0; cases h0
    · rw [e] at g3; cases g3; rw [h1] at g2; injection g2 with g2; injection g2 with _ g2; revert g2; decide
  · obtain ⟨_, ⟨_, _, h0⟩ | ⟨r', cc, c', _, g2, _, _, _, g3⟩⟩ := h4
    · rw [e] at h0; cases h0
    · rw [e] at g3; cases g3; rw [h2] at g2; cases g2

set_option maxRecDepth 100000 in
set_option maxHeartbeats 8000000 in
theorem settle_ok (H : Hp) (b : Nat) (d : Dv) (F G : Hp) (hd : DvX F b d) (hF : Le F H) (hG : Le G H) (hdis : ∀ x, F x ≠ none → G x = none) (gf : Fn) (ga gb : Array Value) (kept : Nat → Option Int) (hg : ∀ K, Le G K → ∀ n : Nat, n < d.wait.length → ValH Try.prog (.func gf ga gb) #[.int .i64 n] K (fun v K' => v = .tuple #[.int .i64 ((kept n).getD 0), .bool (kept n).isSome] ∧ K' = K)) (hl : d.wait.length ≤ 1000000) :
  CallH Try.prog 61 #[ptrV b, .func gf ga gb] H (fun _ H' => ∃ F', DvX F' b (d.settle kept) ∧ Le F' H' ∧ (∀ x, F' x ≠ none → F x ≠ none) ∧ ∀ x o, H x = some o → F x = none → H' x = some o) := by
  refine CallH_enter (l := [_, _]) (rl := []) (n := 59) Try.func61 rfl rfl rfl rfl rfl ?_
  simp only [envOf, Nat.reduceAdd]
  obtain ⟨mb, es, c, wv, wrs, hb0, hm0, hms, how, hbm, hwb, hwm⟩ := hd.facts
  obtain ⟨wa, wcp, rfl⟩ := how.holds.form
  have kb := hF _ _ hb0
  have km := hF _ _ hm0
  have gm : G mb = none := hdis mb (by rw [hm0]; simp)
  refine CW_seq (fun K1 hK1 => ?_)
  refine CW_seq (fun K2 hK2 => ?_)
  refine CW_region ?_
  refine OW_mv rfl ?_
  refine OW_opS (fun K hK r => ?_)
  rw [x_nilCheck _ _ rfl]
  simp only [eX, ↓reduceIte, Nat.reduceEqDiff, Int.reduceToNat]
  refine hK _ _ ?_; clear hK K
  refine OW_opS (fun K hK r => ?_)
  simp only [x_fieldAddr, fa119_2, add_mk, Nat.reduceAdd, Nat.zero_add, eX, ↓reduceIte, Nat.reduceEqDiff, Int.reduceToNat]
  refine hK _ _ ?_; clear hK K
  refine OW_opS (fun K hK r => ?_)
  simp only [x_load, eX, ↓reduceIte, Nat.reduceEqDiff, Int.reduceToNat]
  refine Lt_loadAt1 Try.underlying117 rfl hbA ldA ?_
  try simp only [eX, ↓reduceIte, Nat.reduceEqDiff, Int.reduceToNat]
  refine hK _ _ ?_; clear hK K
  refine OW_opS (fun K hK r => ?_)
  simp only [x_builtin, l_len, List.map_toArray, List.map_cons, List.map_nil, i_len_slice _ _ Try.underlying117, eX, ↓reduceIte, Nat.reduceEqDiff, Int.reduceToNat]
  refine hK _ _ ?_; clear hK K
  refine OW_mv rfl ?_
  refine OW_nil ?_
  try simp only [Ex.thnH, Ex.inBlockH, ↓reduceIte, Nat.reduceEqDiff]
  refine hK2 _ _ ?_; try clear hK2 K2
  refine CW_block ?_
  refine CW_loop (fun m e H_ => ∃ (k : Nat) (es' : Array MapEntry) (c' : Nat), k ≤ d.wait.length ∧ m = d.wait.length - k ∧ MapS es' (stN kept d.wait d.sure k) ∧ H_ mb = some (.map es' c') ∧ (∀ x o, H x = some o → x ≠ mb → H_ x = some o) ∧ Env.has [(0, ptrV b), (1, .func gf ga gb), (13, .slice wa d.wait.length wcp), (14, .int .i64 d.wait.length), (15, .int .i64 k)] e) (d.wait.length) ?_ ?_
  · skip
    exact ⟨0, es, c, by omega, by omega, hms, km, (fun x o hx _ => hx), rfl, rfl, rfl, rfl, rfl, trivial⟩
  intro m_ e_ H_ hI_
  obtain ⟨k, es', c', hk, rfl, hms', km', hkp, he⟩ := hI_
  refine CW_env he.sub ?_; clear he e_
  have kb' := hkp b _ kb hbm
  have how_ : OwnS H_ 130 65 (.slice wa d.wait.length wcp) d.wait.length (wts d.wait) wrs := (how.le hF).stay (fun z o hz ho => hkp z o ho (fun e => hwm (by rw [hz, e])))
  have hG_ : Le G H_ := fun x o hx => hkp x o (hG x o hx) (fun e => by rw [e, gm] at hx; cases hx)
  have hi0 := hms'.1
  refine CW_seq (fun K3 hK3 => ?_)
  refine CW_region ?_
  refine OW_opS (fun K hK r => ?_)
  simp (disch := (first | omega | decide)) only [x_bin, g_int, b_lss, dec_lt_t, dec_lt_f, dec_le_t, dec_le_f, dec_eq_t, dec_eq_f, Bool.not_true, Bool.not_false, eX, ↓reduceIte, Nat.reduceEqDiff, Int.reduceToNat]
  refine hK _ _ ?_; clear hK K
  refine OW_nil ?_
  try simp only [Ex.thnH, Ex.inBlockH, ↓reduceIte, Nat.reduceEqDiff]
  refine hK3 _ _ ?_; try clear hK3 K3
  refine CW_seq (fun K4 hK4 => ?_)
  refine CW_cond (fun r => rfl) (fun c16 => ?_) (fun c16 => ?_)
  · first
    | (exfalso; exact cnA c16; done)
    | skip
      (try simp only [decide_eq_true_eq, decide_eq_false_iff_not, Bool.not_eq_true, Bool.not_eq_false, Bool.and_eq_true, Bool.or_eq_true, Bool.or_eq_false_iff, Bool.not_eq_true, Bool.not_eq_eq_eq_not, Bool.not_true, Bool.not_false] at c16)
      obtain ⟨bw, ow, cw, Tw, Fw, ew, hbw, hsw, atw⟩ := how_.holds.at (by omega)
      refine CW_skip ?_
      try simp only [Ex.thnH, Ex.inBlockH, ↓reduceIte, Nat.reduceEqDiff]
      refine hK4 _ _ ?_; try clear hK4 K4
      refine CW_seq (fun K5 hK5 => ?_)
      refine CW_block ?_
      refine CW_seq (fun K6 hK6 => ?_)
      refine CW_region ?_
      refine OW_mv rfl ?_
      refine OW_opS (fun K hK r => ?_)
      simp only [x_indexAddr, eX, ↓reduceIte, Nat.reduceEqDiff, Int.reduceToNat]
      refine Lt_indexSof Try.underlying117 sz130 ew ixA ixA ?_
      try simp only [Int.toNat_natCast]
      refine hK _ _ ?_; clear hK K
      refine OW_opS (fun K hK r => ?_)
      simp only [x_load, eX, ↓reduceIte, Nat.reduceEqDiff, Int.reduceToNat]
      refine Lt_loadAtA Try.underlying130 rfl sz130 hbw (by omega) ?_
      rw [ext_at Wt.len atw rfl k (by omega) hsw]
      refine hK _ _ ?_; clear hK K
      refine OW_opS (fun K hK r => ?_)
      simp only [x_alloc, zr130, orF_some, Value.cells, eX, ↓reduceIte, Nat.reduceEqDiff, Int.reduceToNat]
      intro b5 hb5
      try have n5_b : b ≠ b5 := ne_of_none hbA hb5
      try have n5_mb : mb ≠ b5 := ne_of_none hbA hb5
      have f5_H_ : H_ b5 = none := none_of_le lhA hb5
      try simp only [eX, ↓reduceIte, Nat.reduceEqDiff, Int.reduceToNat]
      refine hK _ _ ?_; clear hK K
      refine OW_as rfl ?_
      refine OW_op rfl (lt_none) (fun K hK r => ?_)
      simp only [x_store, eX, ↓reduceIte, Nat.reduceEqDiff, Int.reduceToNat]
      refine Lt_storeAll sz130 (by simp [Sec.h]) hbA (by simp [Sec.h]) (Wt.plain _) (by decide) ?_
      refine hK _ _ ?_; clear hK K
      refine OW_nil ?_
      try simp only [Ex.thnH, Ex.inBlockH, ↓reduceIte, Nat.reduceEqDiff]
      refine hK6 _ _ ?_; try clear hK6 K6
      refine CW_seq (fun K7 hK7 => ?_)
      refine CW_region ?_
      refine OW_mv rfl ?_
      refine OW_mv rfl ?_
      refine OW_opS (fun K hK r => ?_)
      simp only [x_call, List.map_toArray, List.map_cons, List.map_nil, eX, ↓reduceIte, Nat.reduceEqDiff, Int.reduceToNat]
      show ValH _ _ _ _ _
      refine (hg _ (by exact le_upd_of hG_ (none_of_le hG_ hb5)) k (by omega)).mono ?_
      rintro v H' ⟨rfl, hq⟩
      have hq := hq.symm
      subst hq
      try simp only [eX, ↓reduceIte, Nat.reduceEqDiff, Int.reduceToNat]
      refine hK _ _ ?_; clear hK K
      refine OW_mv rfl ?_
      refine OW_opS (fun K hK r => ?_)
      simp only [x_extract, i_extract, List.getElem?_toArray, List.getElem?_cons_zero, List.getElem?_cons_succ, orF_some, eX, ↓reduceIte, Nat.reduceEqDiff, Int.reduceToNat]
      refine hK _ _ ?_; clear hK K
      refine OW_opS (fun K hK r => ?_)
      simp only [x_extract, i_extract, List.getElem?_toArray, List.getElem?_cons_zero, List.getElem?_cons_succ, orF_some, eX, ↓reduceIte, Nat.reduceEqDiff, Int.reduceToNat]
      refine hK _ _ ?_; clear hK K
      refine OW_as rfl ?_
      refine OW_as rfl ?_
      refine OW_nil ?_
      try simp only [Ex.thnH, Ex.inBlockH, ↓reduceIte, Nat.reduceEqDiff]
      refine hK7 _ _ ?_; try clear hK7 K7
      refine CW_seq (fun K8 hK8 => ?_)
      refine CW_seq (fun K9 hK9 => ?_)
      refine CW_region ?_
      refine OW_mv rfl ?_
      refine OW_opS (fun K hK r => ?_)
      simp only [x_un, u_not, eX, ↓reduceIte, Nat.reduceEqDiff, Int.reduceToNat]
      refine hK _ _ ?_; clear hK K
      refine OW_nil ?_
      try simp only [Ex.thnH, Ex.inBlockH, ↓reduceIte, Nat.reduceEqDiff]
      refine hK9 _ _ ?_; try clear hK9 K9
      refine CW_cond (fun r => rfl) (fun c27 => ?_) (fun c27 => ?_)
      · first
        | (exfalso; exact cnA c27; done)
        | skip
          have hkt : kept k = none := by cases hc : kept k with
            | none => rfl
            | some t => rw [hc] at c27; simp at c27
          refine CW_exit ?_
          try simp only [Ex.thnH, Ex.inBlockH, ↓reduceIte, Nat.reduceEqDiff]
          refine hK5 _ _ ?_; try clear hK5 K5
          refine CW_region ?_
          refine OW_opS (fun K hK r => ?_)
          simp (disch := (first | omega | decide)) only [x_bin, g_int, b_add, wrap_i64, wrap_u64, wrap_u32, wrap_u8, eX, ↓reduceIte, Nat.reduceEqDiff, Int.reduceToNat]
          refine hK _ _ ?_; clear hK K
          refine OW_mv rfl ?_
          refine OW_nil ?_
          try simp only [Ex.thnH, Ex.inBlockH, ↓reduceIte, Nat.reduceEqDiff]
          first
          | (refine ⟨d.wait.length - (k + 1), by omega, k + 1, es', c', by omega, rfl, ?_, hbA, ?_, rfl, rfl, rfl, rfl, rfl, trivial⟩
             · rw [stN_none (by first | assumption | (simpa using c27))]; exact hms'
             · exact fun z o hz hn => (show Le H_ _ from lhA) z o (hkp z o hz hn))
          | (refine ⟨d.wait.length - (k + 1), by omega, k + 1, es9, c9, by omega, rfl, ?_, upd_same _ _ _, ?_, rfl, rfl, rfl, rfl, rfl, trivial⟩
             · rw [stN_some hkt]
               first
               | exact hms'.put h91 h92
               | (rw [torn_not _ _ _ htr]; exact hms'.put h91 h92)
             · exact fun z o hz hn => (upd_ne _ _ hn).trans ((show Le H_ _ from lhA) z o (hkp z o hz hn)))
      · first
        | (exfalso; exact cnA c27; done)
        | skip
          obtain ⟨t, hkt⟩ : ∃ t, kept k = some t := by cases hc : kept k with
            | none => rw [hc] at c27; simp at c27
            | some t => exact ⟨t, rfl⟩
          simp only [hkt, Option.getD_some]
          clear c27
          refine CW_skip ?_
          try simp only [Ex.thnH, Ex.inBlockH, ↓reduceIte, Nat.reduceEqDiff]
          refine hK8 _ _ ?_; try clear hK8 K8
          refine CW_seq (fun K10 hK10 => ?_)
          refine CW_region ?_
          refine OW_opS (fun K hK r => ?_)
          simp only [x_fieldAddr, fa130_1, add_mk, Nat.reduceAdd, Nat.zero_add, eX, ↓reduceIte, Nat.reduceEqDiff, Int.reduceToNat]
          refine hK _ _ ?_; clear hK K
          refine OW_opS (fun K hK r => ?_)
          simp only [x_load, eX, ↓reduceIte, Nat.reduceEqDiff, Int.reduceToNat]
          refine Lt_loadAtA Try.underlying30 rfl sz30 hbA (by simp [Sec.h]) ?_
          rw [wt_x]
          refine hK _ _ ?_; clear hK K
          refine OW_opS (fun K hK r => ?_)
          simp only [x_alloc, zr30, orF_some, Value.cells, eX, ↓reduceIte, Nat.reduceEqDiff, Int.reduceToNat]
          intro b8 hb8
          try have n8_b : b ≠ b8 := ne_of_none hbA hb8
          try have n8_mb : mb ≠ b8 := ne_of_none hbA hb8
          try have n8_b5 : b5 ≠ b8 := ne_of_none hbA hb8
          have f8_H_ : H_ b8 = none := none_of_le lhA hb8
          try simp only [eX, ↓reduceIte, Nat.reduceEqDiff, Int.reduceToNat]
          refine hK _ _ ?_; clear hK K
          refine OW_op rfl (lt_none) (fun K hK r => ?_)
          simp only [x_store, eX, ↓reduceIte, Nat.reduceEqDiff, Int.reduceToNat]
          refine Lt_storeAll sz30 (by simp [Sec.h]) hbA (by simp [Sec.h]) (PlainL.ints _ _) (by decide) ?_
          refine hK _ _ ?_; clear hK K
          refine OW_nil ?_
          try simp only [Ex.thnH, Ex.inBlockH, ↓reduceIte, Nat.reduceEqDiff]
          refine hK10 _ _ ?_; try clear hK10 K10
          refine CW_seq (fun K11 hK11 => ?_)
          refine CW_seq (fun K12 hK12 => ?_)
          refine CW_region ?_
          refine OW_mv rfl ?_
          refine OW_opS (fun K hK r => ?_)
          simp (disch := (first | omega | decide)) only [x_bin, g_int, b_gtr, dec_lt_t, dec_lt_f, dec_le_t, dec_le_f, dec_eq_t, dec_eq_f, Bool.not_true, Bool.not_false, eX, ↓reduceIte, Nat.reduceEqDiff, Int.reduceToNat]
          refine hK _ _ ?_; clear hK K
          refine OW_mv rfl ?_
          (first | refine OW_split (d := 32) rfl (fun g32 => ?_) (fun g32 => ?_) | skip)
          all_goals try (exfalso; exact cnA g32)
          all_goals (try simp only [decide_eq_true_eq, decide_eq_false_iff_not, Bool.not_eq_true, Bool.not_eq_false, Bool.and_eq_true, Bool.or_eq_true, Bool.or_eq_false_iff, Bool.not_eq_true, Bool.not_eq_eq_eq_not, Bool.not_true, Bool.not_false] at g32)
          all_goals
            try simp only [eX, ↓reduceIte, Nat.reduceEqDiff, Int.reduceToNat]
            first
            | refine OW_guardT rfl (lt_some (by decide)) rfl (fun K hK r => ?_)
              simp only [x_move, eX, ↓reduceIte, Nat.reduceEqDiff, Int.reduceToNat]
              refine hK _ _ ?_; clear hK K
            | refine OW_guardF rfl (lt_some (by decide)) rfl ?_
              simp only [eX, ↓reduceIte, Nat.reduceEqDiff, Int.reduceToNat]
            first
            | refine OW_guardT rfl (lt_some (by decide)) rfl (fun K hK r => ?_)
              simp (disch := (first | omega | decide)) only [x_bin, g_int, b_lss, dec_lt_t, dec_lt_f, dec_le_t, dec_le_f, dec_eq_t, dec_eq_f, Bool.not_true, Bool.not_false, eX, ↓reduceIte, Nat.reduceEqDiff, Int.reduceToNat]
              refine hK _ _ ?_; clear hK K
            | refine OW_guardF rfl (lt_some (by decide)) rfl ?_
              simp only [eX, ↓reduceIte, Nat.reduceEqDiff, Int.reduceToNat]
            refine OW_opS (fun K hK r => ?_)
            simp only [x_pick, l_asBool, HL.ite_bool, if_true, if_false, Bool.false_eq_true, eX, ↓reduceIte, Nat.reduceEqDiff, Int.reduceToNat]
            refine hK _ _ ?_; clear hK K
            refine OW_nil ?_
            try simp only [Ex.thnH, Ex.inBlockH, ↓reduceIte, Nat.reduceEqDiff]
            refine hK12 _ _ ?_; try clear hK12 K12
            refine CW_cond (fun r => rfl) (fun c35 => ?_) (fun c35 => ?_)
            · first
              | (exfalso; exact cnA c35; done)
              | skip
                (try simp only [decide_eq_true_eq, decide_eq_false_iff_not, Bool.not_eq_true, Bool.not_eq_false, Bool.and_eq_true, Bool.or_eq_true, Bool.or_eq_false_iff, Bool.not_eq_true, Bool.not_eq_eq_eq_not, Bool.not_true, Bool.not_false] at c35)
                have htr : 0 < t ∧ t < 64 := by omega
                refine CW_seq (fun K13 hK13 => ?_)
                refine CW_drawE [0, 0, 0, 1, 0, 1, 1, 4, 3] [0, 1, 2, 3, 4, 5, 6, 7, 8] (by kernel_rfl) (by kernel_rfl) (fun R7 hR7 => ?_)
                apply TW_pure rfl (lt_some (by decide)) rfl
                · intro r
                  simp only [x_move, eX, ↓reduceIte, Nat.reduceEqDiff]
                  exact ⟨rfl, Le.refl _⟩
                simp only [eX, ↓reduceIte, Nat.reduceEqDiff, Int.reduceToNat]
                apply TW_pure rfl (lt_some (by decide)) rfl
                · intro r
                  rw [x_nilCheck _ _ rfl]
                  exact ⟨rfl, Le.refl _⟩
                simp only [eX, ↓reduceIte, Nat.reduceEqDiff, Int.reduceToNat]
                apply TW_pure rfl (lt_some (by decide)) rfl
                · intro r
                  simp only [x_fieldAddr, fa119_1, add_mk, Nat.reduceAdd, Nat.zero_add, eX, ↓reduceIte, Nat.reduceEqDiff]
                  exact ⟨rfl, Le.refl _⟩
                simp only [eX, ↓reduceIte, Nat.reduceEqDiff, Int.reduceToNat]
                apply TW_look rfl (lt_some (by decide)) rfl
                · intro r
                  simp only [x_load, eX, ↓reduceIte, Nat.reduceEqDiff]
                  refine Lt_loadAt1 Try.underlying116 rfl hbA ldA ?_
                  exact ⟨rfl, Le.refl _⟩
                simp only [eX, ↓reduceIte, Nat.reduceEqDiff, Int.reduceToNat]
                apply TW_pure rfl (lt_some (by decide)) rfl
                · intro r
                  simp only [x_fieldAddr, fa130_0, add_mk, Nat.reduceAdd, Nat.zero_add, eX, ↓reduceIte, Nat.reduceEqDiff]
                  exact ⟨rfl, Le.refl _⟩
                simp only [eX, ↓reduceIte, Nat.reduceEqDiff, Int.reduceToNat]
                apply TW_look rfl (lt_some (by decide)) rfl
                · intro r
                  simp only [x_load, eX, ↓reduceIte, Nat.reduceEqDiff]
                  refine Lt_loadAt1 Try.underlying3 rfl hbA (wt_at (d.wait.getD k default)) ?_
                  exact ⟨rfl, Le.refl _⟩
                simp only [eX, ↓reduceIte, Nat.reduceEqDiff, Int.reduceToNat]
                apply TW_look rfl (lt_some (by decide)) rfl
                · intro r
                  simp only [x_lookup, eX, ↓reduceIte, Nat.reduceEqDiff]
                  refine Lt_lookup Try.underlying116 Try.underlying3 zr30 hbA hi0 ?_
                  rw [hms'.2]
                  exact ⟨rfl, Le.refl _⟩
                simp only [eX, ↓reduceIte, Nat.reduceEqDiff, Int.reduceToNat]
                refine TW_make rfl (lt_some (by decide)) rfl (fun K hK r => ?_)
                simp only [x_alloc, zr30, orF_some, Value.cells, eX, ↓reduceIte, Nat.reduceEqDiff, Int.reduceToNat]
                intro b9 hb9
                try have n9_b : b ≠ b9 := ne_of_none hbA hb9
                try have n9_mb : mb ≠ b9 := ne_of_none hbA hb9
                try have n9_b5 : b5 ≠ b9 := ne_of_none hbA hb9
                try have n9_b8 : b8 ≠ b9 := ne_of_none hbA hb9
                have f9_H_ : H_ b9 = none := none_of_le lhA hb9
                have f9_R7 : R7 b9 = none := none_of_le lhA hb9
                try simp only [eX, ↓reduceIte, Nat.reduceEqDiff, Int.reduceToNat]
                refine hK _ _ ?_; clear hK K
                refine TW_last rfl (lt_none) rfl (fun K hK r => ?_)
                simp only [x_store, eX, ↓reduceIte, Nat.reduceEqDiff, Int.reduceToNat]
                refine Lt_storeAll sz30 (by simp [Sec.h]) hbA (by simp [Sec.h]) (PlainL.ints _ _) (by decide) ?_
                refine hK _ _ ?_; clear hK K
                refine TW_nil ?_
                try simp only [Ex.thnH, Ex.inBlockH, ↓reduceIte, Nat.reduceEqDiff]
                refine hK13 _ _ ?_; try clear hK13 K13
                refine CW_drawO [0, 0, 0, 0, 3] [0, 1, 2, 3, 4] emptyHp (by kernel_rfl) (by kernel_rfl) (le_empty _) ?_
                apply TW_pure rfl (lt_some (by decide)) rfl
                · intro r
                  simp only [x_move, eX, ↓reduceIte, Nat.reduceEqDiff]
                  exact ⟨rfl, Le.refl _⟩
                simp only [eX, ↓reduceIte, Nat.reduceEqDiff, Int.reduceToNat]
                apply TW_pure rfl (lt_some (by decide)) rfl
                · intro r
                  simp only [x_slice, Option.map_some, Option.map_none, eX, ↓reduceIte, Nat.reduceEqDiff]
                  refine Lt_sliceA Try.underlying30 sz5 bound_none bound_none (bound_some (by omega)) (by omega) (by omega) (by omega) (by simp) ?_
                  rw [if_neg (show ¬ 64 = t.toNat by omega)]
                  simp only [add_mk, Nat.mul_one, Nat.zero_add]
                  exact ⟨rfl, Le.refl _⟩
                simp only [eX, ↓reduceIte, Nat.reduceEqDiff, Int.reduceToNat]
                apply TW_pure rfl (lt_some (by decide)) rfl
                · intro r
                  simp only [x_move, eX, ↓reduceIte, Nat.reduceEqDiff]
                  exact ⟨rfl, Le.refl _⟩
                simp only [eX, ↓reduceIte, Nat.reduceEqDiff, Int.reduceToNat]
                apply TW_pure rfl (lt_some (by decide)) rfl
                · intro r
                  simp only [x_slice, Option.map_some, Option.map_none, eX, ↓reduceIte, Nat.reduceEqDiff]
                  refine Lt_sliceA Try.underlying30 sz5 bound_none bound_none (bound_some (by omega)) (by omega) (by omega) (by omega) (by simp) ?_
                  rw [if_neg (show ¬ 64 = t.toNat by omega)]
                  simp only [add_mk, Nat.mul_one, Nat.zero_add]
                  exact ⟨rfl, Le.refl _⟩
                simp only [eX, ↓reduceIte, Nat.reduceEqDiff, Int.reduceToNat]
                refine TW_last rfl (lt_some (by decide)) rfl (fun K hK r => ?_)
                simp only [x_builtin, l_copy, List.map_toArray, List.map_cons, List.map_nil, eX, ↓reduceIte, Nat.reduceEqDiff, Int.reduceToNat]
                have hmin : Nat.min (64 - t.toNat) (64 - t.toNat) = 64 - t.toNat := Nat.min_self _
                refine Lt_copy (w := 1) (cs := (stN kept d.wait d.sure k (d.wait.getD k default).at_).c.drop t.toNat) Try.underlying80 sz5 _ hbA (by simp only [List.size_toArray, Sec.len]; omega) (len_slice _ _ _) (fun Kx => ?_) (by rw [hmin, List.length_drop, Sec.len, Nat.mul_one]) (PlainL.drop (PlainL.ints _ _) _) (by decide) ?_
                · rw [hmin]
                  refine (first_holds (sec_holds (x := stN kept d.wait d.sure k (d.wait.getD k default).at_) hbA (t := t.toNat) (by omega) _) (Nat.le_refl _) Kx).trans ?_
                  rw [Nat.mul_one, List.take_of_length_le (by rw [List.length_drop, Sec.len]; omega)]
                rw [torn_cells _ _ _ htr]
                refine hK _ _ ?_; clear hK K
                refine TW_nil ?_
                try simp only [Ex.thnH, Ex.inBlockH, ↓reduceIte, Nat.reduceEqDiff]
                refine hK11 _ _ ?_; try clear hK11 K11
                refine CW_drawE [0, 0, 0, 1, 0, 1, 1, 3] [0, 1, 2, 3, 4, 5, 6, 7] (by kernel_rfl) (by kernel_rfl) (fun R9 hR9 => ?_)
                apply TW_pure rfl (lt_some (by decide)) rfl
                · intro r
                  simp only [x_move, eX, ↓reduceIte, Nat.reduceEqDiff]
                  exact ⟨rfl, Le.refl _⟩
                simp only [eX, ↓reduceIte, Nat.reduceEqDiff, Int.reduceToNat]
                apply TW_pure rfl (lt_some (by decide)) rfl
                · intro r
                  rw [x_nilCheck _ _ rfl]
                  exact ⟨rfl, Le.refl _⟩
                simp only [eX, ↓reduceIte, Nat.reduceEqDiff, Int.reduceToNat]
                apply TW_pure rfl (lt_some (by decide)) rfl
                · intro r
                  simp only [x_fieldAddr, fa119_1, add_mk, Nat.reduceAdd, Nat.zero_add, eX, ↓reduceIte, Nat.reduceEqDiff]
                  exact ⟨rfl, Le.refl _⟩
                simp only [eX, ↓reduceIte, Nat.reduceEqDiff, Int.reduceToNat]
                apply TW_look rfl (lt_some (by decide)) rfl
                · intro r
                  simp only [x_load, eX, ↓reduceIte, Nat.reduceEqDiff]
                  refine Lt_loadAt1 Try.underlying116 rfl hbA ldA ?_
                  exact ⟨rfl, Le.refl _⟩
                simp only [eX, ↓reduceIte, Nat.reduceEqDiff, Int.reduceToNat]
                apply TW_pure rfl (lt_some (by decide)) rfl
                · intro r
                  simp only [x_fieldAddr, fa130_0, add_mk, Nat.reduceAdd, Nat.zero_add, eX, ↓reduceIte, Nat.reduceEqDiff]
                  exact ⟨rfl, Le.refl _⟩
                simp only [eX, ↓reduceIte, Nat.reduceEqDiff, Int.reduceToNat]
                apply TW_look rfl (lt_some (by decide)) rfl
                · intro r
                  simp only [x_load, eX, ↓reduceIte, Nat.reduceEqDiff]
                  refine Lt_loadAt1 Try.underlying3 rfl hbA (wt_at (d.wait.getD k default)) ?_
                  exact ⟨rfl, Le.refl _⟩
                simp only [eX, ↓reduceIte, Nat.reduceEqDiff, Int.reduceToNat]
                apply TW_look rfl (lt_some (by decide)) rfl
                · intro r
                  simp only [x_load, eX, ↓reduceIte, Nat.reduceEqDiff]
                  refine Lt_loadAll Try.underlying30 rfl sz30 hbA (by simp [Sec.h]) ?_
                  exact ⟨rfl, Le.refl _⟩
                simp only [eX, ↓reduceIte, Nat.reduceEqDiff, Int.reduceToNat]
                refine TW_last rfl (lt_none) rfl (fun K hK r => ?_)
                simp only [x_mapUpdate, eX, ↓reduceIte, Nat.reduceEqDiff, Int.reduceToNat]
                refine Lt_mapUpdate Try.underlying116 Try.underlying3 hbA hi0 ?_
                intro es9 c9 h91 h92
                refine hK _ _ ?_; clear hK K
                refine TW_nil ?_
                try simp only [Ex.thnH, Ex.inBlockH, ↓reduceIte, Nat.reduceEqDiff]
                refine hK5 _ _ ?_; try clear hK5 K5
                refine CW_region ?_
                refine OW_opS (fun K hK r => ?_)
                simp (disch := (first | omega | decide)) only [x_bin, g_int, b_add, wrap_i64, wrap_u64, wrap_u32, wrap_u8, eX, ↓reduceIte, Nat.reduceEqDiff, Int.reduceToNat]
                refine hK _ _ ?_; clear hK K
                refine OW_mv rfl ?_
                refine OW_nil ?_
                try simp only [Ex.thnH, Ex.inBlockH, ↓reduceIte, Nat.reduceEqDiff]
                first
                | (refine ⟨d.wait.length - (k + 1), by omega, k + 1, es', c', by omega, rfl, ?_, hbA, ?_, rfl, rfl, rfl, rfl, rfl, trivial⟩
                   · rw [stN_none (by first | assumption | (simpa using c27))]; exact hms'
                   · exact fun z o hz hn => (show Le H_ _ from lhA) z o (hkp z o hz hn))
                | (refine ⟨d.wait.length - (k + 1), by omega, k + 1, es9, c9, by omega, rfl, ?_, upd_same _ _ _, ?_, rfl, rfl, rfl, rfl, rfl, trivial⟩
                   · rw [stN_some hkt]
                     first
                     | exact hms'.put h91 h92
                     | (rw [torn_not _ _ _ htr]; exact hms'.put h91 h92)
                   · exact fun z o hz hn => (upd_ne _ _ hn).trans ((show Le H_ _ from lhA) z o (hkp z o hz hn)))
            · first
              | (exfalso; exact cnA c35; done)
              | skip
                (try simp only [decide_eq_true_eq, decide_eq_false_iff_not, Bool.not_eq_true, Bool.not_eq_false, Bool.and_eq_true, Bool.or_eq_true, Bool.or_eq_false_iff, Bool.not_eq_true, Bool.not_eq_eq_eq_not, Bool.not_true, Bool.not_false] at c35)
                have htr : ¬ (0 < t ∧ t < 64) := by omega
                refine CW_skip ?_
                try simp only [Ex.thnH, Ex.inBlockH, ↓reduceIte, Nat.reduceEqDiff]
                refine hK11 _ _ ?_; try clear hK11 K11
                refine CW_drawE [0, 0, 0, 1, 0, 1, 1, 3] [0, 1, 2, 3, 4, 5, 6, 7] (by kernel_rfl) (by kernel_rfl) (fun R9 hR9 => ?_)
                apply TW_pure rfl (lt_some (by decide)) rfl
                · intro r
                  simp only [x_move, eX, ↓reduceIte, Nat.reduceEqDiff]
                  exact ⟨rfl, Le.refl _⟩
                simp only [eX, ↓reduceIte, Nat.reduceEqDiff, Int.reduceToNat]
                apply TW_pure rfl (lt_some (by decide)) rfl
                · intro r
                  rw [x_nilCheck _ _ rfl]
                  exact ⟨rfl, Le.refl _⟩
                simp only [eX, ↓reduceIte, Nat.reduceEqDiff, Int.reduceToNat]
                apply TW_pure rfl (lt_some (by decide)) rfl
                · intro r
                  simp only [x_fieldAddr, fa119_1, add_mk, Nat.reduceAdd, Nat.zero_add, eX, ↓reduceIte, Nat.reduceEqDiff]
                  exact ⟨rfl, Le.refl _⟩
                simp only [eX, ↓reduceIte, Nat.reduceEqDiff, Int.reduceToNat]
                apply TW_look rfl (lt_some (by decide)) rfl
                · intro r
                  simp only [x_load, eX, ↓reduceIte, Nat.reduceEqDiff]
                  refine Lt_loadAt1 Try.underlying116 rfl hbA ldA ?_
                  exact ⟨rfl, Le.refl _⟩
                simp only [eX, ↓reduceIte, Nat.reduceEqDiff, Int.reduceToNat]
                apply TW_pure rfl (lt_some (by decide)) rfl
                · intro r
                  simp only [x_fieldAddr, fa130_0, add_mk, Nat.reduceAdd, Nat.zero_add, eX, ↓reduceIte, Nat.reduceEqDiff]
                  exact ⟨rfl, Le.refl _⟩
                simp only [eX, ↓reduceIte, Nat.reduceEqDiff, Int.reduceToNat]
                apply TW_look rfl (lt_some (by decide)) rfl
                · intro r
                  simp only [x_load, eX, ↓reduceIte, Nat.reduceEqDiff]
                  refine Lt_loadAt1 Try.underlying3 rfl hbA (wt_at (d.wait.getD k default)) ?_
                  exact ⟨rfl, Le.refl _⟩
                simp only [eX, ↓reduceIte, Nat.reduceEqDiff, Int.reduceToNat]
                apply TW_look rfl (lt_some (by decide)) rfl
                · intro r
                  simp only [x_load, eX, ↓reduceIte, Nat.reduceEqDiff]
                  refine Lt_loadAll Try.underlying30 rfl sz30 hbA (by simp [Sec.h]) ?_
                  exact ⟨rfl, Le.refl _⟩
                simp only [eX, ↓reduceIte, Nat.reduceEqDiff, Int.reduceToNat]
                refine TW_last rfl (lt_none) rfl (fun K hK r => ?_)
                simp only [x_mapUpdate, eX, ↓reduceIte, Nat.reduceEqDiff, Int.reduceToNat]
                refine Lt_mapUpdate Try.underlying116 Try.underlying3 hbA hi0 ?_
                intro es9 c9 h91 h92
                refine hK _ _ ?_; clear hK K
                refine TW_nil ?_
                try simp only [Ex.thnH, Ex.inBlockH, ↓reduceIte, Nat.reduceEqDiff]
                refine hK5 _ _ ?_; try clear hK5 K5
                refine CW_region ?_
                refine OW_opS (fun K hK r => ?_)
                simp (disch := (first | omega | decide)) only [x_bin, g_int, b_add, wrap_i64, wrap_u64, wrap_u32, wrap_u8, eX, ↓reduceIte, Nat.reduceEqDiff, Int.reduceToNat]
                refine hK _ _ ?_; clear hK K
                refine OW_mv rfl ?_
                refine OW_nil ?_
                try simp only [Ex.thnH, Ex.inBlockH, ↓reduceIte, Nat.reduceEqDiff]
                first
                | (refine ⟨d.wait.length - (k + 1), by omega, k + 1, es', c', by omega, rfl, ?_, hbA, ?_, rfl, rfl, rfl, rfl, rfl, trivial⟩
                   · rw [stN_none (by first | assumption | (simpa using c27))]; exact hms'
                   · exact fun z o hz hn => (show Le H_ _ from lhA) z o (hkp z o hz hn))
                | (refine ⟨d.wait.length - (k + 1), by omega, k + 1, es9, c9, by omega, rfl, ?_, upd_same _ _ _, ?_, rfl, rfl, rfl, rfl, rfl, trivial⟩
                   · rw [stN_some hkt]
                     first
                     | exact hms'.put h91 h92
                     | (rw [torn_not _ _ _ htr]; exact hms'.put h91 h92)
                   · exact fun z o hz hn => (upd_ne _ _ hn).trans ((show Le H_ _ from lhA) z o (hkp z o hz hn)))
  · first
    | (exfalso; exact cnA c16; done)
    | skip
      (try simp only [decide_eq_true_eq, decide_eq_false_iff_not, Bool.not_eq_true, Bool.not_eq_false, Bool.and_eq_true, Bool.or_eq_true, Bool.or_eq_false_iff, Bool.not_eq_true, Bool.not_eq_eq_eq_not, Bool.not_true, Bool.not_false] at c16)
      have hkn : k = d.wait.length := by omega
      refine CW_exit ?_
      try simp only [Ex.thnH, Ex.inBlockH, ↓reduceIte, Nat.reduceEqDiff]
      refine hK1 _ _ ?_; try clear hK1 K1
      refine CW_region ?_
      refine OW_mv rfl ?_
      refine OW_opS (fun K hK r => ?_)
      rw [x_nilCheck _ _ rfl]
      simp only [eX, ↓reduceIte, Nat.reduceEqDiff, Int.reduceToNat]
      refine hK _ _ ?_; clear hK K
      refine OW_opS (fun K hK r => ?_)
      simp only [x_fieldAddr, fa119_2, add_mk, Nat.reduceAdd, Nat.zero_add, eX, ↓reduceIte, Nat.reduceEqDiff, Int.reduceToNat]
      refine hK _ _ ?_; clear hK K
      refine OW_op rfl (lt_none) (fun K hK r => ?_)
      simp only [x_store, eX, ↓reduceIte, Nat.reduceEqDiff, Int.reduceToNat]
      refine Lt_storeAt1 sz117 hbA bdA plA fzA ?_
      try simp only [setL0, setL1, setL2, setL3, setL4, setL5, setL6, setL7, setL8, setL9]
      try simp only [eX, ↓reduceIte, Nat.reduceEqDiff, Int.reduceToNat]
      refine hK _ _ ?_; clear hK K
      refine OW_nil ?_
      try simp only [Ex.thnH, Ex.inBlockH, ↓reduceIte, Nat.reduceEqDiff]
      have es9 : MapS es' (stN kept d.wait d.sure d.wait.length) := hkn ▸ hms'
      have kmf : (H_.upd b (.cells #[.int .i64 d.size, .map (some mb), .slice none 0 0] 119)) mb = some (.map es' c') := (upd_ne _ _ (Ne.symm hbm)).trans km'
      refine ⟨[], trivial, _, Le.refl _, fun x => if x = b ∨ x = mb then (H_.upd b (.cells #[.int .i64 d.size, .map (some mb), .slice none 0 0] 119)) x else none, ⟨mb, es', c', .slice none 0 0, none, by simp [upd_same, Dv.settle], by simpa using kmf, es9, OwnS.nil _ _ _, fun x hx => ?_⟩, fun x o hx => ?_, fun x hx => ?_, fun x o hx hn => ?_⟩
      · by_cases h : x = b ∨ x = mb
        · exact h.imp id .inl
        · simp [h] at hx
      · by_cases h : x = b ∨ x = mb
        · simpa [h] using hx
        · simp [h] at hx
      · by_cases h : x = b ∨ x = mb
        · rcases h with rfl | rfl
          · rw [hb0]; simp
          · rw [hm0]; simp
        · simp [h] at hx
      · exact (upd_ne _ _ (fun e => by subst e; rw [hb0] at hn; cases hn)).trans (hkp x o hx (fun e => by subst e; rw [hm0] at hn; cases hn))

end Go.Proofs.Ytigofhhonnbkmaa.HL
end
section
namespace Go.Proofs.Ytigofhhonnbkmaa.HL
open Go Go.Proofs
set_option linter.unusedSimpArgs false
set_option linter.unusedVariables false
attribute [local irreducible] Lt Lq CW OW TW CallH


/-- what a crash keeps -/
structure Kp where
  dev : Int
  n : Int
  tear : Int
deriving Inhabited, DecidableEq
abbrev Kp.c (k : Kp) : List Value := [.int .i64 k.dev, .int .i64 k.n, .int .i64 k.tear]
theorem Kp.len (k : Kp) : k.c.length = 3 := rfl
abbrev kps (l : List Kp) : List Value := l.flatMap Kp.c
def keepOf (l : List Kp) (dev n : Int) : Option Int := (l.find? (fun k => decide (k.dev = dev) && decide (k.n = n))).map Kp.tear
theorem find_at {α : Type} [Inhabited α] (P : α → Bool) : ∀ (l : List α) (k : Nat), k < l.length → P (l.getD k default) = true → (∀ j, j < k → P (l.getD j default) = false) → l.find? P = some (l.getD k default)
  | [], k, h, _, _ => absurd h (by simp)
  | x :: r, 0, _, h1, _ => by simp at h1 ⊢; simp [List.find?, h1]
  | x :: r, k + 1, h, h1, h2 => by
    have h0 : P x = false := h2 0 (by omega)
    simp only [List.find?, h0]
    rw [find_at P r k (by simpa using h) (by simpa using h1) (fun j hj => by simpa using h2 (j + 1) (by omega))]
    simp
theorem find_no {α : Type} [Inhabited α] (P : α → Bool) (l : List α) (h : ∀ j, j < l.length → P (l.getD j default) = false) : l.find? P = none := by
  rw [List.find?_eq_none]
  intro x hx
  obtain ⟨j, hj, rfl⟩ := List.mem_iff_getElem.1 hx
  have := h j hj
  rw [List.getD_eq_getElem?_getD, List.getElem?_eq_getElem hj] at this
  simpa using this
def St.crK (s : St) (l : List Kp) (k : Nat) : St := { s with dv := s.dv.mapIdx (fun i d => if i < k then d.settle (fun n => keepOf l i n) else d) }
def St.cr (s : St) (l : List Kp) : St := { s with armed := false, gone := false, dv := s.dv.mapIdx (fun i d => d.settle (fun n => keepOf l i n)) }
theorem St.crK_len (s : St) (l : List Kp) (k : Nat) : (s.crK l k).dv.length = s.dv.length := by simp [St.crK]
theorem St.crK_at (s : St) (l : List Kp) (k : Nat) (hk : k < s.dv.length) : (s.crK l k).dv.getD k default = s.dv.getD k default := by
  simp [St.crK, List.getD_eq_getElem?_getD, List.getElem?_mapIdx, List.getElem?_eq_getElem hk]
theorem St.crK_zero (s : St) (l : List Kp) : s.crK l 0 = s := by
  have : s.dv.mapIdx (fun i d => if i < 0 then d.settle (fun n => keepOf l i n) else d) = s.dv := by
    apply List.ext_getElem?
    intro i; rw [List.getElem?_mapIdx]; cases s.dv[i]? <;> simp
  cases s; simp only [St.crK] at this ⊢; rw [this]
theorem St.crK_next (s : St) (l : List Kp) (k : Nat) (hk : k < s.dv.length) : (s.crK l (k + 1)).dv = (s.crK l k).dv.set k ((s.dv.getD k default).settle (fun n => keepOf l k n)) := by
  apply List.ext_getElem?
  intro i
  by_cases e : i = k
  · subst e
    rw [List.getElem?_set_self (by rw [St.crK_len]; exact hk)]
    simp [St.crK, List.getElem?_mapIdx, List.getD_eq_getElem?_getD, List.getElem?_eq_getElem hk]
  · rw [List.getElem?_set_ne (Ne.symm e)]
    simp only [St.crK, List.getElem?_mapIdx]
    cases s.dv[i]? with
    | none => rfl
    | some d =>
      simp only [Option.map_some]
      by_cases h : i < k
      · rw [if_pos h, if_pos (by omega)]
      · rw [if_neg h, if_neg (by omega)]
theorem St.crK_all (s : St) (l : List Kp) : (s.crK l s.dv.length).dv = (s.cr l).dv := by
  apply List.ext_getElem?
  intro i
  simp only [St.crK, St.cr, List.getElem?_mapIdx]
  rcases Nat.lt_or_ge i s.dv.length with h | h
  · rw [List.getElem?_eq_getElem h]; simp [h]
  · rw [List.getElem?_eq_none h]; rfl

set_option maxRecDepth 100000 in
set_option maxHeartbeats 1000000 in
theorem crash11_ok (H : Hp) (bd bn : Nat) (dev n : Int) (k : Kp) (hd : H bd = some (.cells #[.int .i64 dev] 3)) (hn : H bn = some (.cells #[.int .i64 n] 3)) : CallH Try.prog 64 #[.agg k.c.toArray, .pointer (some ⟨bd, 0, none⟩), .pointer (some ⟨bn, 0, none⟩)] H (fun v H' => v = .bool (decide (k.dev = dev) && decide (k.n = n)) ∧ H' = H) := by
  refine CallH_enter (l := [_, _, _]) (rl := [.tmp 4]) (n := 15) Try.func64 rfl rfl rfl rfl rfl ?_
  simp only [envOf, Nat.reduceAdd]
  refine CW_seq (fun K1 hK1 => ?_)
  refine CW_region ?_
  refine OW_opS (fun K hK r => ?_)
  simp only [x_box, Value.cells, eX, ↓reduceIte, Nat.reduceEqDiff, Int.reduceToNat]
  intro b3 hb3
  try have n3_bd : bd ≠ b3 := ne_of_none hbA hb3
  try have n3_bn : bn ≠ b3 := ne_of_none hbA hb3
  have f3_H : H b3 = none := none_of_le lhA hb3
  try simp only [eX, ↓reduceIte, Nat.reduceEqDiff, Int.reduceToNat]
  refine hK _ _ ?_; clear hK K
  refine OW_as rfl ?_
  refine OW_nil ?_
  try simp only [Ex.thnH, Ex.inBlockH, ↓reduceIte, Nat.reduceEqDiff]
  refine hK1 _ _ ?_; try clear hK1 K1
  refine CW_seq (fun K2 hK2 => ?_)
  refine CW_region ?_
  refine OW_opS (fun K hK r => ?_)
  simp only [x_fieldAddr, fa140_0, add_mk, Nat.reduceAdd, Nat.zero_add, eX, ↓reduceIte, Nat.reduceEqDiff, Int.reduceToNat]
  refine hK _ _ ?_; clear hK K
  refine OW_opS (fun K hK r => ?_)
  simp only [x_load, eX, ↓reduceIte, Nat.reduceEqDiff, Int.reduceToNat]
  refine Lt_loadAt1 Try.underlying3 rfl hbA ldA ?_
  try simp only [eX, ↓reduceIte, Nat.reduceEqDiff, Int.reduceToNat]
  refine hK _ _ ?_; clear hK K
  refine OW_opS (fun K hK r => ?_)
  simp only [x_load, eX, ↓reduceIte, Nat.reduceEqDiff, Int.reduceToNat]
  refine Lt_loadAt1 Try.underlying3 rfl hbA ldA ?_
  try simp only [eX, ↓reduceIte, Nat.reduceEqDiff, Int.reduceToNat]
  refine hK _ _ ?_; clear hK K
  refine OW_opS (fun K hK r => ?_)
  simp (disch := (first | omega | decide)) only [x_bin, g_int, b_eql, dec_lt_t, dec_lt_f, dec_le_t, dec_le_f, dec_eq_t, dec_eq_f, Bool.not_true, Bool.not_false, eX, ↓reduceIte, Nat.reduceEqDiff, Int.reduceToNat]
  refine hK _ _ ?_; clear hK K
  refine OW_mv rfl ?_
  (first | refine OW_split (d := 9) rfl (fun g9 => ?_) (fun g9 => ?_) | skip)
  all_goals try (exfalso; exact cnA g9)
  all_goals (try simp only [decide_eq_true_eq, decide_eq_false_iff_not, Bool.not_eq_true, Bool.not_eq_false, Bool.and_eq_true, Bool.or_eq_true, Bool.or_eq_false_iff, Bool.not_eq_true, Bool.not_eq_eq_eq_not, Bool.not_true, Bool.not_false] at g9)
  all_goals
    try simp only [eX, ↓reduceIte, Nat.reduceEqDiff, Int.reduceToNat]
    first
    | refine OW_guardT rfl (lt_some (by decide)) rfl (fun K hK r => ?_)
      simp only [x_fieldAddr, fa140_1, add_mk, Nat.reduceAdd, Nat.zero_add, eX, ↓reduceIte, Nat.reduceEqDiff, Int.reduceToNat]
      refine hK _ _ ?_; clear hK K
    | refine OW_guardF rfl (lt_some (by decide)) rfl ?_
      simp only [eX, ↓reduceIte, Nat.reduceEqDiff, Int.reduceToNat]
    first
    | refine OW_guardT rfl (lt_some (by decide)) rfl (fun K hK r => ?_)
      simp only [x_load, eX, ↓reduceIte, Nat.reduceEqDiff, Int.reduceToNat]
      refine Lt_loadAt1 Try.underlying3 rfl hbA ldA ?_
      try simp only [eX, ↓reduceIte, Nat.reduceEqDiff, Int.reduceToNat]
      refine hK _ _ ?_; clear hK K
    | refine OW_guardF rfl (lt_some (by decide)) rfl ?_
      simp only [eX, ↓reduceIte, Nat.reduceEqDiff, Int.reduceToNat]
    first
    | refine OW_guardT rfl (lt_some (by decide)) rfl (fun K hK r => ?_)
      simp only [x_load, eX, ↓reduceIte, Nat.reduceEqDiff, Int.reduceToNat]
      refine Lt_loadAt1 Try.underlying3 rfl hbA ldA ?_
      try simp only [eX, ↓reduceIte, Nat.reduceEqDiff, Int.reduceToNat]
      refine hK _ _ ?_; clear hK K
    | refine OW_guardF rfl (lt_some (by decide)) rfl ?_
      simp only [eX, ↓reduceIte, Nat.reduceEqDiff, Int.reduceToNat]
    first
    | refine OW_guardT rfl (lt_some (by decide)) rfl (fun K hK r => ?_)
      simp (disch := (first | omega | decide)) only [x_bin, g_int, b_eql, dec_lt_t, dec_lt_f, dec_le_t, dec_le_f, dec_eq_t, dec_eq_f, Bool.not_true, Bool.not_false, eX, ↓reduceIte, Nat.reduceEqDiff, Int.reduceToNat]
      refine hK _ _ ?_; clear hK K
    | refine OW_guardF rfl (lt_some (by decide)) rfl ?_
      simp only [eX, ↓reduceIte, Nat.reduceEqDiff, Int.reduceToNat]
    refine OW_opS (fun K hK r => ?_)
    simp only [x_pick, l_asBool, HL.ite_bool, if_true, if_false, Bool.false_eq_true, eX, ↓reduceIte, Nat.reduceEqDiff, Int.reduceToNat]
    refine hK _ _ ?_; clear hK K
    refine OW_as rfl ?_
    refine OW_nil ?_
    try simp only [Ex.thnH, Ex.inBlockH, ↓reduceIte, Nat.reduceEqDiff]
    refine hK2 _ _ ?_; try clear hK2 K2
    refine CW_ret ?_
    try simp only [Ex.thnH, Ex.inBlockH, ↓reduceIte, Nat.reduceEqDiff]
    refine ⟨[_], ⟨rfl, trivial⟩, H, lhA, ?_, rfl⟩
    show Value.bool _ = _
    congr 1
    by_cases hdd : k.dev = dev <;> simp_all

set_option maxRecDepth 100000 in
set_option maxHeartbeats 1000000 in
theorem index_ok (H : Hp) (a : Option Addr) (cap : Nat) (l : List Kp) (hv : Holds H 3 (.slice a l.length cap) l.length (kps l)) (gf : Fn) (ga gb : Array Value) (P : Kp → Bool) (hP : ∀ k, ValH Try.prog (.func gf ga gb) #[.agg k.c.toArray] H (fun v H' => v = .bool (P k) ∧ H' = H)) (hl : l.length ≤ 1000) :
  CallH Try.prog 63 #[.slice a l.length cap, .func gf ga gb] H (fun v H' => H' = H ∧ ∃ ix : Int, v = .int .i64 ix ∧ ((∃ k : Nat, k < l.length ∧ ix = (k : Int) ∧ P (l.getD k default) = true ∧ ∀ j, j < k → P (l.getD j default) = false) ∨ (ix = -1 ∧ ∀ j, j < l.length → P (l.getD j default) = false))) := by
  refine CallH_enter (l := [_, _]) (rl := [.tmp 4]) (n := 19) Try.func63 rfl rfl rfl rfl rfl ?_
  simp only [envOf, Nat.reduceAdd]
  refine CW_seq (fun K1 hK1 => ?_)
  refine CW_region ?_
  refine OW_as rfl ?_
  refine OW_nil ?_
  try simp only [Ex.thnH, Ex.inBlockH, ↓reduceIte, Nat.reduceEqDiff]
  refine hK1 _ _ ?_; try clear hK1 K1
  refine CW_seq (fun K2 hK2 => ?_)
  refine CW_seq (fun K3 hK3 => ?_)
  refine CW_region ?_
  refine OW_mv rfl ?_
  refine OW_opS (fun K hK r => ?_)
  simp only [x_builtin, l_len, List.map_toArray, List.map_cons, List.map_nil, i_len_slice _ _ Try.underlying69, eX, ↓reduceIte, Nat.reduceEqDiff, Int.reduceToNat]
  refine hK _ _ ?_; clear hK K
  refine OW_mv rfl ?_
  refine OW_nil ?_
  try simp only [Ex.thnH, Ex.inBlockH, ↓reduceIte, Nat.reduceEqDiff]
  refine hK3 _ _ ?_; try clear hK3 K3
  refine CW_block ?_
  refine CW_loop (fun m e H_ => ∃ k : Nat, k ≤ l.length ∧ m = l.length - k ∧ (∀ j, j < k → P (l.getD j default) = false) ∧ H_ = H ∧ Env.has [(0, .slice a l.length cap), (1, .func gf ga gb), (7, .int .i64 l.length), (8, .int .i64 k)] e) (l.length) ?_ ?_
  · skip
    exact ⟨0, by omega, by omega, (fun j hj => absurd hj (by omega)), rfl, rfl, rfl, rfl, rfl, trivial⟩
  intro m_ e_ H_ hI_
  obtain ⟨k, hk, rfl, hno, hH_, he⟩ := hI_
  have hH_ := hH_.symm; subst hH_
  refine CW_env he.sub ?_; clear he e_
  refine CW_seq (fun K4 hK4 => ?_)
  refine CW_region ?_
  refine OW_opS (fun K hK r => ?_)
  simp (disch := (first | omega | decide)) only [x_bin, g_int, b_lss, dec_lt_t, dec_lt_f, dec_le_t, dec_le_f, dec_eq_t, dec_eq_f, Bool.not_true, Bool.not_false, eX, ↓reduceIte, Nat.reduceEqDiff, Int.reduceToNat]
  refine hK _ _ ?_; clear hK K
  refine OW_nil ?_
  try simp only [Ex.thnH, Ex.inBlockH, ↓reduceIte, Nat.reduceEqDiff]
  refine hK4 _ _ ?_; try clear hK4 K4
  refine CW_seq (fun K5 hK5 => ?_)
  refine CW_cond (fun r => rfl) (fun c9 => ?_) (fun c9 => ?_)
  · first
    | (exfalso; exact cnA c9; done)
    | skip
      (try simp only [decide_eq_true_eq, decide_eq_false_iff_not, Bool.not_eq_true, Bool.not_eq_false, Bool.and_eq_true, Bool.or_eq_true, Bool.or_eq_false_iff, Bool.not_eq_true, Bool.not_eq_eq_eq_not, Bool.not_true, Bool.not_false] at c9)
      obtain ⟨bw, ow, cw, Tw, Fw, ew, hbw, hsw, atw⟩ := hv.at (by omega)
      refine CW_skip ?_
      try simp only [Ex.thnH, Ex.inBlockH, ↓reduceIte, Nat.reduceEqDiff]
      refine hK5 _ _ ?_; try clear hK5 K5
      refine CW_seq (fun K6 hK6 => ?_)
      refine CW_block ?_
      refine CW_seq (fun K7 hK7 => ?_)
      refine CW_region ?_
      refine OW_mv rfl ?_
      refine OW_as rfl ?_
      refine OW_nil ?_
      try simp only [Ex.thnH, Ex.inBlockH, ↓reduceIte, Nat.reduceEqDiff]
      refine hK7 _ _ ?_; try clear hK7 K7
      refine CW_seq (fun K8 hK8 => ?_)
      refine CW_region ?_
      refine OW_mv rfl ?_
      refine OW_mv rfl ?_
      refine OW_mv rfl ?_
      refine OW_opS (fun K hK r => ?_)
      simp only [x_indexAddr, eX, ↓reduceIte, Nat.reduceEqDiff, Int.reduceToNat]
      refine Lt_indexSof Try.underlying69 sz140 ew ixA ixA ?_
      try simp only [Int.toNat_natCast]
      refine hK _ _ ?_; clear hK K
      refine OW_opS (fun K hK r => ?_)
      simp only [x_load, eX, ↓reduceIte, Nat.reduceEqDiff, Int.reduceToNat]
      refine Lt_loadAtA Try.underlying140 rfl sz140 hbw (by omega) ?_
      rw [ext_at Kp.len atw rfl k (by omega) hsw]
      refine hK _ _ ?_; clear hK K
      refine OW_opS (fun K hK r => ?_)
      simp only [x_call, List.map_toArray, List.map_cons, List.map_nil, eX, ↓reduceIte, Nat.reduceEqDiff, Int.reduceToNat]
      show ValH _ _ _ _ _
      refine (hP (l.getD k default)).mono ?_
      rintro v H' ⟨rfl, hq⟩
      have hq := hq.symm
      subst hq
      try simp only [eX, ↓reduceIte, Nat.reduceEqDiff, Int.reduceToNat]
      refine hK _ _ ?_; clear hK K
      refine OW_nil ?_
      try simp only [Ex.thnH, Ex.inBlockH, ↓reduceIte, Nat.reduceEqDiff]
      refine hK8 _ _ ?_; try clear hK8 K8
      refine CW_cond (fun r => rfl) (fun c16 => ?_) (fun c16 => ?_)
      · first
        | (exfalso; exact cnA c16; done)
        | skip
          (try simp only [decide_eq_true_eq, decide_eq_false_iff_not, Bool.not_eq_true, Bool.not_eq_false, Bool.and_eq_true, Bool.or_eq_true, Bool.or_eq_false_iff, Bool.not_eq_true, Bool.not_eq_eq_eq_not, Bool.not_true, Bool.not_false] at c16)
          refine CW_seq (fun K9 hK9 => ?_)
          refine CW_region ?_
          refine OW_mv rfl ?_
          refine OW_as rfl ?_
          refine OW_nil ?_
          try simp only [Ex.thnH, Ex.inBlockH, ↓reduceIte, Nat.reduceEqDiff]
          refine hK9 _ _ ?_; try clear hK9 K9
          refine CW_ret ?_
          try simp only [Ex.thnH, Ex.inBlockH, ↓reduceIte, Nat.reduceEqDiff]
          exact ⟨[_], ⟨rfl, trivial⟩, _, Le.refl _, rfl, _, rfl, .inl ⟨k, by omega, rfl, c16, hno⟩⟩
      · first
        | (exfalso; exact cnA c16; done)
        | skip
          (try simp only [decide_eq_true_eq, decide_eq_false_iff_not, Bool.not_eq_true, Bool.not_eq_false, Bool.and_eq_true, Bool.or_eq_true, Bool.or_eq_false_iff, Bool.not_eq_true, Bool.not_eq_eq_eq_not, Bool.not_true, Bool.not_false] at c16)
          refine CW_skip ?_
          try simp only [Ex.thnH, Ex.inBlockH, ↓reduceIte, Nat.reduceEqDiff]
          refine hK6 _ _ ?_; try clear hK6 K6
          refine CW_region ?_
          refine OW_opS (fun K hK r => ?_)
          simp (disch := (first | omega | decide)) only [x_bin, g_int, b_add, wrap_i64, wrap_u64, wrap_u32, wrap_u8, eX, ↓reduceIte, Nat.reduceEqDiff, Int.reduceToNat]
          refine hK _ _ ?_; clear hK K
          refine OW_mv rfl ?_
          refine OW_nil ?_
          try simp only [Ex.thnH, Ex.inBlockH, ↓reduceIte, Nat.reduceEqDiff]
          refine ⟨l.length - (k + 1), by omega, k + 1, by omega, rfl, (fun j hj => ?_), rfA, rfl, rfl, rfl, rfl, trivial⟩
          by_cases e : j = k
          · subst e; exact c16
          · exact hno j (by omega)
  · first
    | (exfalso; exact cnA c9; done)
    | skip
      (try simp only [decide_eq_true_eq, decide_eq_false_iff_not, Bool.not_eq_true, Bool.not_eq_false, Bool.and_eq_true, Bool.or_eq_true, Bool.or_eq_false_iff, Bool.not_eq_true, Bool.not_eq_eq_eq_not, Bool.not_true, Bool.not_false] at c9)
      have hkn : k = l.length := by omega
      refine CW_exit ?_
      try simp only [Ex.thnH, Ex.inBlockH, ↓reduceIte, Nat.reduceEqDiff]
      refine hK2 _ _ ?_; try clear hK2 K2
      refine CW_seq (fun K10 hK10 => ?_)
      refine CW_region ?_
      refine OW_as rfl ?_
      refine OW_nil ?_
      try simp only [Ex.thnH, Ex.inBlockH, ↓reduceIte, Nat.reduceEqDiff]
      refine hK10 _ _ ?_; try clear hK10 K10
      refine CW_ret ?_
      try simp only [Ex.thnH, Ex.inBlockH, ↓reduceIte, Nat.reduceEqDiff]
      subst hkn
      exact ⟨[_], ⟨rfl, trivial⟩, _, Le.refl _, rfl, _, rfl, .inr ⟨rfl, hno⟩⟩

set_option maxRecDepth 100000 in
set_option maxHeartbeats 1000000 in
theorem crash1_ok (H : Hp) (kc bd : Nat) (a : Option Addr) (cap : Nat) (l : List Kp) (dev : Int) (n : Int) (hkc : H kc = some (.cells #[.slice a l.length cap] 69)) (hbd : H bd = some (.cells #[.int .i64 dev] 3)) (hv : Holds H 3 (.slice a l.length cap) l.length (kps l)) (hl : l.length ≤ 1000) :
  CallH Try.prog 62 #[.int .i64 n, .pointer (some ⟨kc, 0, none⟩), .pointer (some ⟨bd, 0, none⟩)] H (fun v H' => v = .tuple #[.int .i64 ((keepOf l dev n).getD 0), .bool (keepOf l dev n).isSome] ∧ H' = H) := by
  refine CallH_enter (l := [_, _, _]) (rl := [.tmp 4, .tmp 5]) (n := 17) Try.func62 rfl rfl rfl rfl rfl ?_
  simp only [envOf, Nat.reduceAdd]
  refine CW_seq (fun K1 hK1 => ?_)
  refine CW_region ?_
  refine OW_opS (fun K hK r => ?_)
  simp only [x_box, Value.cells, eX, ↓reduceIte, Nat.reduceEqDiff, Int.reduceToNat]
  intro b3 hb3
  try have n3_kc : kc ≠ b3 := ne_of_none hbA hb3
  try have n3_bd : bd ≠ b3 := ne_of_none hbA hb3
  have f3_H : H b3 = none := none_of_le lhA hb3
  try simp only [eX, ↓reduceIte, Nat.reduceEqDiff, Int.reduceToNat]
  refine hK _ _ ?_; clear hK K
  refine OW_as rfl ?_
  refine OW_as rfl ?_
  refine OW_nil ?_
  try simp only [Ex.thnH, Ex.inBlockH, ↓reduceIte, Nat.reduceEqDiff]
  refine hK1 _ _ ?_; try clear hK1 K1
  refine CW_seq (fun K2 hK2 => ?_)
  refine CW_region ?_
  refine OW_opS (fun K hK r => ?_)
  simp only [x_load, eX, ↓reduceIte, Nat.reduceEqDiff, Int.reduceToNat]
  refine Lt_loadAt1 Try.underlying69 rfl hbA ldA ?_
  try simp only [eX, ↓reduceIte, Nat.reduceEqDiff, Int.reduceToNat]
  refine hK _ _ ?_; clear hK K
  refine OW_opS (fun K hK r => ?_)
  simp only [x_makeFunc, List.map_toArray, List.map_cons, List.map_nil, eX, ↓reduceIte, Nat.reduceEqDiff, Int.reduceToNat]
  refine hK _ _ ?_; clear hK K
  refine OW_opS (fun K hK r => ?_)
  simp only [x_callF _ bd63, List.map_toArray, List.map_cons, List.map_nil, eX, ↓reduceIte, Nat.reduceEqDiff, Int.reduceToNat]
  refine (index_ok _ a cap l (hv.le lhA) _ _ _ (fun k => decide (k.dev = dev) && decide (k.n = n)) (fun k => ValH_func bd64 (crash11_ok _ bd b3 dev n k hbA hbA)) hl).mono ?_
  rintro v9 H' ⟨hq, ix, rfl, hix⟩
  have hq := hq.symm
  subst hq
  try simp only [eX, ↓reduceIte, Nat.reduceEqDiff, Int.reduceToNat]
  refine hK _ _ ?_; clear hK K
  refine OW_as rfl ?_
  refine OW_nil ?_
  try simp only [Ex.thnH, Ex.inBlockH, ↓reduceIte, Nat.reduceEqDiff]
  refine hK2 _ _ ?_; try clear hK2 K2
  refine CW_seq (fun K3 hK3 => ?_)
  refine CW_seq (fun K4 hK4 => ?_)
  refine CW_region ?_
  refine OW_mv rfl ?_
  refine OW_opS (fun K hK r => ?_)
  simp (disch := (first | omega | decide)) only [x_bin, g_int, b_lss, dec_lt_t, dec_lt_f, dec_le_t, dec_le_f, dec_eq_t, dec_eq_f, Bool.not_true, Bool.not_false, eX, ↓reduceIte, Nat.reduceEqDiff, Int.reduceToNat]
  refine hK _ _ ?_; clear hK K
  refine OW_nil ?_
  try simp only [Ex.thnH, Ex.inBlockH, ↓reduceIte, Nat.reduceEqDiff]
  refine hK4 _ _ ?_; try clear hK4 K4
  refine CW_cond (fun r => rfl) (fun c11 => ?_) (fun c11 => ?_)
  · first
    | (exfalso; exact cnA c11; done)
    | skip
      (try simp only [decide_eq_true_eq, decide_eq_false_iff_not, Bool.not_eq_true, Bool.not_eq_false, Bool.and_eq_true, Bool.or_eq_true, Bool.or_eq_false_iff, Bool.not_eq_true, Bool.not_eq_eq_eq_not, Bool.not_true, Bool.not_false] at c11)
      have hko : keepOf l dev n = none := by
        rcases hix with ⟨k, hk, rfl, hy, hno⟩ | ⟨rfl, hno⟩
        · omega
        · unfold keepOf; rw [find_no _ _ hno]; rfl
      refine CW_seq (fun K5 hK5 => ?_)
      refine CW_region ?_
      refine OW_as rfl ?_
      refine OW_as rfl ?_
      refine OW_nil ?_
      try simp only [Ex.thnH, Ex.inBlockH, ↓reduceIte, Nat.reduceEqDiff]
      refine hK5 _ _ ?_; try clear hK5 K5
      refine CW_ret ?_
      try simp only [Ex.thnH, Ex.inBlockH, ↓reduceIte, Nat.reduceEqDiff]
      rw [hko]
      exact ⟨[_, _], ⟨rfl, rfl, trivial⟩, H, lhA, rfl, rfl⟩
  · first
    | (exfalso; exact cnA c11; done)
    | skip
      (try simp only [decide_eq_true_eq, decide_eq_false_iff_not, Bool.not_eq_true, Bool.not_eq_false, Bool.and_eq_true, Bool.or_eq_true, Bool.or_eq_false_iff, Bool.not_eq_true, Bool.not_eq_eq_eq_not, Bool.not_true, Bool.not_false] at c11)
      obtain ⟨k, hk, rfl, hy, hno⟩ : ∃ k : Nat, k < l.length ∧ ix = (k : Int) ∧ (fun k : Kp => decide (k.dev = dev) && decide (k.n = n)) (l.getD k default) = true ∧ ∀ j, j < k → (fun k : Kp => decide (k.dev = dev) && decide (k.n = n)) (l.getD j default) = false := by
        rcases hix with h | ⟨rfl, _⟩
        · exact h
        · omega
      have hko : keepOf l dev n = some (l.getD k default).tear := by unfold keepOf; rw [find_at _ _ k hk hy hno]; rfl
      obtain ⟨bw, ow, cw, Tw, Fw, ew, hbw, hsw, atw⟩ := hv.at (by omega)
      refine CW_skip ?_
      try simp only [Ex.thnH, Ex.inBlockH, ↓reduceIte, Nat.reduceEqDiff]
      refine hK3 _ _ ?_; try clear hK3 K3
      refine CW_seq (fun K6 hK6 => ?_)
      refine CW_region ?_
      refine OW_opS (fun K hK r => ?_)
      simp only [x_load, eX, ↓reduceIte, Nat.reduceEqDiff, Int.reduceToNat]
      refine Lt_loadAt1 Try.underlying69 rfl hbA ldA ?_
      try simp only [eX, ↓reduceIte, Nat.reduceEqDiff, Int.reduceToNat]
      refine hK _ _ ?_; clear hK K
      refine OW_mv rfl ?_
      refine OW_opS (fun K hK r => ?_)
      simp only [x_indexAddr, eX, ↓reduceIte, Nat.reduceEqDiff, Int.reduceToNat]
      refine Lt_indexSof Try.underlying69 sz140 ew ixA ixA ?_
      try simp only [Int.toNat_natCast]
      refine hK _ _ ?_; clear hK K
      refine OW_opS (fun K hK r => ?_)
      simp only [x_fieldAddr, fa140_2, add_mk, Nat.reduceAdd, Nat.zero_add, eX, ↓reduceIte, Nat.reduceEqDiff, Int.reduceToNat]
      refine hK _ _ ?_; clear hK K
      refine OW_opS (fun K hK r => ?_)
      simp only [x_load, eX, ↓reduceIte, Nat.reduceEqDiff, Int.reduceToNat]
      refine Lt_loadAt1 Try.underlying3 rfl ((upd_ne _ _ (ne_of_none hbw f3_H)).trans hbw) (v := .int .i64 (l.getD k default).tear) (by first | exact cell_at Kp.len atw rfl k hk 2 (by decide) | (rw [cell_at Kp.len atw rfl k hk 2 (by decide)]; rfl)) ?_
      refine hK _ _ ?_; clear hK K
      refine OW_as rfl ?_
      refine OW_as rfl ?_
      refine OW_nil ?_
      try simp only [Ex.thnH, Ex.inBlockH, ↓reduceIte, Nat.reduceEqDiff]
      refine hK6 _ _ ?_; try clear hK6 K6
      refine CW_ret ?_
      try simp only [Ex.thnH, Ex.inBlockH, ↓reduceIte, Nat.reduceEqDiff]
      rw [hko]
      exact ⟨[_, _], ⟨rfl, rfl, trivial⟩, H, lhA, rfl, rfl⟩

end Go.Proofs.Ytigofhhonnbkmaa.HL
end
section
namespace Go.Proofs.Ytigofhhonnbkmaa.HL
open Go Go.Proofs
set_option linter.unusedSimpArgs false
set_option linter.unusedVariables false
attribute [local irreducible] Lt Lq CW OW TW CallH

set_option maxRecDepth 100000 in
set_option maxHeartbeats 8000000 in
theorem crash_ok (H : Hp) (p : Nat) (s : St) (rd cap : Nat) (bs : List Nat) (Fs : Nat → Hp) (h : SX H p s rd cap bs Fs) (hl : s.dv.length ≤ 1000) (hw : ∀ i, (s.dv.getD i default).wait.length ≤ 1000000) (G : Hp) (hG : Le G H) (hGp : G p = none) (hGd : ∀ i, i < s.dv.length → ∀ x, Fs i x ≠ none → G x = none) (a : Option Addr) (kcap : Nat) (l : List Kp) (hkv : Holds G 3 (.slice a l.length kcap) l.length (kps l)) (hkl : l.length ≤ 1000) : CallH Try.prog 26 #[(.pointer (some ⟨p, 0, none⟩)), .slice a l.length kcap] H (fun v H' => SetX H' p (s.cr l)) := by
  refine CallH_enter (l := [_, _]) (rl := []) (n := 30) Try.func26 rfl rfl rfl rfl rfl ?_
  simp only [envOf, Nat.reduceAdd]
  refine CW_seq (fun K1 hK1 => ?_)
  refine CW_region ?_
  refine OW_opS (fun K hK r => ?_)
  simp only [x_box, Value.cells, eX, ↓reduceIte, Nat.reduceEqDiff, Int.reduceToNat]
  intro b3 hb3
  have hpb3 : p ≠ b3 := ne_of_none h.hd hb3
  have hG3 : G b3 = none := none_of_le hG hb3
  have h3 := h.mono (le_upd H b3 (.cells #[.slice a l.length kcap] 69) hb3)
  have h3p := h3.hd
  have hF3 : ∀ i, i < s.dv.length → Fs i b3 = none := fun i hi => none_of_le (h.le i hi) hb3
  try simp only [eX, ↓reduceIte, Nat.reduceEqDiff, Int.reduceToNat]
  refine hK _ _ ?_; clear hK K
  refine OW_nil ?_
  try simp only [Ex.thnH, Ex.inBlockH, ↓reduceIte, Nat.reduceEqDiff]
  refine hK1 _ _ ?_; try clear hK1 K1
  refine CW_seq (fun K2 hK2 => ?_)
  refine CW_seq (fun K3 hK3 => ?_)
  refine CW_region ?_
  refine OW_mv rfl ?_
  refine OW_opS (fun K hK r => ?_)
  simp only [x_bin, g_int, g_bool, g_string, g_pointer, g_slice, g_map, g_func, g_nilFunc, g_iface, g_nil_iface, g_nil_r, g_nil_l, eX, ↓reduceIte, Nat.reduceEqDiff, Int.reduceToNat]
  rw [e_eql _ _ _ _ (by simp)]
  rw [q_equal]
  first | rw [q_ptr_nil _ _ _ Try.underlying47] | rw [q_nil_ptr _ _ _ Try.underlying47]
  try simp only [eX, ↓reduceIte, Nat.reduceEqDiff, Int.reduceToNat]
  refine hK _ _ ?_; clear hK K
  refine OW_nil ?_
  try simp only [Ex.thnH, Ex.inBlockH, ↓reduceIte, Nat.reduceEqDiff]
  refine hK3 _ _ ?_; try clear hK3 K3
  refine CW_cond (fun r => rfl) (fun c7 => ?_) (fun c7 => ?_)
  · first
    | (exfalso; exact cnA c7; done)
    | skip
      (try simp only [decide_eq_true_eq, decide_eq_false_iff_not, Bool.not_eq_true, Bool.not_eq_false, Bool.and_eq_true, Bool.or_eq_true, Bool.or_eq_false_iff, Bool.not_eq_true, Bool.not_eq_eq_eq_not, Bool.not_true, Bool.not_false] at c7)
      refine CW_ret ?_
      try simp only [Ex.thnH, Ex.inBlockH, ↓reduceIte, Nat.reduceEqDiff]
      skip
  · first
    | (exfalso; exact cnA c7; done)
    | skip
      (try simp only [decide_eq_true_eq, decide_eq_false_iff_not, Bool.not_eq_true, Bool.not_eq_false, Bool.and_eq_true, Bool.or_eq_true, Bool.or_eq_false_iff, Bool.not_eq_true, Bool.not_eq_eq_eq_not, Bool.not_true, Bool.not_false] at c7)
      refine CW_skip ?_
      try simp only [Ex.thnH, Ex.inBlockH, ↓reduceIte, Nat.reduceEqDiff]
      refine hK2 _ _ ?_; try clear hK2 K2
      refine CW_seq (fun K4 hK4 => ?_)
      refine CW_seq (fun K5 hK5 => ?_)
      refine CW_region ?_
      refine OW_mv rfl ?_
      refine OW_opS (fun K hK r => ?_)
      rw [x_nilCheck _ _ rfl]
      simp only [eX, ↓reduceIte, Nat.reduceEqDiff, Int.reduceToNat]
      refine hK _ _ ?_; clear hK K
      refine OW_opS (fun K hK r => ?_)
      simp only [x_fieldAddr, fa114_1, add_mk, Nat.reduceAdd, Nat.zero_add, eX, ↓reduceIte, Nat.reduceEqDiff, Int.reduceToNat]
      refine hK _ _ ?_; clear hK K
      refine OW_opS (fun K hK r => ?_)
      simp only [x_load, eX, ↓reduceIte, Nat.reduceEqDiff, Int.reduceToNat]
      refine Lt_loadAt1 Try.underlying112 rfl hbA ldA ?_
      try simp only [eX, ↓reduceIte, Nat.reduceEqDiff, Int.reduceToNat]
      refine hK _ _ ?_; clear hK K
      refine OW_opS (fun K hK r => ?_)
      simp only [x_builtin, l_len, List.map_toArray, List.map_cons, List.map_nil, i_len_slice _ _ Try.underlying112, eX, ↓reduceIte, Nat.reduceEqDiff, Int.reduceToNat]
      refine hK _ _ ?_; clear hK K
      refine OW_mv rfl ?_
      refine OW_nil ?_
      try simp only [Ex.thnH, Ex.inBlockH, ↓reduceIte, Nat.reduceEqDiff]
      refine hK5 _ _ ?_; try clear hK5 K5
      refine CW_block ?_
      refine CW_loop (fun m e H_ => ∃ (k : Nat) (Fk : Nat → Hp), k ≤ s.dv.length ∧ m = s.dv.length - k ∧ SX H_ p (s.crK l k) rd cap bs Fk ∧ (∀ i, i < s.dv.length → ∀ x, Fk i x ≠ none → (G.upd b3 (.cells #[.slice a l.length kcap] 69)) x = none) ∧ Le (G.upd b3 (.cells #[.slice a l.length kcap] 69)) H_ ∧ Env.has [(0, (.pointer (some ⟨p, 0, none⟩))), (3, .pointer (some ⟨b3, 0, none⟩)), (11, .slice (some ⟨rd, 0, none⟩) s.dv.length cap), (12, .int .i64 s.dv.length), (13, .int .i64 k)] e) (s.dv.length) ?_ ?_
      · skip
        refine ⟨0, Fs, by omega, by omega, by rw [St.crK_zero]; exact h3, (fun i hi x hx => ?_), ?_, rfl, rfl, rfl, rfl, rfl, trivial⟩
        · rw [upd_ne _ _ (fun e => by subst e; exact hx (hF3 i hi))]; exact hGd i hi x hx
        · exact le_put (Le.trans hG (le_upd _ _ _ hb3)) (upd_same _ _ _)
      intro m_ e_ H_ hI_
      obtain ⟨k, Fk, hk, rfl, hS, hap, hleG, he⟩ := hI_
      refine CW_env he.sub ?_; clear he e_
      have hk3 := hleG b3 _ (upd_same _ _ _)
      refine CW_seq (fun K6 hK6 => ?_)
      refine CW_region ?_
      refine OW_opS (fun K hK r => ?_)
      simp (disch := (first | omega | decide)) only [x_bin, g_int, b_lss, dec_lt_t, dec_lt_f, dec_le_t, dec_le_f, dec_eq_t, dec_eq_f, Bool.not_true, Bool.not_false, eX, ↓reduceIte, Nat.reduceEqDiff, Int.reduceToNat]
      refine hK _ _ ?_; clear hK K
      refine OW_nil ?_
      try simp only [Ex.thnH, Ex.inBlockH, ↓reduceIte, Nat.reduceEqDiff]
      refine hK6 _ _ ?_; try clear hK6 K6
      refine CW_seq (fun K7 hK7 => ?_)
      refine CW_cond (fun r => rfl) (fun c14 => ?_) (fun c14 => ?_)
      · first
        | (exfalso; exact cnA c14; done)
        | skip
          (try simp only [decide_eq_true_eq, decide_eq_false_iff_not, Bool.not_eq_true, Bool.not_eq_false, Bool.and_eq_true, Bool.or_eq_true, Bool.or_eq_false_iff, Bool.not_eq_true, Bool.not_eq_eq_eq_not, Bool.not_true, Bool.not_false] at c14)
          have hks : k < s.dv.length := by omega
          obtain ⟨cc, T, f, hr, hat, hlt⟩ := hS.at (k := k) (by rw [St.crK_len]; exact hks)
          refine CW_skip ?_
          try simp only [Ex.thnH, Ex.inBlockH, ↓reduceIte, Nat.reduceEqDiff]
          refine hK7 _ _ ?_; try clear hK7 K7
          refine CW_seq (fun K8 hK8 => ?_)
          refine CW_block ?_
          refine CW_seq (fun K9 hK9 => ?_)
          refine CW_region ?_
          refine OW_mv rfl ?_
          refine OW_opS (fun K hK r => ?_)
          simp only [x_indexAddr, eX, ↓reduceIte, Nat.reduceEqDiff, Int.reduceToNat]
          refine Lt_indexS Try.underlying112 sz115 ixA ixA ?_
          try simp only [add_mk, Nat.mul_one, Nat.zero_add, Int.reduceToNat]
          try simp only [eX, ↓reduceIte, Nat.reduceEqDiff, Int.reduceToNat]
          refine hK _ _ ?_; clear hK K
          refine OW_opS (fun K hK r => ?_)
          simp only [x_load, eX, ↓reduceIte, Nat.reduceEqDiff, Int.reduceToNat]
          refine Lt_loadAt1 Try.underlying115 rfl hbA hat ?_
          refine hK _ _ ?_; clear hK K
          refine OW_opS (fun K hK r => ?_)
          simp only [x_alloc, zr3, orF_some, Value.cells, eX, ↓reduceIte, Nat.reduceEqDiff, Int.reduceToNat]
          intro b4 hb4
          try have n4_b3 : b3 ≠ b4 := ne_of_none hbA hb4
          try simp only [eX, ↓reduceIte, Nat.reduceEqDiff, Int.reduceToNat]
          refine hK _ _ ?_; clear hK K
          refine OW_op rfl (lt_none) (fun K hK r => ?_)
          simp only [x_store, eX, ↓reduceIte, Nat.reduceEqDiff, Int.reduceToNat]
          refine Lt_storeAt1 sz3 hbA bdA plA fzA ?_
          try simp only [setL0, setL1, setL2, setL3, setL4, setL5, setL6, setL7, setL8, setL9]
          try simp only [eX, ↓reduceIte, Nat.reduceEqDiff, Int.reduceToNat]
          refine hK _ _ ?_; clear hK K
          refine OW_as rfl ?_
          refine OW_nil ?_
          try simp only [Ex.thnH, Ex.inBlockH, ↓reduceIte, Nat.reduceEqDiff]
          refine hK9 _ _ ?_; try clear hK9 K9
          refine CW_region ?_
          refine OW_mv rfl ?_
          refine OW_opS (fun K hK r => ?_)
          simp only [x_makeFunc, List.map_toArray, List.map_cons, List.map_nil, eX, ↓reduceIte, Nat.reduceEqDiff, Int.reduceToNat]
          refine hK _ _ ?_; clear hK K
          refine OW_opS (fun K hK r => ?_)
          simp only [x_callF _ bd61, List.map_toArray, List.map_cons, List.map_nil, eX, ↓reduceIte, Nat.reduceEqDiff, Int.reduceToNat]
          have hdk := hS.dev k (by rw [St.crK_len]; exact hks)
          rw [St.crK_at _ _ _ hks] at hdk
          have hfpk := hS.fp k (by rw [St.crK_len]; exact hks)
          have hlek := hS.le k (by rw [St.crK_len]; exact hks)
          have hFb4 : ∀ x, Fk k x ≠ none → x ≠ b4 := fun x hx e => by subst e; exact hx (none_of_le hlek hb4)
          have hpb4 : p ≠ b4 := ne_of_none hS.hd hb4
          have hGb4 : (G.upd b3 (.cells #[.slice a l.length kcap] 69)) b4 = none := none_of_le hleG hb4
          refine (settle_ok _ _ _ (Fk k) ((G.upd b3 (.cells #[.slice a l.length kcap] 69)).upd b4 (.cells #[.int .i64 (k : Int)] 3)) hdk (Le.trans hlek (le_upd _ _ _ hb4)) (le_put (Le.trans hleG (le_upd _ _ _ hb4)) (upd_same _ _ _)) (fun x hx => (upd_ne _ _ (hFb4 x hx)).trans (hap k hks x hx)) (.func 62) #[] #[.pointer (some ⟨b3, 0, none⟩), .pointer (some ⟨b4, 0, none⟩)] (fun n => keepOf l k n) (fun KK hKK n hn => ValH_func bd62 (crash1_ok KK b3 b4 a kcap l k n (hKK b3 _ ((upd_ne _ _ (ne_of_none (upd_same _ _ _) hGb4)).trans (upd_same _ _ _))) (hKK b4 _ (upd_same _ _ _)) (hkv.le (Le.trans (Le.trans (le_upd _ _ _ hG3) (le_upd _ _ _ hGb4)) hKK)) hkl)) (hw _)).mono ?_
          rintro v20 H20 ⟨F', hdF, hlF, hdom, hkp⟩
          have hkp4 : ∀ x o, H_ x = some o → Fk k x = none → H20 x = some o := fun x o hx hn => hkp x o ((upd_ne _ _ (ne_of_none hx hb4)).trans hx) hn
          obtain ⟨Fk', hS', hFk'⟩ := hS.put2 (t := s.crK l (k + 1)) (i := k) (by rw [St.crK_len]; exact hks) hdF (St.crK_next s l k hks) (by have := hkp4 p _ hS.hd hfpk.1; rw [this]; rfl) hlF (fun z o hz hn hzp => hkp4 z o hz hn) (fun z hz => .inl (hdom z hz))
          have hap' : ∀ i, i < s.dv.length → ∀ x, Fk' i x ≠ none → (G.upd b3 (.cells #[.slice a l.length kcap] 69)) x = none := fun i hi x hx => by
            subst hFk'
            by_cases e : i = k
            · subst e; simp only [if_true] at hx; exact hap i hi x (hdom x hx)
            · simp only [if_neg e] at hx; exact hap i hi x hx
          have hleG' : Le (G.upd b3 (.cells #[.slice a l.length kcap] 69)) H20 := fun z o hz => hkp4 z o (hleG z o hz) (by
            cases hc : Fk k z with
            | none => rfl
            | some u => rw [hap k hks z (by rw [hc]; simp)] at hz; cases hz)
          try simp only [eX, ↓reduceIte, Nat.reduceEqDiff, Int.reduceToNat]
          refine hK _ _ ?_; clear hK K
          refine OW_nil ?_
          try simp only [Ex.thnH, Ex.inBlockH, ↓reduceIte, Nat.reduceEqDiff]
          refine hK8 _ _ ?_; try clear hK8 K8
          refine CW_region ?_
          refine OW_opS (fun K hK r => ?_)
          simp (disch := (first | omega | decide)) only [x_bin, g_int, b_add, wrap_i64, wrap_u64, wrap_u32, wrap_u8, eX, ↓reduceIte, Nat.reduceEqDiff, Int.reduceToNat]
          refine hK _ _ ?_; clear hK K
          refine OW_mv rfl ?_
          refine OW_nil ?_
          try simp only [Ex.thnH, Ex.inBlockH, ↓reduceIte, Nat.reduceEqDiff]
          refine ⟨s.dv.length - (k + 1), by omega, k + 1, Fk', by omega, rfl, hS', hap', hleG', rfl, rfl, rfl, rfl, rfl, trivial⟩
      · first
        | (exfalso; exact cnA c14; done)
        | skip
          (try simp only [decide_eq_true_eq, decide_eq_false_iff_not, Bool.not_eq_true, Bool.not_eq_false, Bool.and_eq_true, Bool.or_eq_true, Bool.or_eq_false_iff, Bool.not_eq_true, Bool.not_eq_eq_eq_not, Bool.not_true, Bool.not_false] at c14)
          have hkn : k = s.dv.length := by omega
          have hSp := hS.hd
          refine CW_exit ?_
          try simp only [Ex.thnH, Ex.inBlockH, ↓reduceIte, Nat.reduceEqDiff]
          refine hK4 _ _ ?_; try clear hK4 K4
          refine CW_region ?_
          refine OW_mv rfl ?_
          refine OW_mv rfl ?_
          refine OW_opS (fun K hK r => ?_)
          rw [x_nilCheck _ _ rfl]
          simp only [eX, ↓reduceIte, Nat.reduceEqDiff, Int.reduceToNat]
          refine hK _ _ ?_; clear hK K
          refine OW_opS (fun K hK r => ?_)
          simp only [x_fieldAddr, fa114_0, add_mk, Nat.reduceAdd, Nat.zero_add, eX, ↓reduceIte, Nat.reduceEqDiff, Int.reduceToNat]
          refine hK _ _ ?_; clear hK K
          refine OW_opS (fun K hK r => ?_)
          simp only [x_fieldAddr, fa111_2, add_mk, Nat.reduceAdd, Nat.zero_add, eX, ↓reduceIte, Nat.reduceEqDiff, Int.reduceToNat]
          refine hK _ _ ?_; clear hK K
          refine OW_op rfl (lt_none) (fun K hK r => ?_)
          simp only [x_store, eX, ↓reduceIte, Nat.reduceEqDiff, Int.reduceToNat]
          refine Lt_storeAt1 sz4 hbA bdA plA fzA ?_
          try simp only [setL0, setL1, setL2, setL3, setL4, setL5, setL6, setL7, setL8, setL9]
          try simp only [eX, ↓reduceIte, Nat.reduceEqDiff, Int.reduceToNat]
          refine hK _ _ ?_; clear hK K
          refine OW_opS (fun K hK r => ?_)
          rw [x_nilCheck _ _ rfl]
          simp only [eX, ↓reduceIte, Nat.reduceEqDiff, Int.reduceToNat]
          refine hK _ _ ?_; clear hK K
          refine OW_opS (fun K hK r => ?_)
          simp only [x_fieldAddr, fa114_0, add_mk, Nat.reduceAdd, Nat.zero_add, eX, ↓reduceIte, Nat.reduceEqDiff, Int.reduceToNat]
          refine hK _ _ ?_; clear hK K
          refine OW_opS (fun K hK r => ?_)
          simp only [x_fieldAddr, fa111_3, add_mk, Nat.reduceAdd, Nat.zero_add, eX, ↓reduceIte, Nat.reduceEqDiff, Int.reduceToNat]
          refine hK _ _ ?_; clear hK K
          refine OW_op rfl (lt_none) (fun K hK r => ?_)
          simp only [x_store, eX, ↓reduceIte, Nat.reduceEqDiff, Int.reduceToNat]
          refine Lt_storeAt1 sz4 hbA bdA plA fzA ?_
          try simp only [setL0, setL1, setL2, setL3, setL4, setL5, setL6, setL7, setL8, setL9]
          try simp only [eX, ↓reduceIte, Nat.reduceEqDiff, Int.reduceToNat]
          refine hK _ _ ?_; clear hK K
          refine OW_nil ?_
          try simp only [Ex.thnH, Ex.inBlockH, ↓reduceIte, Nat.reduceEqDiff]
          have hcr : (s.cr l).dv = (s.crK l k).dv := by rw [hkn, St.crK_all]
          have hln : (s.crK l k).dv.length = s.dv.length := St.crK_len _ _ _
          refine ⟨[], trivial, _, Le.refl _, rd, cap, bs, Fk, hS.head hcr (by rw [hln]; exact upd_same _ _ _) (fun z o hz hzp => (upd_ne _ _ hzp).trans hz)⟩

end Go.Proofs.Ytigofhhonnbkmaa.HL
end
section
namespace Go.Proofs.Ytigofhhonnbkmaa.HL
open Go Go.Proofs
set_option linter.unusedSimpArgs false
set_option linter.unusedVariables false
attribute [local irreducible] Lt Lq CW OW TW CallH

set_option maxRecDepth 100000 in
set_option maxHeartbeats 1000000 in
theorem down_ok (H : Hp) (p : Nat) (s : St) (rd cap : Nat) (bs : List Nat) (Fs : Nat → Hp) (h : SX H p s rd cap bs Fs) : CallH Try.prog 32 #[(.pointer (some ⟨p, 0, none⟩))] H (fun v H' => v = .bool s.gone ∧ H' = H) := by
  refine CallH_enter (l := [_]) (rl := [.tmp 2]) (n := 12) Try.func32 rfl rfl rfl rfl rfl ?_
  simp only [envOf, Nat.reduceAdd]
  have hhd := h.hd
  refine CW_seq (fun K1 hK1 => ?_)
  refine CW_region ?_
  refine OW_as rfl ?_
  refine OW_nil ?_
  try simp only [Ex.thnH, Ex.inBlockH, ↓reduceIte, Nat.reduceEqDiff]
  refine hK1 _ _ ?_; try clear hK1 K1
  refine CW_seq (fun K2 hK2 => ?_)
  refine CW_region ?_
  refine OW_mv rfl ?_
  refine OW_opS (fun K hK r => ?_)
  simp only [x_bin, g_int, g_bool, g_string, g_pointer, g_slice, g_map, g_func, g_nilFunc, g_iface, g_nil_iface, g_nil_r, g_nil_l, eX, ↓reduceIte, Nat.reduceEqDiff, Int.reduceToNat]
  rw [e_eql _ _ _ _ (by simp)]
  rw [q_equal]
  first | rw [q_ptr_nil _ _ _ Try.underlying47] | rw [q_nil_ptr _ _ _ Try.underlying47]
  try simp only [eX, ↓reduceIte, Nat.reduceEqDiff, Int.reduceToNat]
  refine hK _ _ ?_; clear hK K
  refine OW_mv rfl ?_
  (first | refine OW_split (d := 5) rfl (fun g5 => ?_) (fun g5 => ?_) | skip)
  all_goals try (exfalso; exact cnA g5)
  all_goals (try simp only [decide_eq_true_eq, decide_eq_false_iff_not, Bool.not_eq_true, Bool.not_eq_false, Bool.and_eq_true, Bool.or_eq_true, Bool.or_eq_false_iff, Bool.not_eq_true, Bool.not_eq_eq_eq_not, Bool.not_true, Bool.not_false] at g5)
  all_goals
    try simp only [eX, ↓reduceIte, Nat.reduceEqDiff, Int.reduceToNat]
    first
    | refine OW_guardT rfl (lt_some (by decide)) rfl (fun K hK r => ?_)
      simp only [x_move, eX, ↓reduceIte, Nat.reduceEqDiff, Int.reduceToNat]
      refine hK _ _ ?_; clear hK K
    | refine OW_guardF rfl (lt_some (by decide)) rfl ?_
      simp only [eX, ↓reduceIte, Nat.reduceEqDiff, Int.reduceToNat]
    first
    | refine OW_guardT rfl (lt_some (by decide)) rfl (fun K hK r => ?_)
      rw [x_nilCheck _ _ rfl]
      simp only [eX, ↓reduceIte, Nat.reduceEqDiff, Int.reduceToNat]
      refine hK _ _ ?_; clear hK K
    | refine OW_guardF rfl (lt_some (by decide)) rfl ?_
      simp only [eX, ↓reduceIte, Nat.reduceEqDiff, Int.reduceToNat]
    first
    | refine OW_guardT rfl (lt_some (by decide)) rfl (fun K hK r => ?_)
      simp only [x_fieldAddr, fa114_0, add_mk, Nat.reduceAdd, Nat.zero_add, eX, ↓reduceIte, Nat.reduceEqDiff, Int.reduceToNat]
      refine hK _ _ ?_; clear hK K
    | refine OW_guardF rfl (lt_some (by decide)) rfl ?_
      simp only [eX, ↓reduceIte, Nat.reduceEqDiff, Int.reduceToNat]
    first
    | refine OW_guardT rfl (lt_some (by decide)) rfl (fun K hK r => ?_)
      simp only [x_fieldAddr, fa111_3, add_mk, Nat.reduceAdd, Nat.zero_add, eX, ↓reduceIte, Nat.reduceEqDiff, Int.reduceToNat]
      refine hK _ _ ?_; clear hK K
    | refine OW_guardF rfl (lt_some (by decide)) rfl ?_
      simp only [eX, ↓reduceIte, Nat.reduceEqDiff, Int.reduceToNat]
    first
    | refine OW_guardT rfl (lt_some (by decide)) rfl (fun K hK r => ?_)
      simp only [x_load, eX, ↓reduceIte, Nat.reduceEqDiff, Int.reduceToNat]
      refine Lt_loadAt1 Try.underlying4 rfl hbA ldA ?_
      try simp only [eX, ↓reduceIte, Nat.reduceEqDiff, Int.reduceToNat]
      refine hK _ _ ?_; clear hK K
    | refine OW_guardF rfl (lt_some (by decide)) rfl ?_
      simp only [eX, ↓reduceIte, Nat.reduceEqDiff, Int.reduceToNat]
    refine OW_opS (fun K hK r => ?_)
    simp only [x_pick, l_asBool, HL.ite_bool, if_true, if_false, Bool.false_eq_true, eX, ↓reduceIte, Nat.reduceEqDiff, Int.reduceToNat]
    refine hK _ _ ?_; clear hK K
    refine OW_as rfl ?_
    refine OW_nil ?_
    try simp only [Ex.thnH, Ex.inBlockH, ↓reduceIte, Nat.reduceEqDiff]
    refine hK2 _ _ ?_; try clear hK2 K2
    refine CW_ret ?_
    try simp only [Ex.thnH, Ex.inBlockH, ↓reduceIte, Nat.reduceEqDiff]
    first | exact ⟨[_], ⟨rfl, trivial⟩, _, Le.refl _, rfl, rfl⟩ | (exfalso; simp_all; done)

set_option maxRecDepth 100000 in
set_option maxHeartbeats 1000000 in
theorem steps_ok (H : Hp) (p : Nat) (s : St) (rd cap : Nat) (bs : List Nat) (Fs : Nat → Hp) (h : SX H p s rd cap bs Fs) : CallH Try.prog 33 #[(.pointer (some ⟨p, 0, none⟩))] H (fun v H' => v = .int .i64 s.steps ∧ H' = H) := by
  refine CallH_enter (l := [_]) (rl := [.tmp 2]) (n := 10) Try.func33 rfl rfl rfl rfl rfl ?_
  simp only [envOf, Nat.reduceAdd]
  have hhd := h.hd
  refine CW_seq (fun K1 hK1 => ?_)
  refine CW_region ?_
  refine OW_as rfl ?_
  refine OW_nil ?_
  try simp only [Ex.thnH, Ex.inBlockH, ↓reduceIte, Nat.reduceEqDiff]
  refine hK1 _ _ ?_; try clear hK1 K1
  refine CW_seq (fun K2 hK2 => ?_)
  refine CW_seq (fun K3 hK3 => ?_)
  refine CW_region ?_
  refine OW_mv rfl ?_
  refine OW_opS (fun K hK r => ?_)
  simp only [x_bin, g_int, g_bool, g_string, g_pointer, g_slice, g_map, g_func, g_nilFunc, g_iface, g_nil_iface, g_nil_r, g_nil_l, eX, ↓reduceIte, Nat.reduceEqDiff, Int.reduceToNat]
  rw [e_eql _ _ _ _ (by simp)]
  rw [q_equal]
  first | rw [q_ptr_nil _ _ _ Try.underlying47] | rw [q_nil_ptr _ _ _ Try.underlying47]
  try simp only [eX, ↓reduceIte, Nat.reduceEqDiff, Int.reduceToNat]
  refine hK _ _ ?_; clear hK K
  refine OW_nil ?_
  try simp only [Ex.thnH, Ex.inBlockH, ↓reduceIte, Nat.reduceEqDiff]
  refine hK3 _ _ ?_; try clear hK3 K3
  refine CW_cond (fun r => rfl) (fun c4 => ?_) (fun c4 => ?_)
  · first
    | (exfalso; exact cnA c4; done)
    | skip
      (try simp only [decide_eq_true_eq, decide_eq_false_iff_not, Bool.not_eq_true, Bool.not_eq_false, Bool.and_eq_true, Bool.or_eq_true, Bool.or_eq_false_iff, Bool.not_eq_true, Bool.not_eq_eq_eq_not, Bool.not_true, Bool.not_false] at c4)
      refine CW_seq (fun K4 hK4 => ?_)
      refine CW_region ?_
      refine OW_as rfl ?_
      refine OW_nil ?_
      try simp only [Ex.thnH, Ex.inBlockH, ↓reduceIte, Nat.reduceEqDiff]
      refine hK4 _ _ ?_; try clear hK4 K4
      refine CW_ret ?_
      try simp only [Ex.thnH, Ex.inBlockH, ↓reduceIte, Nat.reduceEqDiff]
      skip
  · first
    | (exfalso; exact cnA c4; done)
    | skip
      (try simp only [decide_eq_true_eq, decide_eq_false_iff_not, Bool.not_eq_true, Bool.not_eq_false, Bool.and_eq_true, Bool.or_eq_true, Bool.or_eq_false_iff, Bool.not_eq_true, Bool.not_eq_eq_eq_not, Bool.not_true, Bool.not_false] at c4)
      refine CW_skip ?_
      try simp only [Ex.thnH, Ex.inBlockH, ↓reduceIte, Nat.reduceEqDiff]
      refine hK2 _ _ ?_; try clear hK2 K2
      refine CW_seq (fun K5 hK5 => ?_)
      refine CW_region ?_
      refine OW_mv rfl ?_
      refine OW_opS (fun K hK r => ?_)
      rw [x_nilCheck _ _ rfl]
      simp only [eX, ↓reduceIte, Nat.reduceEqDiff, Int.reduceToNat]
      refine hK _ _ ?_; clear hK K
      refine OW_opS (fun K hK r => ?_)
      simp only [x_fieldAddr, fa114_0, add_mk, Nat.reduceAdd, Nat.zero_add, eX, ↓reduceIte, Nat.reduceEqDiff, Int.reduceToNat]
      refine hK _ _ ?_; clear hK K
      refine OW_opS (fun K hK r => ?_)
      simp only [x_fieldAddr, fa111_0, add_mk, Nat.reduceAdd, Nat.zero_add, eX, ↓reduceIte, Nat.reduceEqDiff, Int.reduceToNat]
      refine hK _ _ ?_; clear hK K
      refine OW_opS (fun K hK r => ?_)
      simp only [x_load, eX, ↓reduceIte, Nat.reduceEqDiff, Int.reduceToNat]
      refine Lt_loadAt1 Try.underlying3 rfl hbA ldA ?_
      try simp only [eX, ↓reduceIte, Nat.reduceEqDiff, Int.reduceToNat]
      refine hK _ _ ?_; clear hK K
      refine OW_as rfl ?_
      refine OW_nil ?_
      try simp only [Ex.thnH, Ex.inBlockH, ↓reduceIte, Nat.reduceEqDiff]
      refine hK5 _ _ ?_; try clear hK5 K5
      refine CW_ret ?_
      try simp only [Ex.thnH, Ex.inBlockH, ↓reduceIte, Nat.reduceEqDiff]
      exact ⟨[_], ⟨rfl, trivial⟩, _, Le.refl _, rfl, rfl⟩

set_option maxRecDepth 100000 in
set_option maxHeartbeats 1000000 in
theorem arm_ok (H : Hp) (p : Nat) (s : St) (rd cap : Nat) (bs : List Nat) (Fs : Nat → Hp) (h : SX H p s rd cap bs Fs) (n : Int) : CallH Try.prog 29 #[(.pointer (some ⟨p, 0, none⟩)), .int .i64 n] H (fun v H' => v = errV (if n < 0 then some 1 else none) ∧ SetX H' p (if n < 0 then s else { s with armed := true, left := n })) := by
  refine CallH_enter (l := [_, _]) (rl := [.tmp 4]) (n := 22) Try.func29 rfl rfl rfl rfl rfl ?_
  simp only [envOf, Nat.reduceAdd]
  have hhd := h.hd
  refine CW_seq (fun K1 hK1 => ?_)
  refine CW_region ?_
  refine OW_as rfl ?_
  refine OW_nil ?_
  try simp only [Ex.thnH, Ex.inBlockH, ↓reduceIte, Nat.reduceEqDiff]
  refine hK1 _ _ ?_; try clear hK1 K1
  refine CW_seq (fun K2 hK2 => ?_)
  refine CW_block ?_
  refine CW_seq (fun K3 hK3 => ?_)
  refine CW_region ?_
  refine OW_mv rfl ?_
  refine OW_opS (fun K hK r => ?_)
  simp only [x_bin, g_int, g_bool, g_string, g_pointer, g_slice, g_map, g_func, g_nilFunc, g_iface, g_nil_iface, g_nil_r, g_nil_l, eX, ↓reduceIte, Nat.reduceEqDiff, Int.reduceToNat]
  rw [e_eql _ _ _ _ (by simp)]
  rw [q_equal]
  first | rw [q_ptr_nil _ _ _ Try.underlying47] | rw [q_nil_ptr _ _ _ Try.underlying47]
  try simp only [eX, ↓reduceIte, Nat.reduceEqDiff, Int.reduceToNat]
  refine hK _ _ ?_; clear hK K
  refine OW_as rfl ?_
  refine OW_nil ?_
  try simp only [Ex.thnH, Ex.inBlockH, ↓reduceIte, Nat.reduceEqDiff]
  refine hK3 _ _ ?_; try clear hK3 K3
  refine CW_cond (fun r => rfl) (fun c5 => ?_) (fun c5 => ?_)
  · first
    | (exfalso; exact cnA c5; done)
    | skip
      (try simp only [decide_eq_true_eq, decide_eq_false_iff_not, Bool.not_eq_true, Bool.not_eq_false, Bool.and_eq_true, Bool.or_eq_true, Bool.or_eq_false_iff, Bool.not_eq_true, Bool.not_eq_eq_eq_not, Bool.not_true, Bool.not_false] at c5)
      refine CW_seq (fun K4 hK4 => ?_)
      refine CW_region ?_
      refine OW_opS (fun K hK r => ?_)
      simp only [x_makeInterface, i_makeInterface, Try.underlying38, orF_some, eX, ↓reduceIte, Nat.reduceEqDiff, Int.reduceToNat]
      refine hK _ _ ?_; clear hK K
      refine OW_as rfl ?_
      refine OW_nil ?_
      try simp only [Ex.thnH, Ex.inBlockH, ↓reduceIte, Nat.reduceEqDiff]
      refine hK4 _ _ ?_; try clear hK4 K4
      refine CW_ret ?_
      try simp only [Ex.thnH, Ex.inBlockH, ↓reduceIte, Nat.reduceEqDiff]
      skip
  · first
    | (exfalso; exact cnA c5; done)
    | skip
      (try simp only [decide_eq_true_eq, decide_eq_false_iff_not, Bool.not_eq_true, Bool.not_eq_false, Bool.and_eq_true, Bool.or_eq_true, Bool.or_eq_false_iff, Bool.not_eq_true, Bool.not_eq_eq_eq_not, Bool.not_true, Bool.not_false] at c5)
      refine CW_seq (fun K5 hK5 => ?_)
      refine CW_region ?_
      refine OW_mv rfl ?_
      refine OW_opS (fun K hK r => ?_)
      simp (disch := (first | omega | decide)) only [x_bin, g_int, b_lss, dec_lt_t, dec_lt_f, dec_le_t, dec_le_f, dec_eq_t, dec_eq_f, Bool.not_true, Bool.not_false, eX, ↓reduceIte, Nat.reduceEqDiff, Int.reduceToNat]
      refine hK _ _ ?_; clear hK K
      refine OW_as rfl ?_
      refine OW_nil ?_
      try simp only [Ex.thnH, Ex.inBlockH, ↓reduceIte, Nat.reduceEqDiff]
      refine hK5 _ _ ?_; try clear hK5 K5
      refine CW_cond (fun r => rfl) (fun c9 => ?_) (fun c9 => ?_)
      · first
        | (exfalso; exact cnA c9; done)
        | skip
          (try simp only [decide_eq_true_eq, decide_eq_false_iff_not, Bool.not_eq_true, Bool.not_eq_false, Bool.and_eq_true, Bool.or_eq_true, Bool.or_eq_false_iff, Bool.not_eq_true, Bool.not_eq_eq_eq_not, Bool.not_true, Bool.not_false] at c9)
          refine CW_seq (fun K6 hK6 => ?_)
          refine CW_region ?_
          refine OW_opS (fun K hK r => ?_)
          simp only [x_makeInterface, i_makeInterface, Try.underlying38, orF_some, eX, ↓reduceIte, Nat.reduceEqDiff, Int.reduceToNat]
          refine hK _ _ ?_; clear hK K
          refine OW_as rfl ?_
          refine OW_nil ?_
          try simp only [Ex.thnH, Ex.inBlockH, ↓reduceIte, Nat.reduceEqDiff]
          refine hK6 _ _ ?_; try clear hK6 K6
          refine CW_ret ?_
          try simp only [Ex.thnH, Ex.inBlockH, ↓reduceIte, Nat.reduceEqDiff]
          refine ⟨[_], ⟨rfl, trivial⟩, _, Le.refl _, ?_, ?_⟩
          · rw [if_pos (by omega)]; rfl
          · rw [if_pos (by omega)]; exact ⟨rd, cap, bs, Fs, h⟩
      · first
        | (exfalso; exact cnA c9; done)
        | skip
          (try simp only [decide_eq_true_eq, decide_eq_false_iff_not, Bool.not_eq_true, Bool.not_eq_false, Bool.and_eq_true, Bool.or_eq_true, Bool.or_eq_false_iff, Bool.not_eq_true, Bool.not_eq_eq_eq_not, Bool.not_true, Bool.not_false] at c9)
          refine CW_skip ?_
          try simp only [Ex.thnH, Ex.inBlockH, ↓reduceIte, Nat.reduceEqDiff]
          refine hK2 _ _ ?_; try clear hK2 K2
          refine CW_seq (fun K7 hK7 => ?_)
          refine CW_region ?_
          refine OW_mv rfl ?_
          refine OW_mv rfl ?_
          refine OW_mv rfl ?_
          refine OW_opS (fun K hK r => ?_)
          rw [x_nilCheck _ _ rfl]
          simp only [eX, ↓reduceIte, Nat.reduceEqDiff, Int.reduceToNat]
          refine hK _ _ ?_; clear hK K
          refine OW_opS (fun K hK r => ?_)
          simp only [x_fieldAddr, fa114_0, add_mk, Nat.reduceAdd, Nat.zero_add, eX, ↓reduceIte, Nat.reduceEqDiff, Int.reduceToNat]
          refine hK _ _ ?_; clear hK K
          refine OW_opS (fun K hK r => ?_)
          simp only [x_fieldAddr, fa111_2, add_mk, Nat.reduceAdd, Nat.zero_add, eX, ↓reduceIte, Nat.reduceEqDiff, Int.reduceToNat]
          refine hK _ _ ?_; clear hK K
          refine OW_op rfl (lt_none) (fun K hK r => ?_)
          simp only [x_store, eX, ↓reduceIte, Nat.reduceEqDiff, Int.reduceToNat]
          refine Lt_storeAt1 sz4 hbA bdA plA fzA ?_
          try simp only [setL0, setL1, setL2, setL3, setL4, setL5, setL6, setL7, setL8, setL9]
          try simp only [eX, ↓reduceIte, Nat.reduceEqDiff, Int.reduceToNat]
          refine hK _ _ ?_; clear hK K
          refine OW_opS (fun K hK r => ?_)
          rw [x_nilCheck _ _ rfl]
          simp only [eX, ↓reduceIte, Nat.reduceEqDiff, Int.reduceToNat]
          refine hK _ _ ?_; clear hK K
          refine OW_opS (fun K hK r => ?_)
          simp only [x_fieldAddr, fa114_0, add_mk, Nat.reduceAdd, Nat.zero_add, eX, ↓reduceIte, Nat.reduceEqDiff, Int.reduceToNat]
          refine hK _ _ ?_; clear hK K
          refine OW_opS (fun K hK r => ?_)
          simp only [x_fieldAddr, fa111_1, add_mk, Nat.reduceAdd, Nat.zero_add, eX, ↓reduceIte, Nat.reduceEqDiff, Int.reduceToNat]
          refine hK _ _ ?_; clear hK K
          refine OW_op rfl (lt_none) (fun K hK r => ?_)
          simp only [x_store, eX, ↓reduceIte, Nat.reduceEqDiff, Int.reduceToNat]
          refine Lt_storeAt1 sz3 hbA bdA plA fzA ?_
          try simp only [setL0, setL1, setL2, setL3, setL4, setL5, setL6, setL7, setL8, setL9]
          try simp only [eX, ↓reduceIte, Nat.reduceEqDiff, Int.reduceToNat]
          refine hK _ _ ?_; clear hK K
          refine OW_nil ?_
          try simp only [Ex.thnH, Ex.inBlockH, ↓reduceIte, Nat.reduceEqDiff]
          refine hK7 _ _ ?_; try clear hK7 K7
          refine CW_seq (fun K8 hK8 => ?_)
          refine CW_region ?_
          refine OW_as rfl ?_
          refine OW_nil ?_
          try simp only [Ex.thnH, Ex.inBlockH, ↓reduceIte, Nat.reduceEqDiff]
          refine hK8 _ _ ?_; try clear hK8 K8
          refine CW_ret ?_
          try simp only [Ex.thnH, Ex.inBlockH, ↓reduceIte, Nat.reduceEqDiff]
          refine ⟨[_], ⟨rfl, trivial⟩, _, Le.refl _, ?_, ?_⟩
          · rw [if_neg (by omega)]; rfl
          · rw [if_neg (by omega)]; exact ⟨rd, cap, bs, Fs, h.head rfl (upd_same _ _ _) (fun z o hz hzp => (upd_ne _ _ hzp).trans hz)⟩

set_option maxRecDepth 100000 in
set_option maxHeartbeats 1000000 in
theorem size_in (H : Hp) (p : Nat) (s : St) (rd cap : Nat) (bs : List Nat) (Fs : Nat → Hp) (h : SX H p s rd cap bs Fs) (hl : s.dv.length ≤ 1000) (dev : Int) (hin : 0 ≤ dev ∧ dev < s.dv.length) : CallH Try.prog 52 #[(.pointer (some ⟨p, 0, none⟩)), .int .i64 dev] H (fun v H' => v = .int .i64 (s.dv.getD dev.toNat default).size ∧ H' = H) := by
  refine CallH_enter (l := [_, _]) (rl := [.tmp 4]) (n := 15) Try.func52 rfl rfl rfl rfl rfl ?_
  simp only [envOf, Nat.reduceAdd]
  have hk : dev.toNat < s.dv.length := by omega
  obtain ⟨mb, es, c, wv, wrs, hb0, hm0, hms, how, hbm, hwb, hwm⟩ := (h.dev dev.toNat hk).facts
  obtain ⟨wa, wcp, rfl⟩ := how.holds.form
  have kb := h.le dev.toNat hk _ _ hb0
  refine CW_seq (fun K1 hK1 => ?_)
  refine CW_region ?_
  refine OW_as rfl ?_
  refine OW_nil ?_
  try simp only [Ex.thnH, Ex.inBlockH, ↓reduceIte, Nat.reduceEqDiff]
  refine hK1 _ _ ?_; try clear hK1 K1
  refine CW_seq (fun K2 hK2 => ?_)
  refine CW_seq (fun K3 hK3 => ?_)
  refine CW_region ?_
  refine OW_mv rfl ?_
  refine OW_mv rfl ?_
  refine OW_opS (fun K hK r => ?_)
  simp only [x_callF _ bd55, List.map_toArray, List.map_cons, List.map_nil, eX, ↓reduceIte, Nat.reduceEqDiff, Int.reduceToNat]
  refine (device_ok _ p s rd cap bs Fs h dev hl).mono ?_
  rintro v H' ⟨rfl, rfl⟩
  rw [show devV s bs dev = ptrV (bs.getD dev.toNat 0) from if_pos hin]
  simp only [ptrV]
  try simp only [eX, ↓reduceIte, Nat.reduceEqDiff, Int.reduceToNat]
  refine hK _ _ ?_; clear hK K
  refine OW_as rfl ?_
  refine OW_nil ?_
  try simp only [Ex.thnH, Ex.inBlockH, ↓reduceIte, Nat.reduceEqDiff]
  refine hK3 _ _ ?_; try clear hK3 K3
  refine CW_seq (fun K4 hK4 => ?_)
  refine CW_region ?_
  refine OW_mv rfl ?_
  refine OW_opS (fun K hK r => ?_)
  simp only [x_bin, g_int, g_bool, g_string, g_pointer, g_slice, g_map, g_func, g_nilFunc, g_iface, g_nil_iface, g_nil_r, g_nil_l, eX, ↓reduceIte, Nat.reduceEqDiff, Int.reduceToNat]
  rw [e_neq _ _ _ _ (by simp)]
  rw [q_equal]
  first | rw [q_ptr_nil _ _ _ Try.underlying115] | rw [q_nil_ptr _ _ _ Try.underlying115]
  try simp only [eX, ↓reduceIte, Nat.reduceEqDiff, Int.reduceToNat]
  refine hK _ _ ?_; clear hK K
  refine OW_nil ?_
  try simp only [Ex.thnH, Ex.inBlockH, ↓reduceIte, Nat.reduceEqDiff]
  refine hK4 _ _ ?_; try clear hK4 K4
  refine CW_cond (fun r => rfl) (fun c10 => ?_) (fun c10 => ?_)
  · first
    | (exfalso; exact cnA c10; done)
    | skip
      (try simp only [decide_eq_true_eq, decide_eq_false_iff_not, Bool.not_eq_true, Bool.not_eq_false, Bool.and_eq_true, Bool.or_eq_true, Bool.or_eq_false_iff, Bool.not_eq_true, Bool.not_eq_eq_eq_not, Bool.not_true, Bool.not_false] at c10)
      refine CW_seq (fun K5 hK5 => ?_)
      refine CW_region ?_
      refine OW_mv rfl ?_
      refine OW_opS (fun K hK r => ?_)
      rw [x_nilCheck _ _ rfl]
      simp only [eX, ↓reduceIte, Nat.reduceEqDiff, Int.reduceToNat]
      refine hK _ _ ?_; clear hK K
      refine OW_opS (fun K hK r => ?_)
      simp only [x_fieldAddr, fa119_0, add_mk, Nat.reduceAdd, Nat.zero_add, eX, ↓reduceIte, Nat.reduceEqDiff, Int.reduceToNat]
      refine hK _ _ ?_; clear hK K
      refine OW_opS (fun K hK r => ?_)
      simp only [x_load, eX, ↓reduceIte, Nat.reduceEqDiff, Int.reduceToNat]
      refine Lt_loadAt1 Try.underlying3 rfl hbA ldA ?_
      try simp only [eX, ↓reduceIte, Nat.reduceEqDiff, Int.reduceToNat]
      refine hK _ _ ?_; clear hK K
      refine OW_as rfl ?_
      refine OW_nil ?_
      try simp only [Ex.thnH, Ex.inBlockH, ↓reduceIte, Nat.reduceEqDiff]
      refine hK5 _ _ ?_; try clear hK5 K5
      refine CW_ret ?_
      try simp only [Ex.thnH, Ex.inBlockH, ↓reduceIte, Nat.reduceEqDiff]
      exact ⟨[_], ⟨rfl, trivial⟩, _, Le.refl _, rfl, rfl⟩
  · first
    | (exfalso; exact cnA c10; done)
    | skip
      (try simp only [decide_eq_true_eq, decide_eq_false_iff_not, Bool.not_eq_true, Bool.not_eq_false, Bool.and_eq_true, Bool.or_eq_true, Bool.or_eq_false_iff, Bool.not_eq_true, Bool.not_eq_eq_eq_not, Bool.not_true, Bool.not_false] at c10)
      refine CW_skip ?_
      try simp only [Ex.thnH, Ex.inBlockH, ↓reduceIte, Nat.reduceEqDiff]
      refine hK2 _ _ ?_; try clear hK2 K2
      refine CW_seq (fun K6 hK6 => ?_)
      refine CW_region ?_
      refine OW_as rfl ?_
      refine OW_nil ?_
      try simp only [Ex.thnH, Ex.inBlockH, ↓reduceIte, Nat.reduceEqDiff]
      refine hK6 _ _ ?_; try clear hK6 K6
      refine CW_ret ?_
      try simp only [Ex.thnH, Ex.inBlockH, ↓reduceIte, Nat.reduceEqDiff]
      skip

set_option maxRecDepth 100000 in
set_option maxHeartbeats 1000000 in
theorem size_out (H : Hp) (p : Nat) (s : St) (rd cap : Nat) (bs : List Nat) (Fs : Nat → Hp) (h : SX H p s rd cap bs Fs) (hl : s.dv.length ≤ 1000) (dev : Int) (hno : ¬ (0 ≤ dev ∧ dev < s.dv.length)) : CallH Try.prog 52 #[(.pointer (some ⟨p, 0, none⟩)), .int .i64 dev] H (fun v H' => v = .int .i64 0 ∧ H' = H) := by
  refine CallH_enter (l := [_, _]) (rl := [.tmp 4]) (n := 15) Try.func52 rfl rfl rfl rfl rfl ?_
  simp only [envOf, Nat.reduceAdd]
  refine CW_seq (fun K1 hK1 => ?_)
  refine CW_region ?_
  refine OW_as rfl ?_
  refine OW_nil ?_
  try simp only [Ex.thnH, Ex.inBlockH, ↓reduceIte, Nat.reduceEqDiff]
  refine hK1 _ _ ?_; try clear hK1 K1
  refine CW_seq (fun K2 hK2 => ?_)
  refine CW_seq (fun K3 hK3 => ?_)
  refine CW_region ?_
  refine OW_mv rfl ?_
  refine OW_mv rfl ?_
  refine OW_opS (fun K hK r => ?_)
  simp only [x_callF _ bd55, List.map_toArray, List.map_cons, List.map_nil, eX, ↓reduceIte, Nat.reduceEqDiff, Int.reduceToNat]
  refine (device_ok _ p s rd cap bs Fs h dev hl).mono ?_
  rintro v H' ⟨rfl, rfl⟩
  rw [show devV s bs dev = .pointer none from if_neg hno]
  try simp only [eX, ↓reduceIte, Nat.reduceEqDiff, Int.reduceToNat]
  refine hK _ _ ?_; clear hK K
  refine OW_as rfl ?_
  refine OW_nil ?_
  try simp only [Ex.thnH, Ex.inBlockH, ↓reduceIte, Nat.reduceEqDiff]
  refine hK3 _ _ ?_; try clear hK3 K3
  refine CW_seq (fun K4 hK4 => ?_)
  refine CW_region ?_
  refine OW_mv rfl ?_
  refine OW_opS (fun K hK r => ?_)
  simp only [x_bin, g_int, g_bool, g_string, g_pointer, g_slice, g_map, g_func, g_nilFunc, g_iface, g_nil_iface, g_nil_r, g_nil_l, eX, ↓reduceIte, Nat.reduceEqDiff, Int.reduceToNat]
  rw [e_neq _ _ _ _ (by simp)]
  rw [q_equal]
  first | rw [q_ptr_nil _ _ _ Try.underlying115] | rw [q_nil_ptr _ _ _ Try.underlying115]
  try simp only [eX, ↓reduceIte, Nat.reduceEqDiff, Int.reduceToNat]
  refine hK _ _ ?_; clear hK K
  refine OW_nil ?_
  try simp only [Ex.thnH, Ex.inBlockH, ↓reduceIte, Nat.reduceEqDiff]
  refine hK4 _ _ ?_; try clear hK4 K4
  refine CW_cond (fun r => rfl) (fun c10 => ?_) (fun c10 => ?_)
  · first
    | (exfalso; exact cnA c10; done)
    | skip
      (try simp only [decide_eq_true_eq, decide_eq_false_iff_not, Bool.not_eq_true, Bool.not_eq_false, Bool.and_eq_true, Bool.or_eq_true, Bool.or_eq_false_iff, Bool.not_eq_true, Bool.not_eq_eq_eq_not, Bool.not_true, Bool.not_false] at c10)
      refine CW_seq (fun K5 hK5 => ?_)
      refine CW_region ?_
      refine OW_mv rfl ?_
      refine OW_opS (fun K hK r => ?_)
      rw [x_nilCheck _ _ rfl]
      simp only [eX, ↓reduceIte, Nat.reduceEqDiff, Int.reduceToNat]
      refine hK _ _ ?_; clear hK K
      refine OW_opS (fun K hK r => ?_)
      simp only [x_fieldAddr, fa119_0, add_mk, Nat.reduceAdd, Nat.zero_add, eX, ↓reduceIte, Nat.reduceEqDiff, Int.reduceToNat]
      refine hK _ _ ?_; clear hK K
      refine OW_opS (fun K hK r => ?_)
      simp only [x_load, eX, ↓reduceIte, Nat.reduceEqDiff, Int.reduceToNat]
      refine Lt_loadAt1 Try.underlying3 rfl hbA ldA ?_
      try simp only [eX, ↓reduceIte, Nat.reduceEqDiff, Int.reduceToNat]
      refine hK _ _ ?_; clear hK K
      refine OW_as rfl ?_
      refine OW_nil ?_
      try simp only [Ex.thnH, Ex.inBlockH, ↓reduceIte, Nat.reduceEqDiff]
      refine hK5 _ _ ?_; try clear hK5 K5
      refine CW_ret ?_
      try simp only [Ex.thnH, Ex.inBlockH, ↓reduceIte, Nat.reduceEqDiff]
      skip
  · first
    | (exfalso; exact cnA c10; done)
    | skip
      (try simp only [decide_eq_true_eq, decide_eq_false_iff_not, Bool.not_eq_true, Bool.not_eq_false, Bool.and_eq_true, Bool.or_eq_true, Bool.or_eq_false_iff, Bool.not_eq_true, Bool.not_eq_eq_eq_not, Bool.not_true, Bool.not_false] at c10)
      refine CW_skip ?_
      try simp only [Ex.thnH, Ex.inBlockH, ↓reduceIte, Nat.reduceEqDiff]
      refine hK2 _ _ ?_; try clear hK2 K2
      refine CW_seq (fun K6 hK6 => ?_)
      refine CW_region ?_
      refine OW_as rfl ?_
      refine OW_nil ?_
      try simp only [Ex.thnH, Ex.inBlockH, ↓reduceIte, Nat.reduceEqDiff]
      refine hK6 _ _ ?_; try clear hK6 K6
      refine CW_ret ?_
      try simp only [Ex.thnH, Ex.inBlockH, ↓reduceIte, Nat.reduceEqDiff]
      exact ⟨[_], ⟨rfl, trivial⟩, _, Le.refl _, rfl, rfl⟩

end Go.Proofs.Ytigofhhonnbkmaa.HL
end
section
namespace Go.Proofs.Ytigofhhonnbkmaa.HL
open Go Go.Proofs
set_option linter.unusedSimpArgs false
set_option linter.unusedVariables false
attribute [local irreducible] Lt Lq CW OW TW CallH


theorem lastW_none {i : Int} : ∀ {ws : List Wt}, (∀ j, j < ws.length → (ws.getD j default).at_ ≠ i) → lastW ws i = none
  | [], _ => rfl
  | w :: r, h => by
    simp only [lastW]
    rw [lastW_none (ws := r) (fun j hj => by simpa using h (j + 1) (by simp; omega))]
    have : w.at_ ≠ i := by simpa using h 0 (by simp)
    simp [this]
theorem lastW_at {i : Int} : ∀ {ws : List Wt} {k : Nat}, k < ws.length → (ws.getD k default).at_ = i → (∀ j, k < j → j < ws.length → (ws.getD j default).at_ ≠ i) → lastW ws i = some (ws.getD k default).x
  | [], _, h, _, _ => absurd h (by simp)
  | w :: r, 0, _, h1, h2 => by
    simp only [lastW]
    rw [lastW_none (ws := r) (fun j hj => by simpa using h2 (j + 1) (by omega) (by simp; omega))]
    have : w.at_ = i := by simpa using h1
    simp [this]
  | w :: r, k + 1, h, h1, h2 => by
    simp only [lastW]
    rw [lastW_at (ws := r) (k := k) (by simpa using h) (by simpa using h1) (fun j hj hjl => by simpa using h2 (j + 1) (by omega) (by simp; omega))]
    simp
def St.rd (s : St) (dev i : Int) : Sec × Option Int := if s.gone = true then (Sec.zero, some 3) else if s.has dev i = true then ((s.dv.getD dev.toNat default).read i, none) else (Sec.zero, some 1)
def St.su (s : St) (dev i : Int) : Sec := if 0 ≤ dev ∧ dev < s.dv.length then (s.dv.getD dev.toNat default).sure i else Sec.zero
abbrev TBack (ws : List Wt) : Nat → List Value → Hp → Prop := Tpure (fun i => [.int .i64 ((ws.length : Int) - 1 - i), .agg (ws.getD (ws.length - 1 - i) default).c.toArray])

set_option maxRecDepth 100000 in
set_option maxHeartbeats 1000000 in
theorem Backward_ok (H : Hp) (a : Option Addr) (n cap : Nat) : CallH Try.prog 77 #[.slice a n cap] H (fun v' H' => ∃ b1, H b1 = none ∧ v' = .func (.func 80) #[] #[.pointer (some ⟨b1, 0, none⟩)] ∧ H' = H.upd b1 (.cells #[.slice a n cap] 117)) := by
  refine CallH_enter (l := [_]) (rl := [.tmp 2]) (n := 4) Try.func77 rfl rfl rfl rfl rfl ?_
  simp only [envOf, Nat.reduceAdd]
  refine CW_seq (fun K1 hK1 => ?_)
  refine CW_region ?_
  refine OW_opS (fun K hK r => ?_)
  simp only [x_box, Value.cells, eX, ↓reduceIte, Nat.reduceEqDiff, Int.reduceToNat]
  intro b1 hb1
  have f1_H : H b1 = none := none_of_le lhA hb1
  try simp only [eX, ↓reduceIte, Nat.reduceEqDiff, Int.reduceToNat]
  refine hK _ _ ?_; clear hK K
  refine OW_as rfl ?_
  refine OW_nil ?_
  try simp only [Ex.thnH, Ex.inBlockH, ↓reduceIte, Nat.reduceEqDiff]
  refine hK1 _ _ ?_; try clear hK1 K1
  refine CW_seq (fun K2 hK2 => ?_)
  refine CW_region ?_
  refine OW_opS (fun K hK r => ?_)
  simp only [x_makeFunc, List.map_toArray, List.map_cons, List.map_nil, eX, ↓reduceIte, Nat.reduceEqDiff, Int.reduceToNat]
  refine hK _ _ ?_; clear hK K
  refine OW_as rfl ?_
  refine OW_nil ?_
  try simp only [Ex.thnH, Ex.inBlockH, ↓reduceIte, Nat.reduceEqDiff]
  refine hK2 _ _ ?_; try clear hK2 K2
  refine CW_ret ?_
  try simp only [Ex.thnH, Ex.inBlockH, ↓reduceIte, Nat.reduceEqDiff]
  exact ⟨[_], ⟨rfl, trivial⟩, _, Le.refl _, b1, hb1, rfl, rfl⟩

set_option maxRecDepth 100000 in
set_option maxHeartbeats 4000000 in
theorem backward1_ok (H0 : Hp) (b1 : Nat) (a : Option Addr) (cap : Nat) (ws : List Wt) (hv : Holds H0 65 (.slice a ws.length cap) ws.length (wts ws)) (h1 : H0 b1 = some (.cells #[.slice a ws.length cap] 117)) (hl : ws.length ≤ 1000000) (yf : Fn) (ya yb : Array Value) (J : Nat → Hp → Prop) (S : Hp → Prop) (H : Hp) (hle : ∀ i H, J i H → Le H0 H) (hy : ∀ i, i < ws.length → ∀ H, J i H → ∀ args F, TBack ws i args F → H.apart F → ValH Try.prog (.func yf ya yb) args.toArray (H.join F) (fun v H2 => ∃ H3, Le H3 H2 ∧ ((v = .bool true ∧ J (i + 1) H3) ∨ (v = .bool false ∧ S H3)))) (hj : J 0 H) :
  CallH Try.prog 80 #[.func yf ya yb, .pointer (some ⟨b1, 0, none⟩)] H (fun _ H2 => ∃ H3, Le H3 H2 ∧ (J ws.length H3 ∨ S H3)) := by
  refine CallH_enter (l := [_, _]) (rl := []) (n := 19) Try.func80 rfl rfl rfl rfl rfl ?_
  simp only [envOf, Nat.reduceAdd]
  have hk1 := hle 0 H hj _ _ h1
  refine CW_seq (fun K1 hK1 => ?_)
  refine CW_region ?_
  refine OW_opS (fun K hK r => ?_)
  simp only [x_load, eX, ↓reduceIte, Nat.reduceEqDiff, Int.reduceToNat]
  refine Lt_loadAt1 Try.underlying117 rfl hbA ldA ?_
  try simp only [eX, ↓reduceIte, Nat.reduceEqDiff, Int.reduceToNat]
  refine hK _ _ ?_; clear hK K
  refine OW_opS (fun K hK r => ?_)
  simp only [x_builtin, l_len, List.map_toArray, List.map_cons, List.map_nil, i_len_slice _ _ Try.underlying117, eX, ↓reduceIte, Nat.reduceEqDiff, Int.reduceToNat]
  refine hK _ _ ?_; clear hK K
  refine OW_opS (fun K hK r => ?_)
  simp (disch := (first | omega | decide)) only [x_bin, g_int, b_sub, wrap_i64, wrap_u64, wrap_u32, wrap_u8, eX, ↓reduceIte, Nat.reduceEqDiff, Int.reduceToNat]
  refine hK _ _ ?_; clear hK K
  refine OW_as rfl ?_
  refine OW_nil ?_
  try simp only [Ex.thnH, Ex.inBlockH, ↓reduceIte, Nat.reduceEqDiff]
  refine hK1 _ _ ?_; try clear hK1 K1
  refine CW_block ?_
  refine CW_loop (fun m e H_ => ∃ (k : Nat) (HJ : Hp), k ≤ ws.length ∧ m = ws.length - k ∧ J k HJ ∧ Le HJ H_ ∧ Env.has [(0, .func yf ya yb), (1, .pointer (some ⟨b1, 0, none⟩)), (3, .int .i64 ((ws.length : Int) - 1 - k))] e) (ws.length) ?_ ?_
  · skip
    refine ⟨0, H, by omega, by omega, hj, Le.refl _, rfl, rfl, ?_, trivial⟩
    show some (Value.int _ _) = some (Value.int _ _)
    congr 2; omega
  intro m_ e_ H_ hI_
  obtain ⟨k, HJ, hk, rfl, hJ, hlJ, he⟩ := hI_
  have hl0 := Le.trans (hle k HJ hJ) hlJ
  have hk1_ := hl0 _ _ h1
  refine CW_env he.sub ?_; clear he e_
  refine CW_seq (fun K2 hK2 => ?_)
  refine CW_seq (fun K3 hK3 => ?_)
  refine CW_region ?_
  refine OW_mv rfl ?_
  refine OW_opS (fun K hK r => ?_)
  simp (disch := (first | omega | decide)) only [x_bin, g_int, b_geq, dec_lt_t, dec_lt_f, dec_le_t, dec_le_f, dec_eq_t, dec_eq_f, Bool.not_true, Bool.not_false, eX, ↓reduceIte, Nat.reduceEqDiff, Int.reduceToNat]
  refine hK _ _ ?_; clear hK K
  refine OW_nil ?_
  try simp only [Ex.thnH, Ex.inBlockH, ↓reduceIte, Nat.reduceEqDiff]
  refine hK3 _ _ ?_; try clear hK3 K3
  refine CW_cond (fun r => rfl) (fun c8 => ?_) (fun c8 => ?_)
  · first
    | (exfalso; exact cnA c8; done)
    | skip
      (try simp only [decide_eq_true_eq, decide_eq_false_iff_not, Bool.not_eq_true, Bool.not_eq_false, Bool.and_eq_true, Bool.or_eq_true, Bool.or_eq_false_iff, Bool.not_eq_true, Bool.not_eq_eq_eq_not, Bool.not_true, Bool.not_false] at c8)
      have hkN : k < ws.length := by omega
      obtain ⟨bw, ow, cw, Tw, Fw, ew, hbw, hsw, atw⟩ := (hv.le hl0).at (by omega)
      refine CW_skip ?_
      try simp only [Ex.thnH, Ex.inBlockH, ↓reduceIte, Nat.reduceEqDiff]
      refine hK2 _ _ ?_; try clear hK2 K2
      refine CW_seq (fun K4 hK4 => ?_)
      refine CW_block ?_
      refine CW_seq (fun K5 hK5 => ?_)
      refine CW_region ?_
      refine OW_mv rfl ?_
      refine OW_mv rfl ?_
      refine OW_opS (fun K hK r => ?_)
      simp only [x_load, eX, ↓reduceIte, Nat.reduceEqDiff, Int.reduceToNat]
      refine Lt_loadAt1 Try.underlying117 rfl hbA ldA ?_
      try simp only [eX, ↓reduceIte, Nat.reduceEqDiff, Int.reduceToNat]
      refine hK _ _ ?_; clear hK K
      refine OW_mv rfl ?_
      refine OW_opS (fun K hK r => ?_)
      simp only [x_indexAddr, eX, ↓reduceIte, Nat.reduceEqDiff, Int.reduceToNat]
      refine Lt_indexSof Try.underlying117 sz130 ew ixA ixA ?_
      rw [show ((ws.length : Int) - 1 - k).toNat = ws.length - 1 - k from by omega]
      refine hK _ _ ?_; clear hK K
      refine OW_opS (fun K hK r => ?_)
      simp only [x_load, eX, ↓reduceIte, Nat.reduceEqDiff, Int.reduceToNat]
      refine Lt_loadAtA Try.underlying130 rfl sz130 hbw (by have := Nat.mul_le_mul_right 65 (show ws.length - 1 - k + 1 ≤ ws.length by omega); omega) ?_
      rw [ext_at Wt.len atw rfl (ws.length - 1 - k) (by omega) hsw]
      refine hK _ _ ?_; clear hK K
      refine OW_opS (fun K hK r => ?_)
      simp only [x_call, List.map_toArray, List.map_cons, List.map_nil, eX, ↓reduceIte, Nat.reduceEqDiff, Int.reduceToNat]
      show ValH _ _ _ _ _
      refine (Iter.yield0 (hy k hkN HJ hJ _ emptyHp ⟨rfl, rfl⟩ (apart_empty _)) hlJ).mono ?_
      rintro v17 H17 ⟨t, H3, rfl, hl3, hyes, hno, _⟩
      try simp only [eX, ↓reduceIte, Nat.reduceEqDiff, Int.reduceToNat]
      refine hK _ _ ?_; clear hK K
      refine OW_opS (fun K hK r => ?_)
      simp only [x_un, u_not, eX, ↓reduceIte, Nat.reduceEqDiff, Int.reduceToNat]
      refine hK _ _ ?_; clear hK K
      refine OW_nil ?_
      try simp only [Ex.thnH, Ex.inBlockH, ↓reduceIte, Nat.reduceEqDiff]
      refine hK5 _ _ ?_; try clear hK5 K5
      refine CW_cond (fun r => rfl) (fun c18 => ?_) (fun c18 => ?_)
      · first
        | (exfalso; exact cnA c18; done)
        | skip
          have q18 := c18
          refine CW_ret ?_
          try simp only [Ex.thnH, Ex.inBlockH, ↓reduceIte, Nat.reduceEqDiff]
          exact ⟨[], trivial, _, Le.refl _, H3, hl3, .inr (hno (by simpa using q18))⟩
      · first
        | (exfalso; exact cnA c18; done)
        | skip
          have ht : t = true := by simpa using c18
          have hJ3 := hyes ht
          refine CW_skip ?_
          try simp only [Ex.thnH, Ex.inBlockH, ↓reduceIte, Nat.reduceEqDiff]
          refine hK4 _ _ ?_; try clear hK4 K4
          refine CW_region ?_
          refine OW_mv rfl ?_
          refine OW_opS (fun K hK r => ?_)
          simp (disch := (first | omega | decide)) only [x_bin, g_int, b_sub, wrap_i64, wrap_u64, wrap_u32, wrap_u8, eX, ↓reduceIte, Nat.reduceEqDiff, Int.reduceToNat]
          refine hK _ _ ?_; clear hK K
          refine OW_as rfl ?_
          refine OW_nil ?_
          try simp only [Ex.thnH, Ex.inBlockH, ↓reduceIte, Nat.reduceEqDiff]
          refine ⟨ws.length - (k + 1), by omega, k + 1, H3, by omega, rfl, hJ3, hl3, rfl, rfl, ?_, trivial⟩
          show some (Value.int _ _) = some (Value.int _ _)
          congr 2; omega
  · first
    | (exfalso; exact cnA c8; done)
    | skip
      (try simp only [decide_eq_true_eq, decide_eq_false_iff_not, Bool.not_eq_true, Bool.not_eq_false, Bool.and_eq_true, Bool.or_eq_true, Bool.or_eq_false_iff, Bool.not_eq_true, Bool.not_eq_eq_eq_not, Bool.not_true, Bool.not_false] at c8)
      have hkN : k = ws.length := by omega
      refine CW_exit ?_
      try simp only [Ex.thnH, Ex.inBlockH, ↓reduceIte, Nat.reduceEqDiff]
      subst hkN
      exact ⟨[], trivial, _, Le.refl _, HJ, hlJ, .inl hJ⟩


theorem iter_back (H0 : Hp) (b1 : Nat) (a : Option Addr) (cap : Nat) (ws : List Wt) (hv : Holds H0 65 (.slice a ws.length cap) ws.length (wts ws)) (h1 : H0 b1 = some (.cells #[.slice a ws.length cap] 117)) (hl : ws.length ≤ 1000000) : Iter Try.prog (.func (.func 80) #[] #[.pointer (some ⟨b1, 0, none⟩)]) H0 ws.length (TBack ws) :=
  fun yf ya yb J S H hle hy hj => ValH_func bd80 (backward1_ok H0 b1 a cap ws hv h1 hl yf ya yb J S H hle hy hj)

set_option maxRecDepth 100000 in
set_option maxHeartbeats 8000000 in
theorem read_ok (H : Hp) (p : Nat) (s : St) (rd cap : Nat) (bs : List Nat) (Fs : Nat → Hp) (h : SX H p s rd cap bs Fs) (hl : s.dv.length ≤ 1000) (hw : ∀ i, (s.dv.getD i default).wait.length ≤ 1000000) (dev i : Int) : CallH Try.prog 65 #[(.pointer (some ⟨p, 0, none⟩)), .int .i64 dev, .int .i64 i] H (fun v H' => v = .tuple #[(s.rd dev i).1.v, errV (s.rd dev i).2] ∧ H' = H) := by
  refine CallH_enter (l := [_, _, _]) (rl := [.cell 6 30, .cell 7 32]) (n := 45) Try.func65 rfl rfl rfl rfl rfl ?_
  simp only [envOf, Nat.reduceAdd]
  refine CW_seq (fun K1 hK1 => ?_)
  refine CW_region ?_
  refine OW_opS (fun K hK r => ?_)
  simp only [x_box, Value.cells, eX, ↓reduceIte, Nat.reduceEqDiff, Int.reduceToNat]
  intro b5 hb5
  have f5_H : H b5 = none := none_of_le lhA hb5
  try simp only [eX, ↓reduceIte, Nat.reduceEqDiff, Int.reduceToNat]
  refine hK _ _ ?_; clear hK K
  refine OW_opS (fun K hK r => ?_)
  simp only [x_alloc, zr30, orF_some, Value.cells, eX, ↓reduceIte, Nat.reduceEqDiff, Int.reduceToNat]
  intro b6 hb6
  try have n6_b5 : b5 ≠ b6 := ne_of_none hbA hb6
  have f6_H : H b6 = none := none_of_le lhA hb6
  try simp only [eX, ↓reduceIte, Nat.reduceEqDiff, Int.reduceToNat]
  refine hK _ _ ?_; clear hK K
  refine OW_opS (fun K hK r => ?_)
  simp only [x_alloc, zr32, orF_some, Value.cells, eX, ↓reduceIte, Nat.reduceEqDiff, Int.reduceToNat]
  intro b7 hb7
  try have n7_b5 : b5 ≠ b7 := ne_of_none hbA hb7
  try have n7_b6 : b6 ≠ b7 := ne_of_none hbA hb7
  have f7_H : H b7 = none := none_of_le lhA hb7
  try simp only [eX, ↓reduceIte, Nat.reduceEqDiff, Int.reduceToNat]
  refine hK _ _ ?_; clear hK K
  refine OW_nil ?_
  try simp only [Ex.thnH, Ex.inBlockH, ↓reduceIte, Nat.reduceEqDiff]
  refine hK1 _ _ ?_; try clear hK1 K1
  refine CW_seq (fun K2 hK2 => ?_)
  refine CW_region ?_
  refine OW_mv rfl ?_
  refine OW_mv rfl ?_
  refine OW_opS (fun K hK r => ?_)
  simp only [x_callF _ bd55, List.map_toArray, List.map_cons, List.map_nil, eX, ↓reduceIte, Nat.reduceEqDiff, Int.reduceToNat]
  refine (device_ok _ p s rd cap bs Fs (h.mono lhA) dev hl).mono ?_
  rintro v H' ⟨rfl, rfl⟩
  try simp only [eX, ↓reduceIte, Nat.reduceEqDiff, Int.reduceToNat]
  refine hK _ _ ?_; clear hK K
  refine OW_as rfl ?_
  refine OW_nil ?_
  try simp only [Ex.thnH, Ex.inBlockH, ↓reduceIte, Nat.reduceEqDiff]
  refine hK2 _ _ ?_; try clear hK2 K2
  refine CW_seq (fun K3 hK3 => ?_)
  refine CW_block ?_
  refine CW_seq (fun K4 hK4 => ?_)
  refine CW_region ?_
  refine OW_mv rfl ?_
  refine OW_opS (fun K hK r => ?_)
  simp only [x_callF _ bd32, List.map_toArray, List.map_cons, List.map_nil, eX, ↓reduceIte, Nat.reduceEqDiff, Int.reduceToNat]
  refine (down_ok _ p s rd cap bs Fs (h.mono lhA)).mono ?_
  rintro v H' ⟨rfl, rfl⟩
  try simp only [eX, ↓reduceIte, Nat.reduceEqDiff, Int.reduceToNat]
  refine hK _ _ ?_; clear hK K
  refine OW_as rfl ?_
  refine OW_nil ?_
  try simp only [Ex.thnH, Ex.inBlockH, ↓reduceIte, Nat.reduceEqDiff]
  refine hK4 _ _ ?_; try clear hK4 K4
  refine CW_cond (fun r => rfl) (fun c14 => ?_) (fun c14 => ?_)
  · first
    | (exfalso; exact cnA c14; done)
    | skip
      have hgo : s.gone = true := c14
      refine CW_seq (fun K5 hK5 => ?_)
      refine CW_region ?_
      refine OW_opS (fun K hK r => ?_)
      simp only [x_build, List.map_toArray, List.map_cons, List.map_nil, eX, ↓reduceIte, Nat.reduceEqDiff, Int.reduceToNat]
      rw [l_buildArr Try.underlying30 sz5 zr30]
      simp only [Value.cells]
      simp only [fill_nil, orF_some, List.setIfInBounds_toArray, List.set_cons_zero, List.set_cons_succ]
      try simp only [eX, ↓reduceIte, Nat.reduceEqDiff, Int.reduceToNat]
      refine hK _ _ ?_; clear hK K
      refine OW_opS (fun K hK r => ?_)
      simp only [x_makeInterface, i_makeInterface, Try.underlying38, orF_some, eX, ↓reduceIte, Nat.reduceEqDiff, Int.reduceToNat]
      refine hK _ _ ?_; clear hK K
      refine OW_op rfl (lt_none) (fun K hK r => ?_)
      simp only [x_store, eX, ↓reduceIte, Nat.reduceEqDiff, Int.reduceToNat]
      first | refine Lt_storeAll sz30 bdA hbA bdA plA (by decide) ?_ | refine Lt_storeAtA sz30 bdA hbA bdA plA (by decide) ?_
      try simp only [eX, ↓reduceIte, Nat.reduceEqDiff, Int.reduceToNat]
      refine hK _ _ ?_; clear hK K
      refine OW_op rfl (lt_none) (fun K hK r => ?_)
      simp only [x_store, eX, ↓reduceIte, Nat.reduceEqDiff, Int.reduceToNat]
      refine Lt_storeAt1 sz32 hbA bdA plA fzA ?_
      try simp only [setL0, setL1, setL2, setL3, setL4, setL5, setL6, setL7, setL8, setL9]
      try simp only [eX, ↓reduceIte, Nat.reduceEqDiff, Int.reduceToNat]
      refine hK _ _ ?_; clear hK K
      refine OW_nil ?_
      try simp only [Ex.thnH, Ex.inBlockH, ↓reduceIte, Nat.reduceEqDiff]
      refine hK5 _ _ ?_; try clear hK5 K5
      refine CW_ret ?_
      try simp only [Ex.thnH, Ex.inBlockH, ↓reduceIte, Nat.reduceEqDiff]
      refine ⟨[_, _], ⟨⟨_, rfl, Lq_loadAll Try.underlying30 rfl sz30 hbA (by simp [Sec.h])⟩, ⟨_, rfl, Lq_load1 Try.underlying32 rfl hbA ldA⟩, trivial⟩, H, lhA, ?_, rfl⟩
      show Value.tuple _ = _
      unfold St.rd; rw [if_pos hgo]; rfl
  · first
    | (exfalso; exact cnA c14; done)
    | skip
      have hgo : s.gone = false := by simpa using c14
      refine CW_seq (fun K6 hK6 => ?_)
      refine CW_region ?_
      refine OW_mv rfl ?_
      refine OW_opS (fun K hK r => ?_)
      simp only [x_load, eX, ↓reduceIte, Nat.reduceEqDiff, Int.reduceToNat]
      refine Lt_loadAt1 Try.underlying3 rfl hbA ldA ?_
      try simp only [eX, ↓reduceIte, Nat.reduceEqDiff, Int.reduceToNat]
      refine hK _ _ ?_; clear hK K
      refine OW_opS (fun K hK r => ?_)
      simp only [x_callF _ bd56, List.map_toArray, List.map_cons, List.map_nil, eX, ↓reduceIte, Nat.reduceEqDiff, Int.reduceToNat]
      refine (has_dev _ p s rd cap bs Fs (h.mono lhA) dev i).mono ?_
      rintro v H' ⟨rfl, rfl⟩
      try simp only [eX, ↓reduceIte, Nat.reduceEqDiff, Int.reduceToNat]
      refine hK _ _ ?_; clear hK K
      refine OW_opS (fun K hK r => ?_)
      simp only [x_un, u_not, eX, ↓reduceIte, Nat.reduceEqDiff, Int.reduceToNat]
      refine hK _ _ ?_; clear hK K
      refine OW_as rfl ?_
      refine OW_nil ?_
      try simp only [Ex.thnH, Ex.inBlockH, ↓reduceIte, Nat.reduceEqDiff]
      refine hK6 _ _ ?_; try clear hK6 K6
      refine CW_cond (fun r => rfl) (fun c19 => ?_) (fun c19 => ?_)
      · first
        | (exfalso; exact cnA c19; done)
        | skip
          (try simp only [decide_eq_true_eq, decide_eq_false_iff_not, Bool.not_eq_true, Bool.not_eq_false, Bool.and_eq_true, Bool.or_eq_true, Bool.or_eq_false_iff, Bool.not_eq_true, Bool.not_eq_eq_eq_not, Bool.not_true, Bool.not_false] at c19)
          have hno : s.has dev i = false := by simpa using c19
          refine CW_seq (fun K7 hK7 => ?_)
          refine CW_region ?_
          refine OW_opS (fun K hK r => ?_)
          simp only [x_build, List.map_toArray, List.map_cons, List.map_nil, eX, ↓reduceIte, Nat.reduceEqDiff, Int.reduceToNat]
          rw [l_buildArr Try.underlying30 sz5 zr30]
          simp only [Value.cells]
          simp only [fill_nil, orF_some, List.setIfInBounds_toArray, List.set_cons_zero, List.set_cons_succ]
          try simp only [eX, ↓reduceIte, Nat.reduceEqDiff, Int.reduceToNat]
          refine hK _ _ ?_; clear hK K
          refine OW_opS (fun K hK r => ?_)
          simp only [x_makeInterface, i_makeInterface, Try.underlying38, orF_some, eX, ↓reduceIte, Nat.reduceEqDiff, Int.reduceToNat]
          refine hK _ _ ?_; clear hK K
          refine OW_op rfl (lt_none) (fun K hK r => ?_)
          simp only [x_store, eX, ↓reduceIte, Nat.reduceEqDiff, Int.reduceToNat]
          first | refine Lt_storeAll sz30 bdA hbA bdA plA (by decide) ?_ | refine Lt_storeAtA sz30 bdA hbA bdA plA (by decide) ?_
          try simp only [eX, ↓reduceIte, Nat.reduceEqDiff, Int.reduceToNat]
          refine hK _ _ ?_; clear hK K
          refine OW_op rfl (lt_none) (fun K hK r => ?_)
          simp only [x_store, eX, ↓reduceIte, Nat.reduceEqDiff, Int.reduceToNat]
          refine Lt_storeAt1 sz32 hbA bdA plA fzA ?_
          try simp only [setL0, setL1, setL2, setL3, setL4, setL5, setL6, setL7, setL8, setL9]
          try simp only [eX, ↓reduceIte, Nat.reduceEqDiff, Int.reduceToNat]
          refine hK _ _ ?_; clear hK K
          refine OW_nil ?_
          try simp only [Ex.thnH, Ex.inBlockH, ↓reduceIte, Nat.reduceEqDiff]
          refine hK7 _ _ ?_; try clear hK7 K7
          refine CW_ret ?_
          try simp only [Ex.thnH, Ex.inBlockH, ↓reduceIte, Nat.reduceEqDiff]
          refine ⟨[_, _], ⟨⟨_, rfl, Lq_loadAll Try.underlying30 rfl sz30 hbA (by simp [Sec.h])⟩, ⟨_, rfl, Lq_load1 Try.underlying32 rfl hbA ldA⟩, trivial⟩, H, lhA, ?_, rfl⟩
          show Value.tuple _ = _
          unfold St.rd; rw [if_neg (by rw [hgo]; simp), if_neg (by rw [hno]; simp)]; rfl
      · first
        | (exfalso; exact cnA c19; done)
        | skip
          (try simp only [decide_eq_true_eq, decide_eq_false_iff_not, Bool.not_eq_true, Bool.not_eq_false, Bool.and_eq_true, Bool.or_eq_true, Bool.or_eq_false_iff, Bool.not_eq_true, Bool.not_eq_eq_eq_not, Bool.not_true, Bool.not_false] at c19)
          have hyes : s.has dev i = true := by simpa using c19
          have hin : 0 ≤ dev ∧ dev < s.dv.length := by unfold St.has at hyes; simp at hyes; omega
          have hk : dev.toNat < s.dv.length := by omega
          have hdv : devV s bs dev = ptrV (bs.getD dev.toNat 0) := by unfold devV; rw [if_pos hin]
          simp only [hdv]
          have hwl := hw dev.toNat
          obtain ⟨b, hbd⟩ : ∃ b, b = bs.getD dev.toNat 0 := ⟨_, rfl⟩
          obtain ⟨d, hd0⟩ : ∃ d, d = s.dv.getD dev.toNat default := ⟨_, rfl⟩
          have hrd : s.rd dev i = (d.read i, none) := by unfold St.rd; rw [if_neg (by rw [hgo]; simp), if_pos hyes, hd0]
          rw [← hd0] at hwl
          simp only [← hbd]
          obtain ⟨mb, es, c, wv, wrs, hb0, hm0, hms, how, hbm, hwb, hwm⟩ := (hd0 ▸ hbd ▸ h.dev dev.toNat hk : DvX (Fs dev.toNat) b d).facts
          obtain ⟨wa, wcp, rfl⟩ := how.holds.form
          have hleF := h.le dev.toNat hk
          have kb := hleF _ _ hb0
          have km := hleF _ _ hm0
          have nb5 : b ≠ b5 := ne_of_none kb f5_H
          have nb6 : b ≠ b6 := ne_of_none kb f6_H
          have nb7 : b ≠ b7 := ne_of_none kb f7_H
          simp only [ptrV]
          refine CW_skip ?_
          try simp only [Ex.thnH, Ex.inBlockH, ↓reduceIte, Nat.reduceEqDiff]
          refine hK3 _ _ ?_; try clear hK3 K3
          refine CW_seq (fun K8 hK8 => ?_)
          refine CW_seq (fun K9 hK9 => ?_)
          refine CW_region ?_
          refine OW_mv rfl ?_
          refine OW_opS (fun K hK r => ?_)
          rw [x_nilCheck _ _ rfl]
          simp only [eX, ↓reduceIte, Nat.reduceEqDiff, Int.reduceToNat]
          refine hK _ _ ?_; clear hK K
          refine OW_opS (fun K hK r => ?_)
          simp only [x_fieldAddr, fa119_2, add_mk, Nat.reduceAdd, Nat.zero_add, eX, ↓reduceIte, Nat.reduceEqDiff, Int.reduceToNat]
          refine hK _ _ ?_; clear hK K
          refine OW_opS (fun K hK r => ?_)
          simp only [x_load, eX, ↓reduceIte, Nat.reduceEqDiff, Int.reduceToNat]
          refine Lt_loadAt1 Try.underlying117 rfl hbA ldA ?_
          try simp only [eX, ↓reduceIte, Nat.reduceEqDiff, Int.reduceToNat]
          refine hK _ _ ?_; clear hK K
          refine OW_opS (fun K hK r => ?_)
          simp only [x_callF _ bd77, List.map_toArray, List.map_cons, List.map_nil, eX, ↓reduceIte, Nat.reduceEqDiff, Int.reduceToNat]
          refine (Backward_ok _ wa d.wait.length wcp).mono ?_
          rintro v30 H30 ⟨b30, hb30, rfl, hH30⟩
          have f30 : H b30 = none := none_of_le lhA hb30
          have l30 : Le H H30 := by rw [hH30]; exact le_upd_of lhA f30
          have k30 : H30 b30 = some (.cells #[.slice wa d.wait.length wcp] 117) := by rw [hH30]; exact upd_same _ _ _
          have k5 : H30 b5 = some (.cells #[.int .i64 i] 3) := by rw [hH30]; exact (upd_ne _ _ (ne_of_none hbA hb30)).trans hbA
          have k6 : H30 b6 = some (.cells (Array.replicate 64 (.int .u8 0)) 30) := by rw [hH30]; exact (upd_ne _ _ (ne_of_none hbA hb30)).trans hbA
          have k7 : H30 b7 = some (.cells #[.nilIface] 32) := by rw [hH30]; exact (upd_ne _ _ (ne_of_none hbA hb30)).trans hbA
          try simp only [eX, ↓reduceIte, Nat.reduceEqDiff, Int.reduceToNat]
          refine hK _ _ ?_; clear hK K
          refine OW_nil ?_
          try simp only [Ex.thnH, Ex.inBlockH, ↓reduceIte, Nat.reduceEqDiff]
          refine hK9 _ _ ?_; try clear hK9 K9
          refine CW_block ?_
          refine CW_rangeFunc (fun r => rfl) (iter_back H30 b30 wa wcp d.wait (how.holds.le (Le.trans hleF l30)) k30 hwl) (fun j H_ => Le H30 H_ ∧ ∀ t, t < j → (d.wait.getD (d.wait.length - 1 - t) default).at_ ≠ i) ?_ ?_ (by decide) ?_ ?_
          · skip
            exact fun j H_ hj => hj.1
          · skip
            exact ⟨Le.refl _, fun t ht => absurd ht (by omega)⟩
          · intro l_ i_ hi_ H_ hI_ args_ F_ hT_ hF_
            obtain ⟨hl_, hno_⟩ := hI_
            obtain ⟨rfl, rfl⟩ := hT_
            rw [join_empty]
            have hlH := Le.trans l30 hl_
            have q5 := hl_ _ _ k5
            have q6 := hl_ _ _ k6
            have q7 := hl_ _ _ k7
            refine ⟨rfl, ?_⟩
            simp only [putAll, List.zip_cons_cons, List.zip_nil_right, List.zip_nil_left, eX, ↓reduceIte, Nat.reduceEqDiff, Int.reduceToNat]
            refine CW_region ?_
            refine OW_opS (fun K hK r => ?_)
            simp only [x_alloc, zr130, orF_some, Value.cells, eX, ↓reduceIte, Nat.reduceEqDiff, Int.reduceToNat]
            intro b10 hb10
            try have n10_b5 : b5 ≠ b10 := ne_of_none hbA hb10
            try have n10_b6 : b6 ≠ b10 := ne_of_none hbA hb10
            try have n10_b7 : b7 ≠ b10 := ne_of_none hbA hb10
            have f10_H : H b10 = none := none_of_le lhA hb10
            try simp only [eX, ↓reduceIte, Nat.reduceEqDiff, Int.reduceToNat]
            refine hK _ _ ?_; clear hK K
            refine OW_op rfl (lt_none) (fun K hK r => ?_)
            simp only [x_store, eX, ↓reduceIte, Nat.reduceEqDiff, Int.reduceToNat]
            refine Lt_storeAll sz130 (by simp [Sec.h]) hbA (by simp [Sec.h]) (Wt.plain _) (by decide) ?_
            refine hK _ _ ?_; clear hK K
            refine OW_nil ?_
            try simp only [Ex.thnH, Ex.inBlockH, ↓reduceIte, Nat.reduceEqDiff]
            first | refine ⟨rfl, ?_⟩ | refine ⟨trivial, ?_⟩
            refine CW_block ?_
            refine CW_seq (fun K10 hK10 => ?_)
            refine CW_region ?_
            refine OW_opS (fun K hK r => ?_)
            simp only [x_fieldAddr, fa130_0, add_mk, Nat.reduceAdd, Nat.zero_add, eX, ↓reduceIte, Nat.reduceEqDiff, Int.reduceToNat]
            refine hK _ _ ?_; clear hK K
            refine OW_opS (fun K hK r => ?_)
            simp only [x_load, eX, ↓reduceIte, Nat.reduceEqDiff, Int.reduceToNat]
            refine Lt_loadAt1 Try.underlying3 rfl hbA (wt_at (d.wait.getD (d.wait.length - 1 - i_) default)) ?_
            refine hK _ _ ?_; clear hK K
            refine OW_opS (fun K hK r => ?_)
            simp only [x_load, eX, ↓reduceIte, Nat.reduceEqDiff, Int.reduceToNat]
            refine Lt_loadAt1 Try.underlying3 rfl hbA ldA ?_
            try simp only [eX, ↓reduceIte, Nat.reduceEqDiff, Int.reduceToNat]
            refine hK _ _ ?_; clear hK K
            refine OW_opS (fun K hK r => ?_)
            simp (disch := (first | omega | decide)) only [x_bin, g_int, b_eql, dec_lt_t, dec_lt_f, dec_le_t, dec_le_f, dec_eq_t, dec_eq_f, Bool.not_true, Bool.not_false, eX, ↓reduceIte, Nat.reduceEqDiff, Int.reduceToNat]
            refine hK _ _ ?_; clear hK K
            refine OW_nil ?_
            try simp only [Ex.thnH, Ex.inBlockH, ↓reduceIte, Nat.reduceEqDiff]
            refine hK10 _ _ ?_; try clear hK10 K10
            refine CW_cond (fun r => rfl) (fun c36 => ?_) (fun c36 => ?_)
            · first
              | (exfalso; exact cnA c36; done)
              | skip
                (try simp only [decide_eq_true_eq, decide_eq_false_iff_not, Bool.not_eq_true, Bool.not_eq_false, Bool.and_eq_true, Bool.or_eq_true, Bool.or_eq_false_iff, Bool.not_eq_true, Bool.not_eq_eq_eq_not, Bool.not_true, Bool.not_false] at c36)
                refine CW_seq (fun K11 hK11 => ?_)
                refine CW_region ?_
                refine OW_opS (fun K hK r => ?_)
                simp only [x_fieldAddr, fa130_1, add_mk, Nat.reduceAdd, Nat.zero_add, eX, ↓reduceIte, Nat.reduceEqDiff, Int.reduceToNat]
                refine hK _ _ ?_; clear hK K
                refine OW_opS (fun K hK r => ?_)
                simp only [x_load, eX, ↓reduceIte, Nat.reduceEqDiff, Int.reduceToNat]
                refine Lt_loadAtA Try.underlying30 rfl sz30 hbA (by simp [Sec.h]) ?_
                rw [wt_x]
                refine hK _ _ ?_; clear hK K
                refine OW_op rfl (lt_none) (fun K hK r => ?_)
                simp only [x_store, eX, ↓reduceIte, Nat.reduceEqDiff, Int.reduceToNat]
                refine Lt_storeAll sz30 (by simp [Sec.h]) hbA (by simp [Sec.h]) (PlainL.ints _ _) (by decide) ?_
                refine hK _ _ ?_; clear hK K
                refine OW_op rfl (lt_none) (fun K hK r => ?_)
                simp only [x_store, eX, ↓reduceIte, Nat.reduceEqDiff, Int.reduceToNat]
                refine Lt_storeAt1 sz32 hbA bdA plA fzA ?_
                try simp only [setL0, setL1, setL2, setL3, setL4, setL5, setL6, setL7, setL8, setL9]
                try simp only [eX, ↓reduceIte, Nat.reduceEqDiff, Int.reduceToNat]
                refine hK _ _ ?_; clear hK K
                refine OW_nil ?_
                try simp only [Ex.thnH, Ex.inBlockH, ↓reduceIte, Nat.reduceEqDiff]
                refine hK11 _ _ ?_; try clear hK11 K11
                refine CW_ret ?_
                try simp only [Ex.thnH, Ex.inBlockH, ↓reduceIte, Nat.reduceEqDiff]
                refine ⟨[_, _], ⟨⟨_, rfl, Lq_loadAll Try.underlying30 rfl sz30 hbA (by simp [Sec.h])⟩, ⟨_, rfl, Lq_load1 Try.underlying32 rfl hbA ldA⟩, trivial⟩, H, lhA, ?_, rfl⟩
                show Value.tuple _ = _
                rw [hrd]
                unfold Dv.read
                rw [lastW_at (k := d.wait.length - 1 - i_) (by omega) c36 (fun j hj hjl => by have := hno_ (d.wait.length - 1 - j) (by omega); rwa [show d.wait.length - 1 - (d.wait.length - 1 - j) = j from by omega] at this)]
                rfl
            · first
              | (exfalso; exact cnA c36; done)
              | skip
                (try simp only [decide_eq_true_eq, decide_eq_false_iff_not, Bool.not_eq_true, Bool.not_eq_false, Bool.and_eq_true, Bool.or_eq_true, Bool.or_eq_false_iff, Bool.not_eq_true, Bool.not_eq_eq_eq_not, Bool.not_true, Bool.not_false] at c36)
                refine CW_skip ?_
                try simp only [Ex.thnH, Ex.inBlockH, ↓reduceIte, Nat.reduceEqDiff]
                refine ⟨le_upd_of hl_ (none_of_le hl_ hb10), fun t ht => ?_⟩
                by_cases e : t = i_
                · subst e; exact c36
                · exact hno_ t (by omega)
          intro H_ hI_
          obtain ⟨hl_, hno_⟩ := hI_
          have hlH := Le.trans l30 hl_
          have q5 := hl_ _ _ k5
          have q6 := hl_ _ _ k6
          have q7 := hl_ _ _ k7
          have qb := hlH _ _ kb
          have qm := hlH _ _ km
          try simp only [Ex.thnH, Ex.inBlockH, ↓reduceIte, Nat.reduceEqDiff]
          refine hK8 _ _ ?_; try clear hK8 K8
          refine CW_seq (fun K12 hK12 => ?_)
          refine CW_drawE [0, 0, 0, 1, 1, 1, 3, 3] [0, 1, 2, 3, 4, 5, 6, 7] (by kernel_rfl) (by kernel_rfl) (fun R10 hR10 => ?_)
          apply TW_pure rfl (lt_some (by decide)) rfl
          · intro r
            simp only [x_move, eX, ↓reduceIte, Nat.reduceEqDiff]
            exact ⟨rfl, Le.refl _⟩
          simp only [eX, ↓reduceIte, Nat.reduceEqDiff, Int.reduceToNat]
          apply TW_pure rfl (lt_some (by decide)) rfl
          · intro r
            rw [x_nilCheck _ _ rfl]
            exact ⟨rfl, Le.refl _⟩
          simp only [eX, ↓reduceIte, Nat.reduceEqDiff, Int.reduceToNat]
          apply TW_pure rfl (lt_some (by decide)) rfl
          · intro r
            simp only [x_fieldAddr, fa119_1, add_mk, Nat.reduceAdd, Nat.zero_add, eX, ↓reduceIte, Nat.reduceEqDiff]
            exact ⟨rfl, Le.refl _⟩
          simp only [eX, ↓reduceIte, Nat.reduceEqDiff, Int.reduceToNat]
          apply TW_look rfl (lt_some (by decide)) rfl
          · intro r
            simp only [x_load, eX, ↓reduceIte, Nat.reduceEqDiff]
            refine Lt_loadAt1 Try.underlying116 rfl hbA ldA ?_
            exact ⟨rfl, Le.refl _⟩
          simp only [eX, ↓reduceIte, Nat.reduceEqDiff, Int.reduceToNat]
          apply TW_look rfl (lt_some (by decide)) rfl
          · intro r
            simp only [x_load, eX, ↓reduceIte, Nat.reduceEqDiff]
            refine Lt_loadAt1 Try.underlying3 rfl hbA ldA ?_
            exact ⟨rfl, Le.refl _⟩
          simp only [eX, ↓reduceIte, Nat.reduceEqDiff, Int.reduceToNat]
          apply TW_look rfl (lt_some (by decide)) rfl
          · intro r
            simp only [x_lookup, eX, ↓reduceIte, Nat.reduceEqDiff]
            refine Lt_lookup Try.underlying116 Try.underlying3 zr30 hbA hms.1 ?_
            rw [hms.2]
            exact ⟨rfl, Le.refl _⟩
          simp only [eX, ↓reduceIte, Nat.reduceEqDiff, Int.reduceToNat]
          refine TW_last rfl (lt_none) rfl (fun K hK r => ?_)
          simp only [x_store, eX, ↓reduceIte, Nat.reduceEqDiff, Int.reduceToNat]
          refine Lt_storeAll sz30 (by simp [Sec.h]) hbA (by simp [Sec.h]) (PlainL.ints _ _) (by decide) ?_
          refine hK _ _ ?_; clear hK K
          refine TW_last rfl (lt_none) rfl (fun K hK r => ?_)
          simp only [x_store, eX, ↓reduceIte, Nat.reduceEqDiff, Int.reduceToNat]
          refine Lt_storeAt1 sz32 hbA bdA plA fzA ?_
          try simp only [setL0, setL1, setL2, setL3, setL4, setL5, setL6, setL7, setL8, setL9]
          try simp only [eX, ↓reduceIte, Nat.reduceEqDiff, Int.reduceToNat]
          refine hK _ _ ?_; clear hK K
          refine TW_nil ?_
          try simp only [Ex.thnH, Ex.inBlockH, ↓reduceIte, Nat.reduceEqDiff]
          refine hK12 _ _ ?_; try clear hK12 K12
          refine CW_ret ?_
          try simp only [Ex.thnH, Ex.inBlockH, ↓reduceIte, Nat.reduceEqDiff]
          refine ⟨[_, _], ⟨⟨_, rfl, Lq_loadAll Try.underlying30 rfl sz30 hbA (by simp [Sec.h])⟩, ⟨_, rfl, Lq_load1 Try.underlying32 rfl hbA ldA⟩, trivial⟩, H, lhA, ?_, rfl⟩
          show Value.tuple _ = _
          rw [hrd]
          unfold Dv.read
          rw [lastW_none (fun j hj => by have := hno_ (d.wait.length - 1 - j) (by omega); rwa [show d.wait.length - 1 - (d.wait.length - 1 - j) = j from by omega] at this)]
          rfl

end Go.Proofs.Ytigofhhonnbkmaa.HL
end
section
namespace Go.Proofs.Ytigofhhonnbkmaa.HL
open Go Go.Proofs
set_option linter.unusedSimpArgs false
set_option linter.unusedVariables false
attribute [local irreducible] Lt Lq CW OW TW CallH



/-- a set cut out of its heap -/

def SetF (F : Hp) (p : Nat) (s : St) : Prop := SetX F p s

theorem DvX.own {F : Hp} {b : Nat} {d : Dv} (h : DvX F b d) : F b ≠ none := by obtain ⟨m, wv, e⟩ := h.blk; rw [e]; simp

theorem SX.cut {F : Hp} {p : Nat} {s : St} {r cap : Nat} {bs : List Nat} {Fs : Nat → Hp} (h : SX F p s r cap bs Fs) : ∃ F', Le F' F ∧ SX F' p s r cap bs Fs ∧ ∀ x, F' x ≠ none → x = p ∨ x = r ∨ ∃ i, i < s.dv.length ∧ Fs i x ≠ none := by
  classical
  refine ⟨fun x => if x = p ∨ x = r ∨ ∃ i, i < s.dv.length ∧ Fs i x ≠ none then F x else none, fun x o hx => ?_, ⟨by simpa using h.hd, h.len, ?_, h.dev, fun i hi x o hx => ?_, h.fp, h.sep⟩, fun x hx => ?_⟩
  · by_cases hc : x = p ∨ x = r ∨ ∃ i, i < s.dv.length ∧ Fs i x ≠ none
    · simpa only [if_pos hc] using hx
    · simp only [if_neg hc] at hx; cases hx
  · exact h.own.stay (fun b o hb ho => by cases hb; simpa using ho)
  · have hc : x = p ∨ x = r ∨ ∃ i, i < s.dv.length ∧ Fs i x ≠ none := .inr (.inr ⟨i, hi, by rw [hx]; simp⟩)
    simp only [if_pos hc]; exact h.le i hi x o hx
  · by_cases hc : x = p ∨ x = r ∨ ∃ i, i < s.dv.length ∧ Fs i x ≠ none
    · exact hc
    · simp only [if_neg hc] at hx; exact absurd rfl hx

end Go.Proofs.Ytigofhhonnbkmaa.HL
end
section
namespace Go.Proofs.Ytigofhhonnbkmaa.HL
open Go Go.Proofs
set_option linter.unusedSimpArgs false
set_option linter.unusedVariables false
attribute [local irreducible] Lt Lq CW OW TW CallH


def okN (n : Int) : Bool := decide (1 ≤ n) && decide (n ≤ 4096)
def newDv (n : Int) : Dv := ⟨n, fun _ => Sec.zero, []⟩
def newSt (l : List Int) : St := ⟨0, 0, false, false, l.map newDv⟩
def goodN (l : List Int) : Bool := decide (1 ≤ l.length) && decide (l.length ≤ 5) && l.all okN
/-- so many devices of a new set -/
structure NX (H0 H : Hp) (p : Nat) (l : List Int) (k : Nat) (v : Value) (rs : Option Nat) (bs : List Nat) (Fs : Nat → Hp) : Prop where
  hd : H p = some (.cells #[.int .i64 0, .int .i64 0, .bool false, .bool false, v] 114)
  len : bs.length = k
  own : OwnS H 115 1 v k (bs.map ptrV) rs
  dev : ∀ i, i < k → DvX (Fs i) (bs.getD i 0) (newDv (l.getD i default))
  le : ∀ i, i < k → Le (Fs i) H
  fp : ∀ i, i < k → Fs i p = none ∧ ∀ r, rs = some r → Fs i r = none
  sep : ∀ i j, i < k → j < k → i ≠ j → ∀ x, Fs i x ≠ none → Fs j x = none
  fr : ∀ i, i < k → ∀ x, Fs i x ≠ none → H0 x = none
  frr : ∀ r, rs = some r → H0 r = none
  frp : H0 p = none
  old : Le H0 H


theorem good_bad {l : List Int} {k : Nat} (hk : k < l.length) (h : okN (l.getD k default) = false) : goodN l = false := by
  unfold goodN
  have : l.all okN = false := by
    rw [List.all_eq_false]
    rw [List.getD_eq_getElem?_getD, List.getElem?_eq_getElem hk] at h
    exact ⟨l[k], List.getElem_mem hk, by simpa using h⟩
  rw [this]; simp
theorem good_all {l : List Int} (h1 : 1 ≤ l.length) (h2 : l.length ≤ 5) (h : ∀ j, j < l.length → okN (l.getD j default) = true) : goodN l = true := by
  unfold goodN
  have : l.all okN = true := by
    rw [List.all_eq_true]
    intro x hx
    obtain ⟨j, hj, rfl⟩ := List.mem_iff_getElem.1 hx
    have := h j hj
    rwa [List.getD_eq_getElem?_getD, List.getElem?_eq_getElem hj] at this
  rw [this]; simp [h1, h2]
theorem ints_get {l : List Int} {c : Array Value} {o n : Nat} (h : ∀ j, j < n * 1 → c[o + j]? = (l.map (Value.int .i64))[j]?) (hn : n = l.length) (k : Nat) (hk : k < l.length) : c[o + k]? = some (.int .i64 (l.getD k default)) := by
  rw [h k (by omega), List.getElem?_map, List.getElem?_eq_getElem hk, List.getD_eq_getElem?_getD, List.getElem?_eq_getElem hk]; rfl
theorem NX.ne {H0 H : Hp} {p : Nat} {l : List Int} {k : Nat} {v : Value} {rs : Option Nat} {bs : List Nat} {Fs : Nat → Hp} (h : NX H0 H p l k v rs bs Fs) : rs ≠ some p := fun e => by
  obtain ⟨_, ⟨_, _, h0⟩ | ⟨r', cc, c', _, g2, _, _, _, g3⟩⟩ := h.own
  · rw [e] at h0; cases h0
  · rw [e] at g3; cases g3; rw [h.hd] at g2; injection g2 with g2; injection g2 with _ g2; revert g2; decide
theorem NX.next {H0 H HF : Hp} {p : Nat} {l : List Int} {k : Nat} {v : Value} {rs : Option Nat} {bs : List Nat} {Fs : Nat → Hp} (h : NX H0 H p l k v rs bs Fs) {bm b : Nat} (hm : H bm = none) (hb : H b = none) (hmb : bm ≠ b) {v' : Value} {rs' : Option Nat}
    (hhd : HF p = some (.cells #[.int .i64 0, .int .i64 0, .bool false, .bool false, v'] 114)) (hown : OwnS HF 115 1 v' (k + 1) (bs.map ptrV ++ [ptrV b]) rs') (hfm : HF bm = some (.map #[] 0)) (hfb : HF b = some (.cells #[.int .i64 (l.getD k default), .map (some bm), .slice none 0 0] 119))
    (hkeep : ∀ x o, H x = some o → x ≠ p → rs ≠ some x → HF x = some o) (hr : ∀ r, rs' = some r → rs = some r ∨ (H r = none ∧ r ≠ bm ∧ r ≠ b)) :
    NX H0 HF p l (k + 1) v' rs' (bs ++ [b]) (fun i => if i = k then (emptyHp.upd bm (.map #[] 0)).upd b (.cells #[.int .i64 (l.getD k default), .map (some bm), .slice none 0 0] 119) else Fs i) := by
  have dF : ∀ x, ((emptyHp.upd bm (.map #[] 0)).upd b (.cells #[.int .i64 (l.getD k default), .map (some bm), .slice none 0 0] 119)) x ≠ none → x = bm ∨ x = b := fun x hx => by
    by_cases e : x = b
    · exact .inr e
    · by_cases e2 : x = bm
      · exact .inl e2
      · rw [upd_ne _ _ e, upd_ne _ _ e2] at hx; exact absurd rfl hx
  have dn : ∀ x, H x ≠ none → ((emptyHp.upd bm (.map #[] 0)).upd b (.cells #[.int .i64 (l.getD k default), .map (some bm), .slice none 0 0] 119)) x = none := fun x hx => by
    rw [upd_ne _ _ (fun e => by subst e; exact hx hb), upd_ne _ _ (fun e => by subst e; exact hx hm)]; rfl
  have hkp : ∀ i, i < k → ∀ x, Fs i x ≠ none → H x ≠ none := fun i hi x hx hn => hx (none_of_le (h.le i hi) hn)
  refine ⟨hhd, by simp [h.len], by rw [List.map_append]; exact hown, fun i hi => ?_, fun i hi => ?_, fun i hi => ?_, fun i j hi hj hij x hx => ?_, fun i hi x hx => ?_, fun r e => ?_, h.frp, fun x o hx => hkeep x o (h.old x o hx) (fun e => by subst e; rw [h.frp] at hx; cases hx) (fun e => by rw [h.frr x e] at hx; cases hx)⟩
  · by_cases e : i = k
    · subst e
      simp only [if_true]
      have eb : (bs ++ [b]).getD i 0 = b := by rw [← h.len]; simp [List.getD_eq_getElem?_getD]
      rw [eb]
      exact ⟨bm, #[], 0, .slice none 0 0, none, upd_same _ _ _, (upd_ne _ _ hmb).trans (upd_same _ _ _), MapS.nil, OwnS.nil _ _ _, fun x hx => (dF x hx).elim (fun e => .inr (.inl e)) .inl⟩
    · simp only [if_neg e]
      have eb : (bs ++ [b]).getD i 0 = bs.getD i 0 := by
        rw [List.getD_eq_getElem?_getD, List.getD_eq_getElem?_getD, List.getElem?_append_left (by rw [h.len]; omega)]
      rw [eb]; exact h.dev i (by omega)
  · by_cases e : i = k
    · subst e; simp only [if_true]; exact le_put (le_put (le_empty _) hfm) hfb
    · simp only [if_neg e]
      have hi' : i < k := by omega
      exact fun x o hx => hkeep x o (h.le i hi' x o hx) (fun e => by subst e; rw [(h.fp i hi').1] at hx; cases hx) (fun e => by rw [(h.fp i hi').2 x e] at hx; cases hx)
  · by_cases e : i = k
    · subst e; simp only [if_true]
      refine ⟨dn p (by rw [h.hd]; simp), fun r e => ?_⟩
      rcases hr r e with h1 | ⟨_, h1, h2⟩
      · exact dn r (h.own.known r h1)
      · rw [upd_ne _ _ h2, upd_ne _ _ h1]; rfl
    · simp only [if_neg e]
      have hi' : i < k := by omega
      refine ⟨(h.fp i hi').1, fun r e => ?_⟩
      rcases hr r e with h1 | ⟨h1, _, _⟩
      · exact (h.fp i hi').2 r h1
      · exact none_of_le (h.le i hi') h1
  · by_cases e : i = k
    · subst e
      simp only [if_true] at hx
      simp only [if_neg (Ne.symm hij)]
      refine none_of_le (h.le j (by omega)) ?_
      rcases dF x hx with rfl | rfl
      · exact hm
      · exact hb
    · simp only [if_neg e] at hx
      by_cases e2 : j = k
      · subst e2; simp only [if_true]; exact dn x (hkp i (by omega) x hx)
      · simp only [if_neg e2]; exact h.sep i j (by omega) (by omega) hij x hx
  · by_cases e : i = k
    · subst e
      simp only [if_true] at hx
      refine none_of_le h.old ?_
      rcases dF x hx with rfl | rfl
      · exact hm
      · exact hb
    · simp only [if_neg e] at hx; exact h.fr i (by omega) x hx
  · rcases hr r e with h1 | ⟨h1, _, _⟩
    · exact h.frr r h1
    · exact none_of_le h.old h1
theorem NX.done {H0 H : Hp} {p : Nat} {l : List Int} {v : Value} {rs : Option Nat} {bs : List Nat} {Fs : Nat → Hp} (h : NX H0 H p l l.length v rs bs Fs) (hl : 1 ≤ l.length) : ∃ F, SetX F p (newSt l) ∧ Le F H ∧ ∀ x, F x ≠ none → H0 x = none := by
  have hn : (newSt l).dv.length = l.length := by simp [newSt]
  obtain ⟨r, cap, rfl, rfl⟩ : ∃ r cap, v = .slice (some ⟨r, 0, none⟩) l.length cap ∧ rs = some r := by
    obtain ⟨_, ⟨_, h0, _⟩ | ⟨r', cc, c', g1, _, _, _, _, g3⟩⟩ := h.own
    · omega
    · exact ⟨r', cc, g1, g3⟩
  have hs : SX H p (newSt l) r cap bs Fs := by
    refine ⟨by rw [hn]; exact h.hd, by rw [hn]; exact h.len, by rw [hn]; exact h.own, ?_, by rw [hn]; exact h.le, ?_, by rw [hn]; exact h.sep⟩
    · rw [hn]
      intro i hi
      have e : (newSt l).dv.getD i default = newDv (l.getD i default) := by
        simp [newSt, List.getD_eq_getElem?_getD, List.getElem?_eq_getElem hi]
      rw [e]; exact h.dev i hi
    · rw [hn]; exact fun i hi => ⟨(h.fp i hi).1, (h.fp i hi).2 r rfl⟩
  obtain ⟨F, hF, hS, hd⟩ := hs.cut
  refine ⟨F, ⟨_, _, _, _, hS⟩, hF, fun x hx => ?_⟩
  rcases hd x hx with rfl | rfl | ⟨i, hi, hx⟩
  · exact h.frp
  · exact h.frr x rfl
  · rw [hn] at hi; exact h.fr i hi x hx

set_option maxRecDepth 100000 in
set_option maxHeartbeats 8000000 in
theorem new_ok (H : Hp) (a : Option Addr) (cap : Nat) (l : List Int) (hv : Holds H 1 (.slice a l.length cap) l.length (l.map (Value.int .i64))) (hl : l.length ≤ 1000) : CallH Try.prog 19 #[.slice a l.length cap] H (fun v H' => (goodN l = false ∧ v = .tuple #[.pointer none, errV (some 1)] ∧ H' = H) ∨ (goodN l = true ∧ Le H H' ∧ ∃ p, v = .tuple #[ptrV p, errV none] ∧ ∃ F, SetX F p (newSt l) ∧ Le F H' ∧ ∀ x, F x ≠ none → H x = none)) := by
  refine CallH_enter (l := [_]) (rl := [.tmp 2, .tmp 3]) (n := 46) Try.func19 rfl rfl rfl rfl rfl ?_
  simp only [envOf, Nat.reduceAdd]
  refine CW_seq (fun K1 hK1 => ?_)
  refine CW_region ?_
  refine OW_as rfl ?_
  refine OW_as rfl ?_
  refine OW_nil ?_
  try simp only [Ex.thnH, Ex.inBlockH, ↓reduceIte, Nat.reduceEqDiff]
  refine hK1 _ _ ?_; try clear hK1 K1
  refine CW_seq (fun K2 hK2 => ?_)
  refine CW_seq (fun K3 hK3 => ?_)
  refine CW_region ?_
  refine OW_mv rfl ?_
  refine OW_opS (fun K hK r => ?_)
  simp only [x_builtin, l_len, List.map_toArray, List.map_cons, List.map_nil, i_len_slice _ _ Try.underlying22, eX, ↓reduceIte, Nat.reduceEqDiff, Int.reduceToNat]
  refine hK _ _ ?_; clear hK K
  refine OW_opS (fun K hK r => ?_)
  simp (disch := (first | omega | decide)) only [x_bin, g_int, b_lss, dec_lt_t, dec_lt_f, dec_le_t, dec_le_f, dec_eq_t, dec_eq_f, Bool.not_true, Bool.not_false, eX, ↓reduceIte, Nat.reduceEqDiff, Int.reduceToNat]
  refine hK _ _ ?_; clear hK K
  refine OW_mv rfl ?_
  (first | refine OW_split (d := 10) rfl (fun g10 => ?_) (fun g10 => ?_) | skip)
  all_goals try (exfalso; exact cnA g10)
  all_goals (try simp only [decide_eq_true_eq, decide_eq_false_iff_not, Bool.not_eq_true, Bool.not_eq_false, Bool.and_eq_true, Bool.or_eq_true, Bool.or_eq_false_iff, Bool.not_eq_true, Bool.not_eq_eq_eq_not, Bool.not_true, Bool.not_false] at g10)
  all_goals
    try simp only [eX, ↓reduceIte, Nat.reduceEqDiff, Int.reduceToNat]
    first
    | refine OW_guardT rfl (lt_some (by decide)) rfl (fun K hK r => ?_)
      simp only [x_move, eX, ↓reduceIte, Nat.reduceEqDiff, Int.reduceToNat]
      refine hK _ _ ?_; clear hK K
    | refine OW_guardF rfl (lt_some (by decide)) rfl ?_
      simp only [eX, ↓reduceIte, Nat.reduceEqDiff, Int.reduceToNat]
    first
    | refine OW_guardT rfl (lt_some (by decide)) rfl (fun K hK r => ?_)
      simp only [x_builtin, l_len, List.map_toArray, List.map_cons, List.map_nil, i_len_slice _ _ Try.underlying22, eX, ↓reduceIte, Nat.reduceEqDiff, Int.reduceToNat]
      refine hK _ _ ?_; clear hK K
    | refine OW_guardF rfl (lt_some (by decide)) rfl ?_
      simp only [eX, ↓reduceIte, Nat.reduceEqDiff, Int.reduceToNat]
    first
    | refine OW_guardT rfl (lt_some (by decide)) rfl (fun K hK r => ?_)
      simp (disch := (first | omega | decide)) only [x_bin, g_int, b_gtr, dec_lt_t, dec_lt_f, dec_le_t, dec_le_f, dec_eq_t, dec_eq_f, Bool.not_true, Bool.not_false, eX, ↓reduceIte, Nat.reduceEqDiff, Int.reduceToNat]
      refine hK _ _ ?_; clear hK K
    | refine OW_guardF rfl (lt_some (by decide)) rfl ?_
      simp only [eX, ↓reduceIte, Nat.reduceEqDiff, Int.reduceToNat]
    refine OW_opS (fun K hK r => ?_)
    simp only [x_pick, l_asBool, HL.ite_bool, if_true, if_false, Bool.false_eq_true, eX, ↓reduceIte, Nat.reduceEqDiff, Int.reduceToNat]
    refine hK _ _ ?_; clear hK K
    refine OW_nil ?_
    try simp only [Ex.thnH, Ex.inBlockH, ↓reduceIte, Nat.reduceEqDiff]
    refine hK3 _ _ ?_; try clear hK3 K3
    refine CW_cond (fun r => rfl) (fun c14 => ?_) (fun c14 => ?_)
    · first
      | (exfalso; exact cnA c14; done)
      | skip
        (try simp only [decide_eq_true_eq, decide_eq_false_iff_not, Bool.not_eq_true, Bool.not_eq_false, Bool.and_eq_true, Bool.or_eq_true, Bool.or_eq_false_iff, Bool.not_eq_true, Bool.not_eq_eq_eq_not, Bool.not_true, Bool.not_false] at c14)
        have hbad : goodN l = false := by unfold goodN; simp; omega
        refine CW_seq (fun K4 hK4 => ?_)
        refine CW_region ?_
        refine OW_opS (fun K hK r => ?_)
        simp only [x_makeInterface, i_makeInterface, Try.underlying38, orF_some, eX, ↓reduceIte, Nat.reduceEqDiff, Int.reduceToNat]
        refine hK _ _ ?_; clear hK K
        refine OW_as rfl ?_
        refine OW_as rfl ?_
        refine OW_nil ?_
        try simp only [Ex.thnH, Ex.inBlockH, ↓reduceIte, Nat.reduceEqDiff]
        refine hK4 _ _ ?_; try clear hK4 K4
        refine CW_ret ?_
        try simp only [Ex.thnH, Ex.inBlockH, ↓reduceIte, Nat.reduceEqDiff]
        exact ⟨[_, _], ⟨rfl, rfl, trivial⟩, _, Le.refl _, .inl ⟨hbad, rfl, rfl⟩⟩
    · first
      | (exfalso; exact cnA c14; done)
      | skip
        (try simp only [decide_eq_true_eq, decide_eq_false_iff_not, Bool.not_eq_true, Bool.not_eq_false, Bool.and_eq_true, Bool.or_eq_true, Bool.or_eq_false_iff, Bool.not_eq_true, Bool.not_eq_eq_eq_not, Bool.not_true, Bool.not_false] at c14)
        have hlen : 1 ≤ l.length ∧ l.length ≤ 5 := by omega
        refine CW_skip ?_
        try simp only [Ex.thnH, Ex.inBlockH, ↓reduceIte, Nat.reduceEqDiff]
        refine hK2 _ _ ?_; try clear hK2 K2
        refine CW_seq (fun K5 hK5 => ?_)
        refine CW_region ?_
        refine OW_opS (fun K hK r => ?_)
        simp only [x_build, bp114, List.map_toArray, List.map_cons, List.map_nil, eX, ↓reduceIte, Nat.reduceEqDiff, Int.reduceToNat]
        simp only [fill_nil, orF_some, List.setIfInBounds_toArray, List.set_cons_zero, List.set_cons_succ]
        try simp only [eX, ↓reduceIte, Nat.reduceEqDiff, Int.reduceToNat]
        refine hK _ _ ?_; clear hK K
        refine OW_opS (fun K hK r => ?_)
        simp only [x_box, Value.cells, eX, ↓reduceIte, Nat.reduceEqDiff, Int.reduceToNat]
        intro b17 hb17
        have f17_H : H b17 = none := none_of_le lhA hb17
        try simp only [eX, ↓reduceIte, Nat.reduceEqDiff, Int.reduceToNat]
        refine hK _ _ ?_; clear hK K
        refine OW_as rfl ?_
        refine OW_nil ?_
        try simp only [Ex.thnH, Ex.inBlockH, ↓reduceIte, Nat.reduceEqDiff]
        refine hK5 _ _ ?_; try clear hK5 K5
        refine CW_seq (fun K6 hK6 => ?_)
        refine CW_seq (fun K7 hK7 => ?_)
        refine CW_region ?_
        refine OW_mv rfl ?_
        refine OW_opS (fun K hK r => ?_)
        simp only [x_builtin, l_len, List.map_toArray, List.map_cons, List.map_nil, i_len_slice _ _ Try.underlying22, eX, ↓reduceIte, Nat.reduceEqDiff, Int.reduceToNat]
        refine hK _ _ ?_; clear hK K
        refine OW_mv rfl ?_
        refine OW_nil ?_
        try simp only [Ex.thnH, Ex.inBlockH, ↓reduceIte, Nat.reduceEqDiff]
        refine hK7 _ _ ?_; try clear hK7 K7
        refine CW_block ?_
        refine CW_loop (fun m e H_ => ∃ (k : Nat) (v : Value) (rs : Option Nat) (bs : List Nat) (Fs : Nat → Hp), k ≤ l.length ∧ m = l.length - k ∧ (∀ j, j < k → okN (l.getD j default) = true) ∧ NX H H_ b17 l k v rs bs Fs ∧ Env.has [(4, .pointer (some ⟨b17, 0, none⟩)), (18, .slice a l.length cap), (19, .int .i64 l.length), (20, .int .i64 k)] e) (l.length) ?_ ?_
        · skip
          refine ⟨0, .slice none 0 0, none, [], fun _ => emptyHp, by omega, by omega, (fun j hj => absurd hj (by omega)), ⟨upd_same _ _ _, rfl, OwnS.nil _ _ _, (fun i hi => absurd hi (by omega)), (fun i hi => absurd hi (by omega)), (fun i hi => absurd hi (by omega)), (fun i j hi => absurd hi (by omega)), (fun i hi => absurd hi (by omega)), (fun r hr => by cases hr), hb17, le_upd _ _ _ hb17⟩, rfl, rfl, rfl, rfl, trivial⟩
        intro m_ e_ H_ hI_
        obtain ⟨k, v, rs, bs, Fs, hk, rfl, hoks, hN, he⟩ := hI_
        refine CW_env he.sub ?_; clear he e_
        have kp := hN.hd
        have hOld := hN.old
        obtain ⟨va, vc, rfl⟩ := hN.own.holds.form
        refine CW_seq (fun K8 hK8 => ?_)
        refine CW_region ?_
        refine OW_opS (fun K hK r => ?_)
        simp (disch := (first | omega | decide)) only [x_bin, g_int, b_lss, dec_lt_t, dec_lt_f, dec_le_t, dec_le_f, dec_eq_t, dec_eq_f, Bool.not_true, Bool.not_false, eX, ↓reduceIte, Nat.reduceEqDiff, Int.reduceToNat]
        refine hK _ _ ?_; clear hK K
        refine OW_nil ?_
        try simp only [Ex.thnH, Ex.inBlockH, ↓reduceIte, Nat.reduceEqDiff]
        refine hK8 _ _ ?_; try clear hK8 K8
        refine CW_seq (fun K9 hK9 => ?_)
        refine CW_cond (fun r => rfl) (fun c21 => ?_) (fun c21 => ?_)
        · first
          | (exfalso; exact cnA c21; done)
          | skip
            (try simp only [decide_eq_true_eq, decide_eq_false_iff_not, Bool.not_eq_true, Bool.not_eq_false, Bool.and_eq_true, Bool.or_eq_true, Bool.or_eq_false_iff, Bool.not_eq_true, Bool.not_eq_eq_eq_not, Bool.not_true, Bool.not_false] at c21)
            obtain ⟨bw, ow, cw, Tw, Fw, ew, hbw, hsw, atw⟩ := (hv.le hN.old).at (by omega)
            refine CW_skip ?_
            try simp only [Ex.thnH, Ex.inBlockH, ↓reduceIte, Nat.reduceEqDiff]
            refine hK9 _ _ ?_; try clear hK9 K9
            refine CW_seq (fun K10 hK10 => ?_)
            refine CW_block ?_
            refine CW_seq (fun K11 hK11 => ?_)
            refine CW_region ?_
            refine OW_opS (fun K hK r => ?_)
            simp only [x_indexAddr, eX, ↓reduceIte, Nat.reduceEqDiff, Int.reduceToNat]
            refine Lt_indexSof Try.underlying22 sz3 ew ixA ixA ?_
            try simp only [Int.toNat_natCast, Nat.mul_one]
            refine hK _ _ ?_; clear hK K
            refine OW_opS (fun K hK r => ?_)
            simp only [x_load, eX, ↓reduceIte, Nat.reduceEqDiff, Int.reduceToNat]
            refine Lt_loadAt1 Try.underlying3 rfl hbA (v := .int .i64 (l.getD k default)) (by first | exact ints_get atw rfl k (by omega) | (rw [Nat.mul_one]; exact ints_get atw rfl k (by omega))) ?_
            refine hK _ _ ?_; clear hK K
            refine OW_as rfl ?_
            refine OW_nil ?_
            try simp only [Ex.thnH, Ex.inBlockH, ↓reduceIte, Nat.reduceEqDiff]
            refine hK11 _ _ ?_; try clear hK11 K11
            refine CW_seq (fun K12 hK12 => ?_)
            refine CW_seq (fun K13 hK13 => ?_)
            refine CW_region ?_
            refine OW_mv rfl ?_
            refine OW_opS (fun K hK r => ?_)
            simp (disch := (first | omega | decide)) only [x_bin, g_int, b_lss, dec_lt_t, dec_lt_f, dec_le_t, dec_le_f, dec_eq_t, dec_eq_f, Bool.not_true, Bool.not_false, eX, ↓reduceIte, Nat.reduceEqDiff, Int.reduceToNat]
            refine hK _ _ ?_; clear hK K
            refine OW_mv rfl ?_
            (first | refine OW_split (d := 26) rfl (fun g26 => ?_) (fun g26 => ?_) | skip)
            all_goals try (exfalso; exact cnA g26)
            all_goals (try simp only [decide_eq_true_eq, decide_eq_false_iff_not, Bool.not_eq_true, Bool.not_eq_false, Bool.and_eq_true, Bool.or_eq_true, Bool.or_eq_false_iff, Bool.not_eq_true, Bool.not_eq_eq_eq_not, Bool.not_true, Bool.not_false] at g26)
            all_goals
              try simp only [eX, ↓reduceIte, Nat.reduceEqDiff, Int.reduceToNat]
              first
              | refine OW_guardT rfl (lt_some (by decide)) rfl (fun K hK r => ?_)
                simp only [x_move, eX, ↓reduceIte, Nat.reduceEqDiff, Int.reduceToNat]
                refine hK _ _ ?_; clear hK K
              | refine OW_guardF rfl (lt_some (by decide)) rfl ?_
                simp only [eX, ↓reduceIte, Nat.reduceEqDiff, Int.reduceToNat]
              first
              | refine OW_guardT rfl (lt_some (by decide)) rfl (fun K hK r => ?_)
                simp (disch := (first | omega | decide)) only [x_bin, g_int, b_gtr, dec_lt_t, dec_lt_f, dec_le_t, dec_le_f, dec_eq_t, dec_eq_f, Bool.not_true, Bool.not_false, eX, ↓reduceIte, Nat.reduceEqDiff, Int.reduceToNat]
                refine hK _ _ ?_; clear hK K
              | refine OW_guardF rfl (lt_some (by decide)) rfl ?_
                simp only [eX, ↓reduceIte, Nat.reduceEqDiff, Int.reduceToNat]
              refine OW_opS (fun K hK r => ?_)
              simp only [x_pick, l_asBool, HL.ite_bool, if_true, if_false, Bool.false_eq_true, eX, ↓reduceIte, Nat.reduceEqDiff, Int.reduceToNat]
              refine hK _ _ ?_; clear hK K
              refine OW_nil ?_
              try simp only [Ex.thnH, Ex.inBlockH, ↓reduceIte, Nat.reduceEqDiff]
              refine hK13 _ _ ?_; try clear hK13 K13
              refine CW_cond (fun r => rfl) (fun c29 => ?_) (fun c29 => ?_)
              · first
                | (exfalso; exact cnA c29; done)
                | skip
                  (try simp only [decide_eq_true_eq, decide_eq_false_iff_not, Bool.not_eq_true, Bool.not_eq_false, Bool.and_eq_true, Bool.or_eq_true, Bool.or_eq_false_iff, Bool.not_eq_true, Bool.not_eq_eq_eq_not, Bool.not_true, Bool.not_false] at c29)
                  have hbad : goodN l = false := good_bad (k := k) (by omega) (by unfold okN; rw [Bool.and_eq_false_iff]; simp only [decide_eq_false_iff_not]; omega)
                  refine CW_seq (fun K14 hK14 => ?_)
                  refine CW_region ?_
                  refine OW_opS (fun K hK r => ?_)
                  simp only [x_makeInterface, i_makeInterface, Try.underlying38, orF_some, eX, ↓reduceIte, Nat.reduceEqDiff, Int.reduceToNat]
                  refine hK _ _ ?_; clear hK K
                  refine OW_as rfl ?_
                  refine OW_as rfl ?_
                  refine OW_nil ?_
                  try simp only [Ex.thnH, Ex.inBlockH, ↓reduceIte, Nat.reduceEqDiff]
                  refine hK14 _ _ ?_; try clear hK14 K14
                  refine CW_ret ?_
                  try simp only [Ex.thnH, Ex.inBlockH, ↓reduceIte, Nat.reduceEqDiff]
                  exact ⟨[_, _], ⟨rfl, rfl, trivial⟩, H, hN.old, .inl ⟨hbad, rfl, rfl⟩⟩
              · first
                | (exfalso; exact cnA c29; done)
                | skip
                  (try simp only [decide_eq_true_eq, decide_eq_false_iff_not, Bool.not_eq_true, Bool.not_eq_false, Bool.and_eq_true, Bool.or_eq_true, Bool.or_eq_false_iff, Bool.not_eq_true, Bool.not_eq_eq_eq_not, Bool.not_true, Bool.not_false] at c29)
                  have hok : okN (l.getD k default) = true := by unfold okN; rw [Bool.and_eq_true]; simp only [decide_eq_true_eq]; omega
                  refine CW_skip ?_
                  try simp only [Ex.thnH, Ex.inBlockH, ↓reduceIte, Nat.reduceEqDiff]
                  refine hK12 _ _ ?_; try clear hK12 K12
                  refine CW_region ?_
                  refine OW_mv rfl ?_
                  refine OW_mv rfl ?_
                  refine OW_opS (fun K hK r => ?_)
                  rw [x_nilCheck _ _ rfl]
                  simp only [eX, ↓reduceIte, Nat.reduceEqDiff, Int.reduceToNat]
                  refine hK _ _ ?_; clear hK K
                  refine OW_opS (fun K hK r => ?_)
                  simp only [x_fieldAddr, fa114_1, add_mk, Nat.reduceAdd, Nat.zero_add, eX, ↓reduceIte, Nat.reduceEqDiff, Int.reduceToNat]
                  refine hK _ _ ?_; clear hK K
                  refine OW_opS (fun K hK r => ?_)
                  simp only [x_load, eX, ↓reduceIte, Nat.reduceEqDiff, Int.reduceToNat]
                  refine Lt_loadAt1 Try.underlying112 rfl hbA ldA ?_
                  try simp only [eX, ↓reduceIte, Nat.reduceEqDiff, Int.reduceToNat]
                  refine hK _ _ ?_; clear hK K
                  refine OW_mv rfl ?_
                  refine OW_opS (fun K hK r => ?_)
                  simp only [x_makeMap, Option.map_none, eX, ↓reduceIte, Nat.reduceEqDiff, Int.reduceToNat]
                  refine Lt_makeMap ?_
                  intro b37 hb37
                  try have n37_b17 : b17 ≠ b37 := ne_of_none hbA hb37
                  have f37_H : H b37 = none := none_of_le lhA hb37
                  try simp only [eX, ↓reduceIte, Nat.reduceEqDiff, Int.reduceToNat]
                  refine hK _ _ ?_; clear hK K
                  refine OW_opS (fun K hK r => ?_)
                  simp only [x_build, bp119, List.map_toArray, List.map_cons, List.map_nil, eX, ↓reduceIte, Nat.reduceEqDiff, Int.reduceToNat]
                  rw [fill_one rfl clA bdA]
                  rw [fill_one rfl clA bdA]
                  simp only [fill_nil, orF_some, List.setIfInBounds_toArray, List.set_cons_zero, List.set_cons_succ]
                  try simp only [eX, ↓reduceIte, Nat.reduceEqDiff, Int.reduceToNat]
                  refine hK _ _ ?_; clear hK K
                  refine OW_opS (fun K hK r => ?_)
                  simp only [x_box, Value.cells, eX, ↓reduceIte, Nat.reduceEqDiff, Int.reduceToNat]
                  intro b39 hb39
                  try have n39_b17 : b17 ≠ b39 := ne_of_none hbA hb39
                  try have n39_b37 : b37 ≠ b39 := ne_of_none hbA hb39
                  have f39_H : H b39 = none := none_of_le lhA hb39
                  try simp only [eX, ↓reduceIte, Nat.reduceEqDiff, Int.reduceToNat]
                  refine hK _ _ ?_; clear hK K
                  refine OW_opS (fun K hK r => ?_)
                  simp only [x_buildSlice, List.map_toArray, List.map_cons, List.map_nil, eX, ↓reduceIte, Nat.reduceEqDiff, Int.reduceToNat]
                  refine Lt_buildSlice (vs := [_]) Try.underlying112 sz115 zr115 rfl bsA (by first | decide | (simp; done)) ?_
                  simp only [List.flatMap_cons, List.flatMap_nil, Value.cells, List.append_nil, List.cons_append, List.nil_append, List.length_cons, List.length_nil, Nat.zero_add, Nat.reduceAdd]
                  intro b40 hb40
                  try have n40_b17 : b17 ≠ b40 := ne_of_none hbA hb40
                  try have n40_b37 : b37 ≠ b40 := ne_of_none hbA hb40
                  try have n40_b39 : b39 ≠ b40 := ne_of_none hbA hb40
                  have f40_H : H b40 = none := none_of_le lhA hb40
                  try simp only [eX, ↓reduceIte, Nat.reduceEqDiff, Int.reduceToNat]
                  refine hK _ _ ?_; clear hK K
                  refine OW_opS (fun K hK r => ?_)
                  simp only [x_builtin, l_append, List.map_toArray, List.map_cons, List.map_nil, eX, ↓reduceIte, Nat.reduceEqDiff, Int.reduceToNat]
                  have nmp : b37 ≠ b17 := Ne.symm (ne_of_none kp hb37)
                  have hrs17 := hN.ne
                  have hm_ : H_ b37 = none := hb37
                  have hb_39 : H_ b39 = none := none_of_le (le_upd _ _ _ hb37) hb39
                  have nm39 : b37 ≠ b39 := ne_of_none (upd_same _ _ _) hb39
                  have n1739 : b17 ≠ b39 := ne_of_none kp hb_39
                  have hb_40 : H_ b40 = none := none_of_le (Le.trans (le_upd _ _ _ hb37) (le_upd _ _ _ hb39)) hb40
                  have n1740 : b17 ≠ b40 := ne_of_none kp hb_40
                  have n3740 : b37 ≠ b40 := ne_of_none hbA hb40
                  have n3940 : b39 ≠ b40 := ne_of_none hbA hb40
                  refine Lt_append1 Try.underlying112 sz115 by115 (by decide) zr115 rfl _ (((hN.own.make hb37).make hb39).make hb40) (x := ptrV b39) hbA rfl (by omega) ?_
                  intro v41 H41 rs41 hg41 ho41 hr41
                  obtain ⟨wa41, wc41, rfl⟩ := ho41.holds.form
                  have kp41 := hg41.known b17 _ hbA hrs17
                  have km41 := hg41.known b37 (.map #[] 0) hbA (fun e => hN.own.known b37 e hb37)
                  have kb41 := hg41.known b39 (.cells #[.int .i64 (l.getD k default), .map (some b37), .slice none 0 0] 119) hbA (fun e => hN.own.known b39 e hb_39)
                  have hkp41 : ∀ x o, H_ x = some o → rs ≠ some x → H41 x = some o := fun x o hx hn => hg41.known x o (Le.trans (Le.trans (le_upd _ _ _ hb37) (le_upd _ _ _ hb39)) (le_upd _ _ _ hb40) x o hx) hn
                  have hr41' : ∀ r, rs41 = some r → rs = some r ∨ (H_ r = none ∧ r ≠ b37 ∧ r ≠ b39) := fun r e => (hr41 r e).imp id (fun hn => by
                    have h3 := upd_none hn
                    have h2 := upd_none h3
                    refine ⟨upd_none h2, fun e => ?_, fun e => ?_⟩
                    · subst e; rw [upd_same] at h2; cases h2
                    · subst e; rw [upd_same] at h3; cases h3)
                  refine hK _ _ ?_; clear hK K
                  refine OW_opS (fun K hK r => ?_)
                  rw [x_nilCheck _ _ rfl]
                  simp only [eX, ↓reduceIte, Nat.reduceEqDiff, Int.reduceToNat]
                  refine hK _ _ ?_; clear hK K
                  refine OW_opS (fun K hK r => ?_)
                  simp only [x_fieldAddr, fa114_1, add_mk, Nat.reduceAdd, Nat.zero_add, eX, ↓reduceIte, Nat.reduceEqDiff, Int.reduceToNat]
                  refine hK _ _ ?_; clear hK K
                  refine OW_op rfl (lt_none) (fun K hK r => ?_)
                  simp only [x_store, eX, ↓reduceIte, Nat.reduceEqDiff, Int.reduceToNat]
                  refine Lt_storeAt1 sz112 hbA bdA plA fzA ?_
                  try simp only [setL0, setL1, setL2, setL3, setL4, setL5, setL6, setL7, setL8, setL9]
                  try simp only [eX, ↓reduceIte, Nat.reduceEqDiff, Int.reduceToNat]
                  refine hK _ _ ?_; clear hK K
                  refine OW_nil ?_
                  try simp only [Ex.thnH, Ex.inBlockH, ↓reduceIte, Nat.reduceEqDiff]
                  refine hK10 _ _ ?_; try clear hK10 K10
                  refine CW_region ?_
                  refine OW_opS (fun K hK r => ?_)
                  simp (disch := (first | omega | decide)) only [x_bin, g_int, b_add, wrap_i64, wrap_u64, wrap_u32, wrap_u8, eX, ↓reduceIte, Nat.reduceEqDiff, Int.reduceToNat]
                  refine hK _ _ ?_; clear hK K
                  refine OW_mv rfl ?_
                  refine OW_nil ?_
                  try simp only [Ex.thnH, Ex.inBlockH, ↓reduceIte, Nat.reduceEqDiff]
                  refine ⟨l.length - (k + 1), by omega, k + 1, _, rs41, bs ++ [b39], _, by omega, rfl, (fun j hj => ?_), hN.next hm_ hb_39 nm39 (upd_same _ _ _) (ho41.upd (fun e => ?_)) ((upd_ne _ _ nmp).trans km41) ((upd_ne _ _ (Ne.symm n1739)).trans kb41) (fun x o hx hxp hxr => (upd_ne _ _ hxp).trans (hkp41 x o hx hxr)) hr41', rfl, rfl, rfl, rfl, trivial⟩
                  · by_cases e : j = k
                    · subst e; exact hok
                    · exact hoks j (by omega)
                  · rcases hr41' _ e with h1 | ⟨h1, _⟩
                    · exact hrs17 h1
                    · rw [kp] at h1; cases h1
        · first
          | (exfalso; exact cnA c21; done)
          | skip
            (try simp only [decide_eq_true_eq, decide_eq_false_iff_not, Bool.not_eq_true, Bool.not_eq_false, Bool.and_eq_true, Bool.or_eq_true, Bool.or_eq_false_iff, Bool.not_eq_true, Bool.not_eq_eq_eq_not, Bool.not_true, Bool.not_false] at c21)
            have hkn : k = l.length := by omega
            refine CW_exit ?_
            try simp only [Ex.thnH, Ex.inBlockH, ↓reduceIte, Nat.reduceEqDiff]
            refine hK6 _ _ ?_; try clear hK6 K6
            refine CW_seq (fun K15 hK15 => ?_)
            refine CW_region ?_
            refine OW_mv rfl ?_
            refine OW_as rfl ?_
            refine OW_as rfl ?_
            refine OW_nil ?_
            try simp only [Ex.thnH, Ex.inBlockH, ↓reduceIte, Nat.reduceEqDiff]
            refine hK15 _ _ ?_; try clear hK15 K15
            refine CW_ret ?_
            try simp only [Ex.thnH, Ex.inBlockH, ↓reduceIte, Nat.reduceEqDiff]
            subst hkn
            obtain ⟨F, hF1, hF2, hF3⟩ := hN.done hlen.1
            exact ⟨[_, _], ⟨rfl, rfl, trivial⟩, _, Le.refl _, .inr ⟨good_all hlen.1 hlen.2 hoks, hN.old, b17, rfl, F, hF1, hF2, hF3⟩⟩

end Go.Proofs.Ytigofhhonnbkmaa.HL
end
