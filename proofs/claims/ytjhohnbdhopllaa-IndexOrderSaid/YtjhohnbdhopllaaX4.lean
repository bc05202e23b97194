/- Parts of the proof, one behind the other: U26, Md29d, U27, U28, HLField. -/
import Derived.Test.YtjhohnbdhopllaaX3
set_option linter.unusedSimpArgs false
set_option linter.unusedVariables false
section
namespace Go.Proofs.Ytjhohnbdhopllaa.HL
open Go Go.Proofs
set_option linter.unusedSimpArgs false
set_option linter.unusedVariables false
attribute [local irreducible] Lt Lq CW OW TW CallH
def alW : List Wr := [⟨2, 1, 5, false⟩, ⟨2, 2, 3, false⟩, ⟨2, 3, 5, false⟩]
def alE (k : Nat) : Nat → List En := (alW.take k).foldl stepE (fun _ => [])
def alS : List En := [⟨5, 1⟩, ⟨5, 3⟩, ⟨3, 2⟩]
theorem alE_sz (k : Nat) (h : k ≤ 3) : SzE (alE k) k := by
  have h1 := SzE.fold (L := alW.take k) (E := fun _ => []) (n := 0) (fun t _ => Nat.le_refl _) (any_take (by decide) k)
  refine h1.up ?_
  rw [List.length_take]; omega
theorem alW_at {k : Nat} (h : k < 3) : alW.getD k default = ⟨2, (k : Int) + 1, [5, 3, 5].getD k 0, false⟩ := by
  match k, h with
  | 0, _ => rfl
  | 1, _ => rfl
  | 2, _ => rfl
theorem alE_step {k : Nat} (h : k < 3) : tellE (alE k) [⟨2, (k : Int) + 1, [5, 3, 5].getD k 0, false⟩] = alE (k + 1) := by
  unfold alE
  rw [foldl_take _ _ (by simpa [alW] using h), alW_at h]
  rfl
theorem al_tab : tabE (alE 3) 2 = [⟨3, 2⟩, ⟨5, 1⟩, ⟨5, 3⟩] := by decide
theorem alS_perm : alS.Perm (tabE (alE 3) 2) := by
  rw [al_tab]
  exact (List.perm_append_comm (l₁ := [(⟨5, 1⟩ : En), ⟨5, 3⟩]) (l₂ := [⟨3, 2⟩]))
theorem alS_pair : alS.Pairwise glE := by unfold alS; decide
theorem mkWr (t k v : Int) (H : Hp) (K : Value → Hp → Prop) : Lt Try.prog (Instr.build 46 #[(0, .agg #[.int .i64 t, .int .i64 k]), (1, .int .i64 v)]) H K = K (.agg (⟨t, k, v, false⟩ : Wr).c.toArray) H := by
  rw [bp46]
  rw [fill_manyR (l := [.int .i64 t, .int .i64 k]) (n := 2) rfl rfl rfl (by simp)]
  rw [fill_one rfl rfl (by rw [putCells_size]; simp), fill_nil, zaf]
  rfl
theorem mkWrD (t k : Int) (H : Hp) (K : Value → Hp → Prop) : Lt Try.prog (Instr.build 46 #[(0, .agg #[.int .i64 t, .int .i64 k]), (2, .bool true)]) H K = K (.agg (⟨t, k, 0, true⟩ : Wr).c.toArray) H := by
  rw [bp46]
  rw [fill_manyR (l := [.int .i64 t, .int .i64 k]) (n := 2) rfl rfl rfl (by simp)]
  rw [fill_one rfl rfl (by rw [putCells_size]; simp), fill_nil, zaf]
  rfl
theorem xv_of {b : Nat} {E : Nat → List En} {G Q : Hp} (h : StX (IX b E) G Q) : XV Q (.pointer (some ⟨b, 0, none⟩)) E := .inr ⟨b, rfl, h.all (fun F hF hl => hF.le hl)⟩
set_option maxRecDepth 100000 in
set_option maxHeartbeats 4000000 in
theorem alive_ok (G : Hp) : CallH Try.prog 7 #[] G (fun v G' => v = .bool true ∧ G' = G) := by
 refine zaD (l := []) (rl := [.tmp 0]) (n := 52) Try.func7 rfl rfl rfl rfl rfl ?_
 simp only [envOf, Nat.reduceAdd]
 refine zad (fun K1 hK1 => ?_)
 refine zab ?_
 refine zaE rfl ?_
 refine zae ?_
 try simp only [Ex.thnH, Ex.inBlockH, ↓reduceIte, Nat.reduceEqDiff]
 refine hK1 _ _ ?_; try clear hK1 K1
 refine zad (fun K2 hK2 => ?_)
 refine zab ?_
 refine zac (fun K hK r => ?_)
 simp only [zaP _ bd9, List.map_toArray, List.map_cons, List.map_nil, eX, ↓reduceIte, Nat.reduceEqDiff, Int.reduceToNat]
 refine (new_ok _).mono ?_
 rintro v5 H5 ⟨b, rfl, hS5⟩
 have l5 := hS5.old
 try simp only [eX, ↓reduceIte, Nat.reduceEqDiff, Int.reduceToNat]
 refine hK _ _ ?_; clear hK K
 refine zaE rfl ?_
 refine zae ?_
 try simp only [Ex.thnH, Ex.inBlockH, ↓reduceIte, Nat.reduceEqDiff]
 refine hK2 _ _ ?_; try clear hK2 K2
 refine zad (fun K3 hK3 => ?_)
 refine zad (fun K4 hK4 => ?_)
 refine zab ?_
 refine zac (fun K hK r => ?_)
 simp only [x_buildSlice, List.map_toArray, List.map_cons, List.map_nil, eX, ↓reduceIte, Nat.reduceEqDiff, Int.reduceToNat]
 refine Lt_buildSlice (vs := [_, _, _]) Try.underlying55 sz3 zr3 rfl bsA (by first | decide | (simp; done)) ?_
 simp only [List.flatMap_cons, List.flatMap_nil, Value.cells, List.append_nil, List.cons_append, List.nil_append, List.length_cons, List.length_nil, Nat.zero_add, Nat.reduceAdd]
 intro b6 hb6
 have f6_H5 : H5 b6 = none := zam lhA hb6
 have hS6' := hS5.put (b := b6) (.inl hb6) (.cells #[.int .i64 5, .int .i64 3, .int .i64 5] 3)
 obtain ⟨G6, hG6⟩ : ∃ G6 : Hp, G6 = G.upd b6 (.cells #[.int .i64 5, .int .i64 3, .int .i64 5] 3) := ⟨_, rfl⟩
 rw [← hG6] at hS6'
 have hS6 : StX (IX b (alE 0)) G6 _ := hS6'
 have hg6 : G6 b6 = some (.cells #[.int .i64 5, .int .i64 3, .int .i64 5] 3) := by rw [hG6]; exact zan _ _ _
 have lG6 : Le G G6 := by rw [hG6]; exact zao (Le.refl _) (zam l5 hb6)
 try simp only [eX, ↓reduceIte, Nat.reduceEqDiff, Int.reduceToNat]
 refine hK _ _ ?_; clear hK K
 refine zac (fun K hK r => ?_)
 simp only [zaG, l_len, List.map_toArray, List.map_cons, List.map_nil, zaH _ _ Try.underlying55, eX, ↓reduceIte, Nat.reduceEqDiff, Int.reduceToNat]
 refine hK _ _ ?_; clear hK K
 refine zaj rfl ?_
 refine zae ?_
 try simp only [Ex.thnH, Ex.inBlockH, ↓reduceIte, Nat.reduceEqDiff]
 refine hK4 _ _ ?_; try clear hK4 K4
 refine CW_block ?_
 refine CW_loop (fun m e H_ => ∃ k : Nat, k ≤ 3 ∧ m = 3 - k ∧ StX (IX b (alE k)) G6 H_ ∧ Env.has [(1, .pointer (some ⟨b, 0, none⟩)), (6, .slice (some ⟨b6, 0, none⟩) 3 3), (7, .int .i64 3), (8, .int .i64 k)] e) (3) ?_ ?_
 ·skip
  exact ⟨0, by omega, rfl, hS6, rfl, rfl, rfl, rfl, trivial⟩
 intro m_ e_ H_ hI_
 obtain ⟨k, hk, rfl, hS_, he⟩ := hI_
 have hk6 := hS_.old _ _ hg6
 refine CW_env he.sub ?_; clear he e_
 refine zad (fun K5 hK5 => ?_)
 refine zab ?_
 refine zac (fun K hK r => ?_)
 simp (disch := (first | omega | decide)) only [zaM, zaN, b_lss, zat, zau, zav, zax, zaz, zay, Bool.not_true, Bool.not_false, eX, ↓reduceIte, Nat.reduceEqDiff, Int.reduceToNat]
 refine hK _ _ ?_; clear hK K
 refine zae ?_
 try simp only [Ex.thnH, Ex.inBlockH, ↓reduceIte, Nat.reduceEqDiff]
 refine hK5 _ _ ?_; try clear hK5 K5
 refine zad (fun K6 hK6 => ?_)
 refine CW_cond (fun r => rfl) (fun c9 => ?_) (fun c9 => ?_)
 ·first
  |(exfalso; exact cnA c9; done)
  |skip
   (try simp only [decide_eq_true_eq, decide_eq_false_iff_not, Bool.not_eq_true, Bool.not_eq_false, Bool.and_eq_true, Bool.or_eq_true, Bool.or_eq_false_iff, Bool.not_eq_eq_eq_not, Bool.not_true, Bool.not_false] at c9)
   have hk3 : k < 3 := by omega
   refine CW_skip ?_
   try simp only [Ex.thnH, Ex.inBlockH, ↓reduceIte, Nat.reduceEqDiff]
   refine hK6 _ _ ?_; try clear hK6 K6
   refine zad (fun K7 hK7 => ?_)
   refine CW_block ?_
   refine zad (fun K8 hK8 => ?_)
   refine zab ?_
   refine zaj rfl ?_
   refine zac (fun K hK r => ?_)
   simp only [zaF, eX, ↓reduceIte, Nat.reduceEqDiff, Int.reduceToNat]
   refine Lt_indexS Try.underlying55 sz3 ixA ixA ?_
   try simp only [zaC, Nat.mul_one, Nat.zero_add, Int.reduceToNat]
   try simp only [eX, ↓reduceIte, Nat.reduceEqDiff, Int.reduceToNat]
   refine hK _ _ ?_; clear hK K
   refine zac (fun K hK r => ?_)
   simp only [zas, eX, ↓reduceIte, Nat.reduceEqDiff, Int.reduceToNat]
   refine zag Try.underlying3 rfl hk6 (v := .int .i64 ([5, 3, 5].getD k 0)) (by match k, hk3 with | 0, _ => rfl | 1, _ => rfl | 2, _ => rfl) ?_
   refine hK _ _ ?_; clear hK K
   refine zaE rfl ?_
   refine zaE rfl ?_
   refine zae ?_
   try simp only [Ex.thnH, Ex.inBlockH, ↓reduceIte, Nat.reduceEqDiff]
   refine hK8 _ _ ?_; try clear hK8 K8
   refine zad (fun K9 hK9 => ?_)
   refine zab ?_
   refine zaj rfl ?_
   refine zaj rfl ?_
   refine zac (fun K hK r => ?_)
   simp (disch := (first | omega | decide)) only [zaM, zaN, b_add, zaI, zaL, zaK, wrap_u8, eX, ↓reduceIte, Nat.reduceEqDiff, Int.reduceToNat]
   refine hK _ _ ?_; clear hK K
   refine zac (fun K hK r => ?_)
   simp only [x_build, bp44, List.map_toArray, List.map_cons, List.map_nil, eX, ↓reduceIte, Nat.reduceEqDiff, Int.reduceToNat]
   rw [fill_one rfl clA bdA]
   rw [fill_one rfl clA bdA]
   simp only [fill_nil, zaf, List.setIfInBounds_toArray, List.set_cons_zero, List.set_cons_succ]
   try simp only [eX, ↓reduceIte, Nat.reduceEqDiff, Int.reduceToNat]
   refine hK _ _ ?_; clear hK K
   refine zaj rfl ?_
   refine zac (fun K hK r => ?_)
   simp only [x_build, List.map_toArray, List.map_cons, List.map_nil, eX, ↓reduceIte, Nat.reduceEqDiff, Int.reduceToNat]
   rw [mkWr]
   refine hK _ _ ?_; clear hK K
   refine zac (fun K hK r => ?_)
   simp only [x_buildSlice, List.map_toArray, List.map_cons, List.map_nil, eX, ↓reduceIte, Nat.reduceEqDiff, Int.reduceToNat]
   refine Lt_buildSlice (vs := [_]) Try.underlying29 sz46 zr46 rfl bsA (by first | decide | (simp; done)) ?_
   simp only [List.flatMap_cons, List.flatMap_nil, Value.cells, List.append_nil, List.cons_append, List.nil_append, List.length_cons, List.length_nil, Nat.zero_add, Nat.reduceAdd]
   intro b19 hb19
   try have n19_b6 : b6 ≠ b19 := zal hbA hb19
   try simp only [eX, ↓reduceIte, Nat.reduceEqDiff, Int.reduceToNat]
   refine hK _ _ ?_; clear hK K
   refine zac (fun K hK r => ?_)
   simp only [zaP _ bd10, List.map_toArray, List.map_cons, List.map_nil, eX, ↓reduceIte, Nat.reduceEqDiff, Int.reduceToNat]
   have hS19 := hS_.put (b := b19) (.inl hb19) (.cells (wrs [(⟨2, (k : Int) + 1, [5, 3, 5].getD k 0, false⟩ : Wr)]).toArray 46)
   refine (tell_ok _ _ b (alE k) hS19 (some ⟨b19, 0, none⟩) 1 [⟨2, (k : Int) + 1, [5, 3, 5].getD k 0, false⟩] ⟨rfl, .inr ⟨b19, 0, 1, _, _, _, rfl, zan _ _ _, by simp, by simp⟩⟩ k (alE_sz k hk) (by simp; omega)).mono ?_
   rintro v20 H20 ⟨rfl, hS20⟩
   rw [alE_step hk3] at hS20
   rw [show errV (if [(⟨2, (k : Int) + 1, [5, 3, 5].getD k 0, false⟩ : Wr)].any farW = true then some 1 else none) = .nilIface from rfl]
   try simp only [eX, ↓reduceIte, Nat.reduceEqDiff, Int.reduceToNat]
   refine hK _ _ ?_; clear hK K
   refine zac (fun K hK r => ?_)
   simp only [zaM, zaN, g_bool, g_string, g_pointer, g_slice, g_map, g_func, g_nilFunc, g_err, g_iface, g_nil_iface, g_nil_r, g_nil_l, eX, ↓reduceIte, Nat.reduceEqDiff, Int.reduceToNat]
   first | rw [b_err_neq _ _ Try.underlying31] | (rw [e_neq _ _ _ _ (by simp), q_equal]; first | rw [q_iface_nil _ _ _ Try.underlying31] | rw [q_nil_iface _ _ _ Try.underlying31] | rw [q_nil_nil _ _ _ Try.underlying31])
   try simp only [eX, ↓reduceIte, Nat.reduceEqDiff, Int.reduceToNat]
   refine hK _ _ ?_; clear hK K
   refine zae ?_
   try simp only [Ex.thnH, Ex.inBlockH, ↓reduceIte, Nat.reduceEqDiff]
   refine hK9 _ _ ?_; try clear hK9 K9
   refine CW_cond (fun r => rfl) (fun c21 => ?_) (fun c21 => ?_)
   ·first
    |(exfalso; exact cnA c21; done)
    |skip
     (try simp only [decide_eq_true_eq, decide_eq_false_iff_not, Bool.not_eq_true, Bool.not_eq_false, Bool.and_eq_true, Bool.or_eq_true, Bool.or_eq_false_iff, Bool.not_eq_eq_eq_not, Bool.not_true, Bool.not_false] at c21)
     refine zad (fun K10 hK10 => ?_)
     refine zab ?_
     refine zaE rfl ?_
     refine zae ?_
     try simp only [Ex.thnH, Ex.inBlockH, ↓reduceIte, Nat.reduceEqDiff]
     refine hK10 _ _ ?_; try clear hK10 K10
     refine CW_ret ?_
     try simp only [Ex.thnH, Ex.inBlockH, ↓reduceIte, Nat.reduceEqDiff]
     skip
   ·first
    |(exfalso; exact cnA c21; done)
    |skip
     (try simp only [decide_eq_true_eq, decide_eq_false_iff_not, Bool.not_eq_true, Bool.not_eq_false, Bool.and_eq_true, Bool.or_eq_true, Bool.or_eq_false_iff, Bool.not_eq_eq_eq_not, Bool.not_true, Bool.not_false] at c21)
     refine CW_skip ?_
     try simp only [Ex.thnH, Ex.inBlockH, ↓reduceIte, Nat.reduceEqDiff]
     refine hK7 _ _ ?_; try clear hK7 K7
     refine zab ?_
     refine zac (fun K hK r => ?_)
     simp (disch := (first | omega | decide)) only [zaM, zaN, b_add, zaI, zaL, zaK, wrap_u8, eX, ↓reduceIte, Nat.reduceEqDiff, Int.reduceToNat]
     refine hK _ _ ?_; clear hK K
     refine zaj rfl ?_
     refine zae ?_
     try simp only [Ex.thnH, Ex.inBlockH, ↓reduceIte, Nat.reduceEqDiff]
     refine ⟨3 - (k + 1), by omega, k + 1, by omega, rfl, hS20.less (zao (Le.refl _) (zam hS_.old hb19)), rfl, rfl, rfl, rfl, trivial⟩
 ·first
  |(exfalso; exact cnA c9; done)
  |skip
   (try simp only [decide_eq_true_eq, decide_eq_false_iff_not, Bool.not_eq_true, Bool.not_eq_false, Bool.and_eq_true, Bool.or_eq_true, Bool.or_eq_false_iff, Bool.not_eq_eq_eq_not, Bool.not_true, Bool.not_false] at c9)
   obtain rfl : k = 3 := by omega
   refine CW_exit ?_
   try simp only [Ex.thnH, Ex.inBlockH, ↓reduceIte, Nat.reduceEqDiff]
   refine hK3 _ _ ?_; try clear hK3 K3
   refine zad (fun K11 hK11 => ?_)
   refine zab ?_
   refine zaj rfl ?_
   refine zac (fun K hK r => ?_)
   simp only [zaP _ bd12, List.map_toArray, List.map_cons, List.map_nil, eX, ↓reduceIte, Nat.reduceEqDiff, Int.reduceToNat]
   have hX_ := xv_of hS_
   refine (top_ok _ _ _ hX_ 2 2 (by rw [al_tab]; decide) alS alS_perm alS_pair).mono ?_
   rintro v24 H24 ⟨hl24, rs24, ho24, hr24⟩
   have ho24' : OwnS H24 38 2 v24 2 (ens [⟨5, 1⟩, ⟨5, 3⟩]) rs24 := ho24
   clear ho24
   obtain ⟨ta, tc, rfl⟩ := ho24'.holds.form
   obtain ⟨bw, ow, cw, Tw, Fw, ew, hbw, hsw, atw⟩ := ho24'.holds.at (by decide)
   have hX24 := hX_.le hl24
   try simp only [eX, ↓reduceIte, Nat.reduceEqDiff, Int.reduceToNat]
   refine hK _ _ ?_; clear hK K
   refine zaE rfl ?_
   refine zae ?_
   try simp only [Ex.thnH, Ex.inBlockH, ↓reduceIte, Nat.reduceEqDiff]
   refine hK11 _ _ ?_; try clear hK11 K11
   refine zad (fun K12 hK12 => ?_)
   refine zab ?_
   refine zaj rfl ?_
   refine zac (fun K hK r => ?_)
   simp only [zaG, l_len, List.map_toArray, List.map_cons, List.map_nil, zaH _ _ Try.underlying33, eX, ↓reduceIte, Nat.reduceEqDiff, Int.reduceToNat]
   refine hK _ _ ?_; clear hK K
   refine zac (fun K hK r => ?_)
   simp (disch := (first | omega | decide)) only [zaM, zaN, b_eql, zat, zau, zav, zax, zaz, zay, Bool.not_true, Bool.not_false, eX, ↓reduceIte, Nat.reduceEqDiff, Int.reduceToNat]
   refine hK _ _ ?_; clear hK K
   refine zaj rfl ?_
   (first | refine OW_split (d := 28) rfl (fun g28 => ?_) (fun g28 => ?_) | skip)
   all_goals try (exfalso; exact cnA g28)
   all_goals (try simp only [decide_eq_true_eq, decide_eq_false_iff_not, Bool.not_eq_true, Bool.not_eq_false, Bool.and_eq_true, Bool.or_eq_true, Bool.or_eq_false_iff, Bool.not_eq_eq_eq_not, Bool.not_true, Bool.not_false] at g28)
   all_goals
    try simp only [eX, ↓reduceIte, Nat.reduceEqDiff, Int.reduceToNat]
    first
    |refine zaq rfl (zaa (by decide)) rfl (fun K hK r => ?_)
     simp only [zaA, eX, ↓reduceIte, Nat.reduceEqDiff, Int.reduceToNat]
     refine hK _ _ ?_; clear hK K
    |refine zar rfl (zaa (by decide)) rfl ?_
     simp only [eX, ↓reduceIte, Nat.reduceEqDiff, Int.reduceToNat]
    first
    |refine zaq rfl (zaa (by decide)) rfl (fun K hK r => ?_)
     simp only [zaF, eX, ↓reduceIte, Nat.reduceEqDiff, Int.reduceToNat]
     refine Lt_indexSof Try.underlying33 sz38 ew ixA ixA ?_
     try simp only [Int.toNat_natCast]
     refine hK _ _ ?_; clear hK K
    |refine zar rfl (zaa (by decide)) rfl ?_
     simp only [eX, ↓reduceIte, Nat.reduceEqDiff, Int.reduceToNat]
    first
    |refine zaq rfl (zaa (by decide)) rfl (fun K hK r => ?_)
     simp only [zas, eX, ↓reduceIte, Nat.reduceEqDiff, Int.reduceToNat]
     refine Lt_loadAtA Try.underlying38 rfl sz38 hbw (by omega) ?_
     rw [ext_at En.len atw rfl 0 (by decide) hsw]
     rw [show (([⟨5, 1⟩, ⟨5, 3⟩] : List En).getD 0 default).c.toArray = #[.int .i64 5, .int .i64 1] from rfl]
     refine hK _ _ ?_; clear hK K
    |refine zar rfl (zaa (by decide)) rfl ?_
     simp only [eX, ↓reduceIte, Nat.reduceEqDiff, Int.reduceToNat]
    first
    |refine zaq rfl (zaa (by decide)) rfl (fun K hK r => ?_)
     simp only [x_build, bp38, List.map_toArray, List.map_cons, List.map_nil, eX, ↓reduceIte, Nat.reduceEqDiff, Int.reduceToNat]
     rw [fill_one rfl clA bdA]
     rw [fill_one rfl clA bdA]
     simp only [fill_nil, zaf, List.setIfInBounds_toArray, List.set_cons_zero, List.set_cons_succ]
     try simp only [eX, ↓reduceIte, Nat.reduceEqDiff, Int.reduceToNat]
     refine hK _ _ ?_; clear hK K
    |refine zar rfl (zaa (by decide)) rfl ?_
     simp only [eX, ↓reduceIte, Nat.reduceEqDiff, Int.reduceToNat]
    first
    |refine zaq rfl (zaa (by decide)) rfl (fun K hK r => ?_)
     simp only [zaM, g_agg _ _ _ _ _ _ eqg38, eX, ↓reduceIte, Nat.reduceEqDiff, Int.reduceToNat]
     rw [e_eql _ _ _ _ (by simp)]
     rw [q_equal, qs38]
     try simp only [eX, ↓reduceIte, Nat.reduceEqDiff, Int.reduceToNat]
     refine hK _ _ ?_; clear hK K
    |refine zar rfl (zaa (by decide)) rfl ?_
     simp only [eX, ↓reduceIte, Nat.reduceEqDiff, Int.reduceToNat]
    refine zac (fun K hK r => ?_)
    simp only [x_pick, l_asBool, HL.ite_bool, if_true, if_false, Bool.false_eq_true, eX, ↓reduceIte, Nat.reduceEqDiff, Int.reduceToNat]
    refine hK _ _ ?_; clear hK K
    refine zaj rfl ?_
    (first | refine OW_split (d := 35) rfl (fun g35 => ?_) (fun g35 => ?_) | skip)
    all_goals try (exfalso; exact cnA g35)
    all_goals (try simp only [decide_eq_true_eq, decide_eq_false_iff_not, Bool.not_eq_true, Bool.not_eq_false, Bool.and_eq_true, Bool.or_eq_true, Bool.or_eq_false_iff, Bool.not_eq_eq_eq_not, Bool.not_true, Bool.not_false] at g35)
    all_goals
     try simp only [eX, ↓reduceIte, Nat.reduceEqDiff, Int.reduceToNat]
     first
     |refine zaq rfl (zaa (by decide)) rfl (fun K hK r => ?_)
      simp only [zaA, eX, ↓reduceIte, Nat.reduceEqDiff, Int.reduceToNat]
      refine hK _ _ ?_; clear hK K
     |refine zar rfl (zaa (by decide)) rfl ?_
      simp only [eX, ↓reduceIte, Nat.reduceEqDiff, Int.reduceToNat]
     first
     |refine zaq rfl (zaa (by decide)) rfl (fun K hK r => ?_)
      simp only [zaF, eX, ↓reduceIte, Nat.reduceEqDiff, Int.reduceToNat]
      refine Lt_indexSof Try.underlying33 sz38 ew ixA ixA ?_
      try simp only [Int.toNat_natCast]
      refine hK _ _ ?_; clear hK K
     |refine zar rfl (zaa (by decide)) rfl ?_
      simp only [eX, ↓reduceIte, Nat.reduceEqDiff, Int.reduceToNat]
     first
     |refine zaq rfl (zaa (by decide)) rfl (fun K hK r => ?_)
      simp only [zas, eX, ↓reduceIte, Nat.reduceEqDiff, Int.reduceToNat]
      refine Lt_loadAtA Try.underlying38 rfl sz38 hbw (by omega) ?_
      rw [ext_at En.len atw rfl 1 (by decide) hsw]
      rw [show (([⟨5, 1⟩, ⟨5, 3⟩] : List En).getD 1 default).c.toArray = #[.int .i64 5, .int .i64 3] from rfl]
      refine hK _ _ ?_; clear hK K
     |refine zar rfl (zaa (by decide)) rfl ?_
      simp only [eX, ↓reduceIte, Nat.reduceEqDiff, Int.reduceToNat]
     first
     |refine zaq rfl (zaa (by decide)) rfl (fun K hK r => ?_)
      simp only [x_build, bp38, List.map_toArray, List.map_cons, List.map_nil, eX, ↓reduceIte, Nat.reduceEqDiff, Int.reduceToNat]
      rw [fill_one rfl clA bdA]
      rw [fill_one rfl clA bdA]
      simp only [fill_nil, zaf, List.setIfInBounds_toArray, List.set_cons_zero, List.set_cons_succ]
      try simp only [eX, ↓reduceIte, Nat.reduceEqDiff, Int.reduceToNat]
      refine hK _ _ ?_; clear hK K
     |refine zar rfl (zaa (by decide)) rfl ?_
      simp only [eX, ↓reduceIte, Nat.reduceEqDiff, Int.reduceToNat]
     first
     |refine zaq rfl (zaa (by decide)) rfl (fun K hK r => ?_)
      simp only [zaM, g_agg _ _ _ _ _ _ eqg38, eX, ↓reduceIte, Nat.reduceEqDiff, Int.reduceToNat]
      rw [e_eql _ _ _ _ (by simp)]
      rw [q_equal, qs38]
      try simp only [eX, ↓reduceIte, Nat.reduceEqDiff, Int.reduceToNat]
      refine hK _ _ ?_; clear hK K
     |refine zar rfl (zaa (by decide)) rfl ?_
      simp only [eX, ↓reduceIte, Nat.reduceEqDiff, Int.reduceToNat]
     refine zac (fun K hK r => ?_)
     simp only [x_pick, l_asBool, HL.ite_bool, if_true, if_false, Bool.false_eq_true, eX, ↓reduceIte, Nat.reduceEqDiff, Int.reduceToNat]
     refine hK _ _ ?_; clear hK K
     refine zaj rfl ?_
     (first | refine OW_split (d := 42) rfl (fun g42 => ?_) (fun g42 => ?_) | skip)
     all_goals try (exfalso; exact cnA g42)
     all_goals (try simp only [decide_eq_true_eq, decide_eq_false_iff_not, Bool.not_eq_true, Bool.not_eq_false, Bool.and_eq_true, Bool.or_eq_true, Bool.or_eq_false_iff, Bool.not_eq_eq_eq_not, Bool.not_true, Bool.not_false] at g42)
     all_goals
      try simp only [eX, ↓reduceIte, Nat.reduceEqDiff, Int.reduceToNat]
      first
      |refine zaq rfl (zaa (by decide)) rfl (fun K hK r => ?_)
       simp only [zaA, eX, ↓reduceIte, Nat.reduceEqDiff, Int.reduceToNat]
       refine hK _ _ ?_; clear hK K
      |refine zar rfl (zaa (by decide)) rfl ?_
       simp only [eX, ↓reduceIte, Nat.reduceEqDiff, Int.reduceToNat]
      first
      |refine zaq rfl (zaa (by decide)) rfl (fun K hK r => ?_)
       simp only [zaP _ bd14, List.map_toArray, List.map_cons, List.map_nil, eX, ↓reduceIte, Nat.reduceEqDiff, Int.reduceToNat]
       refine (ixRank _ _ _ hX24 2 5 (by rw [al_tab]; decide)).mono ?_
       rintro v44 H44 ⟨rfl, hl44⟩
       rw [show ((fromN (tabE (alE 3) 2) 5 : Nat) : Int) = 1 from by rw [al_tab]; rfl]
       try simp only [eX, ↓reduceIte, Nat.reduceEqDiff, Int.reduceToNat]
       refine hK _ _ ?_; clear hK K
      |refine zar rfl (zaa (by decide)) rfl ?_
       simp only [eX, ↓reduceIte, Nat.reduceEqDiff, Int.reduceToNat]
      first
      |refine zaq rfl (zaa (by decide)) rfl (fun K hK r => ?_)
       simp (disch := (first | omega | decide)) only [zaM, zaN, b_eql, zat, zau, zav, zax, zaz, zay, Bool.not_true, Bool.not_false, eX, ↓reduceIte, Nat.reduceEqDiff, Int.reduceToNat]
       refine hK _ _ ?_; clear hK K
      |refine zar rfl (zaa (by decide)) rfl ?_
       simp only [eX, ↓reduceIte, Nat.reduceEqDiff, Int.reduceToNat]
      refine zac (fun K hK r => ?_)
      simp only [x_pick, l_asBool, HL.ite_bool, if_true, if_false, Bool.false_eq_true, eX, ↓reduceIte, Nat.reduceEqDiff, Int.reduceToNat]
      refine hK _ _ ?_; clear hK K
      refine zaj rfl ?_
      (first | refine OW_split (d := 47) rfl (fun g47 => ?_) (fun g47 => ?_) | skip)
      all_goals try (exfalso; exact cnA g47)
      all_goals (try simp only [decide_eq_true_eq, decide_eq_false_iff_not, Bool.not_eq_true, Bool.not_eq_false, Bool.and_eq_true, Bool.or_eq_true, Bool.or_eq_false_iff, Bool.not_eq_eq_eq_not, Bool.not_true, Bool.not_false] at g47)
      all_goals
       try simp only [eX, ↓reduceIte, Nat.reduceEqDiff, Int.reduceToNat]
       first
       |refine zaq rfl (zaa (by decide)) rfl (fun K hK r => ?_)
        simp only [zaA, eX, ↓reduceIte, Nat.reduceEqDiff, Int.reduceToNat]
        refine hK _ _ ?_; clear hK K
       |refine zar rfl (zaa (by decide)) rfl ?_
        simp only [eX, ↓reduceIte, Nat.reduceEqDiff, Int.reduceToNat]
       first
       |refine zaq rfl (zaa (by decide)) rfl (fun K hK r => ?_)
        simp only [zaP _ bd13, List.map_toArray, List.map_cons, List.map_nil, eX, ↓reduceIte, Nat.reduceEqDiff, Int.reduceToNat]
        refine (ixLen _ _ _ (hX24.le hl44) 2).mono ?_
        rintro v49 H49 ⟨rfl, hl49⟩
        rw [show (((tabE (alE 3) 2).length : Nat) : Int) = 3 from by rw [al_tab]; rfl]
        try simp only [eX, ↓reduceIte, Nat.reduceEqDiff, Int.reduceToNat]
        refine hK _ _ ?_; clear hK K
       |refine zar rfl (zaa (by decide)) rfl ?_
        simp only [eX, ↓reduceIte, Nat.reduceEqDiff, Int.reduceToNat]
       first
       |refine zaq rfl (zaa (by decide)) rfl (fun K hK r => ?_)
        simp (disch := (first | omega | decide)) only [zaM, zaN, b_eql, zat, zau, zav, zax, zaz, zay, Bool.not_true, Bool.not_false, eX, ↓reduceIte, Nat.reduceEqDiff, Int.reduceToNat]
        refine hK _ _ ?_; clear hK K
       |refine zar rfl (zaa (by decide)) rfl ?_
        simp only [eX, ↓reduceIte, Nat.reduceEqDiff, Int.reduceToNat]
       refine zac (fun K hK r => ?_)
       simp only [x_pick, l_asBool, HL.ite_bool, if_true, if_false, Bool.false_eq_true, eX, ↓reduceIte, Nat.reduceEqDiff, Int.reduceToNat]
       refine hK _ _ ?_; clear hK K
       refine zaE rfl ?_
       refine zae ?_
       try simp only [Ex.thnH, Ex.inBlockH, ↓reduceIte, Nat.reduceEqDiff]
       refine hK12 _ _ ?_; try clear hK12 K12
       refine CW_ret ?_
       try simp only [Ex.thnH, Ex.inBlockH, ↓reduceIte, Nat.reduceEqDiff]
       refine ⟨[_], ⟨rfl, trivial⟩, G, ?_, rfl, rfl⟩
       exact Le.trans lG6 (Le.trans hS_.old (Le.trans hl24 (Le.trans hl44 hl49)))
end Go.Proofs.Ytjhohnbdhopllaa.HL
end
section
namespace Go.Proofs.Ytjhohnbdhopllaa.HL
open Go
set_option linter.unusedSimpArgs false
set_option linter.unusedVariables false
structure WL where
  a : Option Addr
  cap : Nat
  l : List Wr
deriving Inhabited
abbrev WL.c (r : WL) : List Value := [.slice r.a r.l.length r.cap]
theorem WL.len (r : WL) : r.c.length = 1 := rfl
def longL (R : List WL) : Bool := !(decide (R.length ≤ 31) && R.all (fun r => decide (r.l.length ≤ 20)))
def ixK (R : List WL) (k : Nat) : Nat → List En := (R.take k).foldl (fun E r => tellE E r.l) (fun _ => [])
theorem ixK_succ {R : List WL} {k : Nat} (h : k < R.length) : ixK R (k + 1) = tellE (ixK R k) (R.getD k default).l := by
  unfold ixK
  rw [take_snocA h, List.foldl_append]; rfl
def OkG (E : Nat → List En) : Prop := ∀ t, GoodE (E t) ∧ OkE (E t)
theorem OkG.none : OkG (fun _ => []) := fun t => ⟨GoodE.nil, fun e he => by cases he⟩
theorem OkE.sub {l l' : List En} (h : OkE l) (hs : ∀ e ∈ l', e ∈ l) : OkE l' := fun e he => h e (hs e he)
theorem OkG.set {E : Nat → List En} (h : OkG E) (t : Nat) {l : List En} (h1 : GoodE l) (h2 : OkE l) : OkG (setL E t l) := fun u => by
  unfold setL
  split
  · exact ⟨h1, h2⟩
  · exact h u
theorem OkG.step {E : Nat → List En} (h : OkG E) {w : Wr} (hw : w.ok) : OkG (stepE E w) := by
  obtain ⟨h1, h2⟩ := h w.t.toNat
  have h3 : OkE (outK (E w.t.toNat) w.k) := h2.sub (fun e he => (mem_outK.1 he).1)
  unfold stepE
  split
  · exact h.set _ (h1.outK _) h3
  · refine h.set _ ((h1.outK _).putE (fun x hx => outK_no x hx)) (fun e he => ?_)
    rcases mem_putE.1 he with rfl | he
    · exact ⟨hw.2.2, hw.2.1⟩
    · exact h3 e he
theorem OkG.fold {L : List Wr} : ∀ {E : Nat → List En}, OkG E → (∀ w ∈ L, w.ok) → OkG (L.foldl stepE E) := by
  induction L with
  | nil => intro E h _; exact h
  | cons w r ih => intro E h hw; exact ih (h.step (hw w (by simp))) (fun x hx => hw x (by simp [hx]))
theorem OkG.tell {E : Nat → List En} (h : OkG E) {L : List Wr} (hw : ∀ w ∈ L, w.ok) : OkG (tellE E L) := by
  unfold tellE
  split
  · exact h
  · exact h.fold hw
theorem getD_memW {R : List WL} {k : Nat} (h : k < R.length) : R.getD k default ∈ R := by
  rw [List.getD_eq_getElem?_getD, List.getElem?_eq_getElem h]; exact List.getElem_mem h
theorem ixK_ok {R : List WL} (hR : ∀ r ∈ R, ∀ w ∈ r.l, w.ok) : ∀ k, k ≤ R.length → OkG (ixK R k)
  | 0, _ => by unfold ixK; exact OkG.none
  | k + 1, h => by
    rw [ixK_succ (by omega)]
    exact (ixK_ok hR k (by omega)).tell (hR _ (getD_memW (by omega)))
theorem ixK_sz {R : List WL} (hR : ∀ r ∈ R, r.l.length ≤ 20) : ∀ k, k ≤ R.length → SzE (ixK R k) (20 * k)
  | 0, _ => by unfold ixK; exact fun t _ => by simp
  | k + 1, h => by
    rw [ixK_succ (by omega)]
    have := hR _ (getD_memW (k := k) (by omega))
    exact ((ixK_sz hR k (by omega)).tell _).up (by omega)
theorem OkG.tab {E : Nat → List En} (h : OkG E) (t : Int) : GoodE (tabE E t) ∧ OkE (tabE E t) := by
  unfold tabE
  split
  · exact h _
  · exact ⟨GoodE.nil, fun e he => by cases he⟩
theorem SzE.tab {E : Nat → List En} {n : Nat} (h : SzE E n) (t : Int) : (tabE E t).length ≤ n := by
  unfold tabE
  split
  · exact h _ (by omega)
  · simp
def insG (e : En) : List En → List En
  | [] => [e]
  | x :: r => if glE e x then e :: x :: r else x :: insG e r
def sortG : List En → List En
  | [] => []
  | x :: r => insG x (sortG r)
theorem insG_perm (e : En) : ∀ l, (insG e l).Perm (e :: l)
  | [] => List.Perm.refl _
  | x :: r => by
    unfold insG
    split
    · exact List.Perm.refl _
    · exact ((insG_perm e r).cons x).trans (List.Perm.swap e x r)
theorem sortG_perm : ∀ l, (sortG l).Perm l
  | [] => List.Perm.refl _
  | x :: r => (insG_perm x _).trans ((sortG_perm r).cons x)
theorem insG_pair {e : En} : ∀ {l : List En}, l.Pairwise glE → e ∉ l → (insG e l).Pairwise glE
  | [], _, _ => List.pairwise_singleton _ _
  | x :: r, h, hn => by
    obtain ⟨h1, h2⟩ := List.pairwise_cons.1 h
    unfold insG
    split
    · rename_i hg
      refine List.pairwise_cons.2 ⟨fun y hy => ?_, h⟩
      rcases List.mem_cons.1 hy with rfl | hy
      · exact hg
      · exact glE_trans hg (h1 y hy)
    · rename_i hg
      refine List.pairwise_cons.2 ⟨fun y hy => ?_, insG_pair h2 (fun hh => hn (by simp [hh]))⟩
      rcases List.mem_cons.1 ((insG_perm e r).mem_iff.1 hy) with rfl | hy
      · rcases glE_tri y x with h9 | h9 | h9
        · exact absurd h9 hg
        · exact absurd (by rw [h9]; simp) hn
        · exact h9
      · exact h1 y hy
theorem sortG_pair : ∀ {l : List En}, Rise l → (sortG l).Pairwise glE
  | [], _ => List.Pairwise.nil
  | x :: r, h => by
    obtain ⟨h1, h2⟩ := List.pairwise_cons.1 h
    refine insG_pair (sortG_pair h2) (fun hh => ?_)
    exact absurd (h1 x ((sortG_perm r).mem_iff.1 hh)) (En.lt_irrefl _)
theorem at_map {l : List En} {i : Nat} (h : i < l.length) : (l.map En.v)[i]? = some (at_ l i).v := by
  rw [List.getElem?_map, List.getElem?_eq_getElem h, at_get h]; rfl
theorem top_rev {S L : List En} (hp : S.Perm L) (hS : S.Pairwise glE) (hL : Rise L) {i : Nat} (hi : i < L.length) : (at_ S (L.length - 1 - i)).v = (at_ L i).v := by
  have hl := hp.length_eq
  have e : S.map En.v = (L.map En.v).reverse := by
    refine List.Perm.eq_of_pairwise (le := fun a b => b ≤ a) (fun a b _ _ h1 h2 => by omega) ?_ ?_ ((hp.map En.v).trans (List.reverse_perm _).symm)
    · refine List.pairwise_map.2 (hS.imp (fun {a b} h => ?_))
      unfold glE at h; omega
    · rw [List.pairwise_reverse]
      refine List.pairwise_map.2 (hL.imp (fun {a b} h => ?_))
      unfold En.lt at h; omega
  have h1 := at_map (l := S) (i := L.length - 1 - i) (by omega)
  rw [e, List.getElem?_reverse (by rw [List.length_map]; omega), List.length_map, show L.length - 1 - (L.length - 1 - i) = i from by omega, at_map hi] at h1
  injection h1 with h1
  exact h1.symm
theorem rise_at {L : List En} (hL : Rise L) {i j : Nat} (hi : i < j) (hj : j < L.length) : (at_ L i).lt (at_ L j) := by
  rw [at_get (by omega), at_get hj]
  exact List.pairwise_iff_getElem.1 hL i j (by omega) hj hi
theorem mem_take_at {L : List En} {i n : Nat} (h : i < n) (hl : i < L.length) : at_ L i ∈ L.take n := by
  have := at_mem (l := L.take n) (i := i) (by rw [List.length_take]; omega)
  rw [at_take h] at this
  exact this
theorem rank_le {L : List En} (hL : Rise L) (ho : OkE L) {i : Nat} (hi : i < L.length) : fromN L (at_ L i).v ≤ i := by
  by_cases h : fromN L (at_ L i).v ≤ i
  · exact h
  · exfalso
    have h1 : at_ L i ∈ L.take (fromN L (at_ L i).v) := mem_take_at (by omega) hi
    rw [← (from_part hL ho _).1] at h1
    have := (List.mem_filter.1 h1).2
    simp at this
theorem rank_v {L : List En} (hL : Rise L) (ho : OkE L) {i : Nat} (hi : i < L.length) : (at_ L (fromN L (at_ L i).v)).v = (at_ L i).v := by
  have h0 := rank_le hL ho hi
  have h1 : at_ L (fromN L (at_ L i).v) ∈ L.drop (fromN L (at_ L i).v) := by
    rw [drop_at (by omega)]; simp
  rw [← (from_part hL ho _).2] at h1
  have h2 := (List.mem_filter.1 h1).2
  simp only [decide_eq_true_eq] at h2
  rcases Nat.lt_or_ge (fromN L (at_ L i).v) i with h | h
  · have := rise_at hL h hi
    unfold En.lt at this; omega
  · rw [show fromN L (at_ L i).v = i from by omega]
theorem rank_below {L : List En} (hL : Rise L) (ho : OkE L) {i : Nat} (hi : i < L.length) (h : 0 < fromN L (at_ L i).v) : (at_ L (fromN L (at_ L i).v - 1)).v ≠ (at_ L i).v := by
  have h0 := rank_le hL ho hi
  have h1 : at_ L (fromN L (at_ L i).v - 1) ∈ L.take (fromN L (at_ L i).v) := mem_take_at (by omega) (by omega)
  rw [← (from_part hL ho _).1] at h1
  have h2 := (List.mem_filter.1 h1).2
  simp only [decide_eq_true_eq] at h2
  omega
def killE (E : Nat → List En) (t : Int) (k : Nat) : Nat → List En := if 0 ≤ t ∧ t < 4 then setL E t.toNat ((tabE E t).drop k) else E
theorem killE_zero (E : Nat → List En) (t : Int) : killE E t 0 = E := by
  unfold killE tabE setL
  split
  · rename_i h
    funext u
    rw [List.drop_zero]
    split
    · rename_i e; rw [e]
    · rfl
  · rfl
theorem killE_tab (E : Nat → List En) (t : Int) (k : Nat) : tabE (killE E t k) t = (tabE E t).drop k := by
  unfold killE
  by_cases h : 0 ≤ t ∧ t < 4
  · rw [if_pos h]
    have e1 : ∀ X : Nat → List En, tabE X t = X t.toNat := fun X => by unfold tabE; rw [if_pos h]
    rw [e1 (setL _ _ _)]
    unfold setL
    rw [if_pos rfl]
  · rw [if_neg h]
    have e1 : tabE E t = [] := by unfold tabE; rw [if_neg h]
    rw [e1, List.drop_nil]
theorem killE_sz {E : Nat → List En} {n : Nat} (h : SzE E n) (t : Int) (k : Nat) : SzE (killE E t k) n := by
  unfold killE
  split
  · intro u hu
    unfold setL
    split
    · rw [List.length_drop]
      have := h.tab t; omega
    · exact h u hu
  · exact h
theorem outK_head {x : En} {r : List En} (h : Once (x :: r)) : outK (x :: r) x.k = r := by
  have h1 := (List.pairwise_cons.1 h).1
  unfold outK
  rw [List.filter_cons_of_neg (by simp), List.filter_eq_self.2]
  intro y hy
  simp [(h1 y hy).symm]
theorem killE_succ {E : Nat → List En} {t : Int} {k : Nat} (ho : Once (tabE E t)) (hk : k < (tabE E t).length) : tellE (killE E t k) [⟨t, (at_ (tabE E t) k).k, 0, true⟩] = killE E t (k + 1) := by
  by_cases h : 0 ≤ t ∧ t < 4
  · have hf : ([⟨t, (at_ (tabE E t) k).k, 0, true⟩] : List Wr).any farW = false := by simp [farW]; omega
    unfold tellE
    rw [if_neg (by rw [hf]; simp)]
    rw [List.foldl_cons, List.foldl_nil]
    unfold stepE
    rw [if_pos rfl]
    have e1 : killE E t k t.toNat = (tabE E t).drop k := by
      have := killE_tab E t k
      rw [← this]; unfold tabE; rw [if_pos h]
    show setL (killE E t k) t.toNat (outK (killE E t k t.toNat) (at_ (tabE E t) k).k) = _
    have h1 : Once (at_ (tabE E t) k :: (tabE E t).drop (k + 1)) := by rw [← drop_at hk]; exact ho.sublist (List.drop_sublist _ _)
    rw [e1, drop_at hk, outK_head h1]
    unfold killE
    rw [if_pos h, if_pos h]
    unfold setL
    funext u
    split <;> rfl
  · exfalso
    unfold tabE at hk
    rw [if_neg h] at hk
    simp at hk
theorem all_getD {R : List WL} {p : WL → Prop} (h : ∀ k, k < R.length → p (R.getD k default)) : ∀ r ∈ R, p r := fun r hr => by
  obtain ⟨i, hi, he⟩ := List.getElem_of_mem hr
  have := h i hi
  rw [List.getD_eq_getElem?_getD, List.getElem?_eq_getElem hi] at this
  rw [← he]; exact this
end Go.Proofs.Ytjhohnbdhopllaa.HL
end
section
namespace Go.Proofs.Ytjhohnbdhopllaa.HL
open Go Go.Proofs
set_option linter.unusedSimpArgs false
set_option linter.unusedVariables false
attribute [local irreducible] Lt Lq CW OW TW CallH
set_option maxRecDepth 100000 in
set_option maxHeartbeats 1000000 in
theorem long_ok (H : Hp) (a : Option Addr) (cap : Nat) (R : List WL) (hv : Holds H 1 (.slice a R.length cap) R.length (R.flatMap WL.c)) : CallH Try.prog 8 #[.slice a R.length cap] H (fun v H' => ∃ t, v = .bool t ∧ (t = false → R.length ≤ 31 ∧ ∀ k, k < R.length → (R.getD k default).l.length ≤ 20) ∧ H' = H) := by
 refine zaD (l := [_]) (rl := [.tmp 2]) (n := 20) Try.func8 rfl rfl rfl rfl rfl ?_
 simp only [envOf, Nat.reduceAdd]
 refine zad (fun K1 hK1 => ?_)
 refine zab ?_
 refine zaE rfl ?_
 refine zae ?_
 try simp only [Ex.thnH, Ex.inBlockH, ↓reduceIte, Nat.reduceEqDiff]
 refine hK1 _ _ ?_; try clear hK1 K1
 refine zad (fun K2 hK2 => ?_)
 refine zad (fun K3 hK3 => ?_)
 refine zab ?_
 refine zaj rfl ?_
 refine zac (fun K hK r => ?_)
 simp only [zaG, l_len, List.map_toArray, List.map_cons, List.map_nil, zaH _ _ Try.underlying22, eX, ↓reduceIte, Nat.reduceEqDiff, Int.reduceToNat]
 refine hK _ _ ?_; clear hK K
 refine zaj rfl ?_
 refine zae ?_
 try simp only [Ex.thnH, Ex.inBlockH, ↓reduceIte, Nat.reduceEqDiff]
 refine hK3 _ _ ?_; try clear hK3 K3
 refine CW_block ?_
 refine CW_loop (fun m e H_ => ∃ k : Nat, k ≤ R.length ∧ k ≤ 31 ∧ m = 31 - k ∧ (∀ j, j < k → (R.getD j default).l.length ≤ 20) ∧ H_ = H ∧ Env.has [(5, .slice a R.length cap), (6, .int .i64 R.length), (7, .int .i64 k)] e) (31) ?_ ?_
 ·skip
  exact ⟨0, by omega, by omega, by omega, (fun j hj => absurd hj (by omega)), rfl, rfl, rfl, rfl, trivial⟩
 intro m_ e_ H_ hI_
 obtain ⟨k, hk, hk31, rfl, hno, hH_, he⟩ := hI_
 have hH_ := hH_.symm; subst hH_
 refine CW_env he.sub ?_; clear he e_
 refine zad (fun K4 hK4 => ?_)
 refine zab ?_
 refine zac (fun K hK r => ?_)
 simp (disch := (first | omega | decide)) only [zaM, zaN, b_lss, zat, zau, zav, zax, zaz, zay, Bool.not_true, Bool.not_false, eX, ↓reduceIte, Nat.reduceEqDiff, Int.reduceToNat]
 refine hK _ _ ?_; clear hK K
 refine zae ?_
 try simp only [Ex.thnH, Ex.inBlockH, ↓reduceIte, Nat.reduceEqDiff]
 refine hK4 _ _ ?_; try clear hK4 K4
 refine zad (fun K5 hK5 => ?_)
 refine CW_cond (fun r => rfl) (fun c8 => ?_) (fun c8 => ?_)
 ·first
  |(exfalso; exact cnA c8; done)
  |skip
   (try simp only [decide_eq_true_eq, decide_eq_false_iff_not, Bool.not_eq_true, Bool.not_eq_false, Bool.and_eq_true, Bool.or_eq_true, Bool.or_eq_false_iff, Bool.not_eq_eq_eq_not, Bool.not_true, Bool.not_false] at c8)
   obtain ⟨bw, ow, cw, Tw, Fw, ew, hbw, hsw, atw⟩ := hv.at (by omega)
   refine CW_skip ?_
   try simp only [Ex.thnH, Ex.inBlockH, ↓reduceIte, Nat.reduceEqDiff]
   refine hK5 _ _ ?_; try clear hK5 K5
   refine zad (fun K6 hK6 => ?_)
   refine CW_block ?_
   refine zad (fun K7 hK7 => ?_)
   refine zab ?_
   refine zaj rfl ?_
   refine zac (fun K hK r => ?_)
   simp only [zaF, eX, ↓reduceIte, Nat.reduceEqDiff, Int.reduceToNat]
   refine Lt_indexSof Try.underlying22 sz29 ew ixA ixA ?_
   try simp only [Int.toNat_natCast]
   refine hK _ _ ?_; clear hK K
   refine zac (fun K hK r => ?_)
   simp only [zas, eX, ↓reduceIte, Nat.reduceEqDiff, Int.reduceToNat]
   refine zag Try.underlying29 rfl hbw (v := .slice (R.getD k default).a (R.getD k default).l.length (R.getD k default).cap) (by first | exact cell_at WL.len atw rfl k (by omega) 0 (by decide) | (rw [cell_at WL.len atw rfl k (by omega) 0 (by decide)]; rfl)) ?_
   refine hK _ _ ?_; clear hK K
   refine zaE rfl ?_
   refine zaE rfl ?_
   refine zae ?_
   try simp only [Ex.thnH, Ex.inBlockH, ↓reduceIte, Nat.reduceEqDiff]
   refine hK7 _ _ ?_; try clear hK7 K7
   refine zad (fun K8 hK8 => ?_)
   refine zab ?_
   refine zaj rfl ?_
   refine zac (fun K hK r => ?_)
   simp (disch := (first | omega | decide)) only [zaM, zaN, b_gtr, zat, zau, zav, zax, zaz, zay, Bool.not_true, Bool.not_false, eX, ↓reduceIte, Nat.reduceEqDiff, Int.reduceToNat]
   refine hK _ _ ?_; clear hK K
   refine zaj rfl ?_
   (first | refine OW_split (d := 14) rfl (fun g14 => ?_) (fun g14 => ?_) | skip)
   all_goals try (exfalso; exact cnA g14)
   all_goals (try simp only [decide_eq_true_eq, decide_eq_false_iff_not, Bool.not_eq_true, Bool.not_eq_false, Bool.and_eq_true, Bool.or_eq_true, Bool.or_eq_false_iff, Bool.not_eq_eq_eq_not, Bool.not_true, Bool.not_false] at g14)
   all_goals
    try simp only [eX, ↓reduceIte, Nat.reduceEqDiff, Int.reduceToNat]
    first
    |refine zaq rfl (zaa (by decide)) rfl (fun K hK r => ?_)
     simp only [zaA, eX, ↓reduceIte, Nat.reduceEqDiff, Int.reduceToNat]
     refine hK _ _ ?_; clear hK K
    |refine zar rfl (zaa (by decide)) rfl ?_
     simp only [eX, ↓reduceIte, Nat.reduceEqDiff, Int.reduceToNat]
    first
    |refine zaq rfl (zaa (by decide)) rfl (fun K hK r => ?_)
     simp only [zaG, l_len, List.map_toArray, List.map_cons, List.map_nil, zaH _ _ Try.underlying29, eX, ↓reduceIte, Nat.reduceEqDiff, Int.reduceToNat]
     refine hK _ _ ?_; clear hK K
    |refine zar rfl (zaa (by decide)) rfl ?_
     simp only [eX, ↓reduceIte, Nat.reduceEqDiff, Int.reduceToNat]
    first
    |refine zaq rfl (zaa (by decide)) rfl (fun K hK r => ?_)
     simp (disch := (first | omega | decide)) only [zaM, zaN, b_gtr, zat, zau, zav, zax, zaz, zay, Bool.not_true, Bool.not_false, eX, ↓reduceIte, Nat.reduceEqDiff, Int.reduceToNat]
     refine hK _ _ ?_; clear hK K
    |refine zar rfl (zaa (by decide)) rfl ?_
     simp only [eX, ↓reduceIte, Nat.reduceEqDiff, Int.reduceToNat]
    refine zac (fun K hK r => ?_)
    simp only [x_pick, l_asBool, HL.ite_bool, if_true, if_false, Bool.false_eq_true, eX, ↓reduceIte, Nat.reduceEqDiff, Int.reduceToNat]
    refine hK _ _ ?_; clear hK K
    refine zae ?_
    try simp only [Ex.thnH, Ex.inBlockH, ↓reduceIte, Nat.reduceEqDiff]
    refine hK8 _ _ ?_; try clear hK8 K8
    refine CW_cond (fun r => rfl) (fun c18 => ?_) (fun c18 => ?_)
    ·first
     |(exfalso; exact cnA c18; done)
     |skip
      skip
      refine zad (fun K9 hK9 => ?_)
      refine zab ?_
      refine zaE rfl ?_
      refine zae ?_
      try simp only [Ex.thnH, Ex.inBlockH, ↓reduceIte, Nat.reduceEqDiff]
      refine hK9 _ _ ?_; try clear hK9 K9
      refine CW_ret ?_
      try simp only [Ex.thnH, Ex.inBlockH, ↓reduceIte, Nat.reduceEqDiff]
      exact ⟨[_], ⟨rfl, trivial⟩, H, lhA, true, rfl, (fun h => by cases h), rfl⟩
    ·first
     |(exfalso; exact cnA c18; done)
     |skip
      have hlast : (R.getD k default).l.length ≤ 20 ∧ k ≤ 30 := by first | omega | (simp only [decide_eq_false_iff_not] at *; omega) | (cases c18; done)
      have hk41 := hlast.2
      refine CW_skip ?_
      try simp only [Ex.thnH, Ex.inBlockH, ↓reduceIte, Nat.reduceEqDiff]
      refine hK6 _ _ ?_; try clear hK6 K6
      refine zab ?_
      refine zac (fun K hK r => ?_)
      simp (disch := (first | omega | decide)) only [zaM, zaN, b_add, zaI, zaL, zaK, wrap_u8, eX, ↓reduceIte, Nat.reduceEqDiff, Int.reduceToNat]
      refine hK _ _ ?_; clear hK K
      refine zaj rfl ?_
      refine zae ?_
      try simp only [Ex.thnH, Ex.inBlockH, ↓reduceIte, Nat.reduceEqDiff]
      refine ⟨31 - (k + 1), by omega, k + 1, by omega, by omega, rfl, (fun j hj => ?_), rfA, rfl, rfl, rfl, trivial⟩
      by_cases e : j = k
      ·subst e; exact hlast.1
      ·exact hno j (by omega)
 ·first
  |(exfalso; exact cnA c8; done)
  |skip
   (try simp only [decide_eq_true_eq, decide_eq_false_iff_not, Bool.not_eq_true, Bool.not_eq_false, Bool.and_eq_true, Bool.or_eq_true, Bool.or_eq_false_iff, Bool.not_eq_eq_eq_not, Bool.not_true, Bool.not_false] at c8)
   have hkn : k = R.length := by omega
   refine CW_exit ?_
   try simp only [Ex.thnH, Ex.inBlockH, ↓reduceIte, Nat.reduceEqDiff]
   refine hK2 _ _ ?_; try clear hK2 K2
   refine zad (fun K10 hK10 => ?_)
   refine zab ?_
   refine zaE rfl ?_
   refine zae ?_
   try simp only [Ex.thnH, Ex.inBlockH, ↓reduceIte, Nat.reduceEqDiff]
   refine hK10 _ _ ?_; try clear hK10 K10
   refine CW_ret ?_
   try simp only [Ex.thnH, Ex.inBlockH, ↓reduceIte, Nat.reduceEqDiff]
   subst hkn
   exact ⟨[_], ⟨rfl, trivial⟩, H, lhA, false, rfl, (fun _ => ⟨hk31, hno⟩), rfl⟩
end Go.Proofs.Ytjhohnbdhopllaa.HL
end
section
namespace Go.Proofs.Ytjhohnbdhopllaa.HL
open Go Go.Proofs
set_option linter.unusedSimpArgs false
set_option linter.unusedVariables false
attribute [local irreducible] Lt Lq CW OW TW CallH
set_option maxRecDepth 100000 in
set_option maxHeartbeats 8000000 in
theorem order_ok (G : Hp) (a : Option Addr) (cap : Nat) (R : List WL) (hv : Holds G 1 (.slice a R.length cap) R.length (R.flatMap WL.c)) (hR : ∀ r ∈ R, Holds G 4 (.slice r.a r.l.length r.cap) r.l.length (wrs r.l) ∧ ∀ w ∈ r.l, w.ok) (t lo hi n : Int) (t1 : -9223372036854775808 ≤ t) (t2 : t ≤ 9223372036854775807) (lo1 : -9223372036854775808 ≤ lo) (lo2 : lo ≤ 9223372036854775807) (hi1 : -9223372036854775808 ≤ hi) (hi2 : hi ≤ 9223372036854775807) : CallH Try.prog 3 #[.slice a R.length cap, .agg #[.int .i64 t, .int .i64 lo, .int .i64 hi, .int .i64 n]] G (fun v G' => v = .bool true ∧ Le G G') := by
 refine zaD (l := [_, _]) (rl := [.cell 4 4]) (n := 206) Try.func3 rfl rfl rfl rfl rfl ?_
 simp only [envOf, Nat.reduceAdd]
 refine zad (fun K1 hK1 => ?_)
 refine zab ?_
 refine zac (fun K hK r => ?_)
 simp only [x_box, Value.cells, eX, ↓reduceIte, Nat.reduceEqDiff, Int.reduceToNat]
 intro b3 hb3
 have f3_G : G b3 = none := zam lhA hb3
 try simp only [eX, ↓reduceIte, Nat.reduceEqDiff, Int.reduceToNat]
 refine hK _ _ ?_; clear hK K
 refine zac (fun K hK r => ?_)
 simp only [x_alloc, zr4, zaf, Value.cells, eX, ↓reduceIte, Nat.reduceEqDiff, Int.reduceToNat]
 intro b4 hb4
 try have n4_b3 : b3 ≠ b4 := zal hbA hb4
 have f4_G : G b4 = none := zam lhA hb4
 try simp only [eX, ↓reduceIte, Nat.reduceEqDiff, Int.reduceToNat]
 refine hK _ _ ?_; clear hK K
 refine zae ?_
 try simp only [Ex.thnH, Ex.inBlockH, ↓reduceIte, Nat.reduceEqDiff]
 refine hK1 _ _ ?_; try clear hK1 K1
 refine zad (fun K2 hK2 => ?_)
 refine zad (fun K3 hK3 => ?_)
 refine zab ?_
 refine zac (fun K hK r => ?_)
 simp only [zaP _ bd7, List.map_toArray, List.map_cons, List.map_nil, eX, ↓reduceIte, Nat.reduceEqDiff, Int.reduceToNat]
 refine (alive_ok _).mono ?_
 rintro v H' ⟨rfl, hq⟩
 have hq := hq.symm
 subst hq
 try simp only [eX, ↓reduceIte, Nat.reduceEqDiff, Int.reduceToNat]
 refine hK _ _ ?_; clear hK K
 refine zac (fun K hK r => ?_)
 simp only [x_un, u_not, eX, ↓reduceIte, Nat.reduceEqDiff, Int.reduceToNat]
 refine hK _ _ ?_; clear hK K
 refine zae ?_
 try simp only [Ex.thnH, Ex.inBlockH, ↓reduceIte, Nat.reduceEqDiff]
 refine hK3 _ _ ?_; try clear hK3 K3
 refine CW_cond (fun r => rfl) (fun c20 => ?_) (fun c20 => ?_)
 ·exfalso; exact cnA c20
 refine CW_skip ?_
 try simp only [Ex.thnH, Ex.inBlockH, ↓reduceIte, Nat.reduceEqDiff]
 refine hK2 _ _ ?_; try clear hK2 K2
 refine zad (fun K4 hK4 => ?_)
 refine zad (fun K5 hK5 => ?_)
 refine zab ?_
 refine zaj rfl ?_
 refine zac (fun K hK r => ?_)
 simp only [zaP _ bd8, List.map_toArray, List.map_cons, List.map_nil, eX, ↓reduceIte, Nat.reduceEqDiff, Int.reduceToNat]
 refine (long_ok _ a cap R (hv.le lhA)).mono ?_
 rintro v22 H' ⟨tl, rfl, hlong, hq⟩
 have hq := hq.symm
 subst hq
 try simp only [eX, ↓reduceIte, Nat.reduceEqDiff, Int.reduceToNat]
 refine hK _ _ ?_; clear hK K
 refine zae ?_
 try simp only [Ex.thnH, Ex.inBlockH, ↓reduceIte, Nat.reduceEqDiff]
 refine hK5 _ _ ?_; try clear hK5 K5
 refine CW_cond (fun r => rfl) (fun c22 => ?_) (fun c22 => ?_)
 ·first
  |(exfalso; exact cnA c22; done)
  |skip
   skip
   refine zad (fun K6 hK6 => ?_)
   refine zab ?_
   refine OW_op rfl (lt_none) (fun K hK r => ?_)
   simp only [x_store, eX, ↓reduceIte, Nat.reduceEqDiff, Int.reduceToNat]
   refine Lt_storeAt1 sz4 hbA bdA plA fzA ?_
   try simp only [setL0, setL1, setL2, setL3, setL4, setL5, setL6, setL7, setL8, setL9]
   try simp only [eX, ↓reduceIte, Nat.reduceEqDiff, Int.reduceToNat]
   refine hK _ _ ?_; clear hK K
   refine zae ?_
   try simp only [Ex.thnH, Ex.inBlockH, ↓reduceIte, Nat.reduceEqDiff]
   refine hK6 _ _ ?_; try clear hK6 K6
   refine CW_ret ?_
   try simp only [Ex.thnH, Ex.inBlockH, ↓reduceIte, Nat.reduceEqDiff]
   exact ⟨[_], ⟨⟨_, rfl, Lq_load1 Try.underlying4 rfl hbA (by rfl)⟩, trivial⟩, _, Le.refl _, rfl, lhA⟩
 ·first
  |(exfalso; exact cnA c22; done)
  |skip
   have hlen : ∀ r ∈ R, r.l.length ≤ 20 := all_getD (hlong (by simpa using c22)).2
   have hR31 := (hlong (by simpa using c22)).1
   refine CW_skip ?_
   try simp only [Ex.thnH, Ex.inBlockH, ↓reduceIte, Nat.reduceEqDiff]
   refine hK4 _ _ ?_; try clear hK4 K4
   refine zad (fun K7 hK7 => ?_)
   refine zab ?_
   refine zac (fun K hK r => ?_)
   simp only [zaP _ bd9, List.map_toArray, List.map_cons, List.map_nil, eX, ↓reduceIte, Nat.reduceEqDiff, Int.reduceToNat]
   obtain ⟨H1, hH1⟩ : ∃ H1 : Hp, H1 = (G.upd b3 (.cells #[.int .i64 t, .int .i64 lo, .int .i64 hi, .int .i64 n] 24)).upd b4 (.cells #[.bool false] 4) := ⟨_, rfl⟩
   have k1_3 : H1 b3 = some (.cells #[.int .i64 t, .int .i64 lo, .int .i64 hi, .int .i64 n] 24) := by rw [hH1]; exact hbA
   have k1_4 : H1 b4 = some (.cells #[.bool false] 4) := by rw [hH1]; exact hbA
   have lG1 : Le G H1 := by rw [hH1]; exact lhA
   rw [← hH1]
   refine (new_ok _).mono ?_
   rintro v23 H23 ⟨b, rfl, hS23⟩
   try simp only [eX, ↓reduceIte, Nat.reduceEqDiff, Int.reduceToNat]
   refine hK _ _ ?_; clear hK K
   refine zaE rfl ?_
   refine zae ?_
   try simp only [Ex.thnH, Ex.inBlockH, ↓reduceIte, Nat.reduceEqDiff]
   refine hK7 _ _ ?_; try clear hK7 K7
   refine zad (fun K8 hK8 => ?_)
   refine zad (fun K9 hK9 => ?_)
   refine zab ?_
   refine zaj rfl ?_
   refine zac (fun K hK r => ?_)
   simp only [zaG, l_len, List.map_toArray, List.map_cons, List.map_nil, zaH _ _ Try.underlying22, eX, ↓reduceIte, Nat.reduceEqDiff, Int.reduceToNat]
   refine hK _ _ ?_; clear hK K
   refine zaj rfl ?_
   refine zae ?_
   try simp only [Ex.thnH, Ex.inBlockH, ↓reduceIte, Nat.reduceEqDiff]
   refine hK9 _ _ ?_; try clear hK9 K9
   refine CW_block ?_
   refine CW_loop (fun m e H_ => ∃ k : Nat, k ≤ R.length ∧ m = R.length - k ∧ StX (IX b (ixK R k)) H1 H_ ∧ Env.has [(3, .pointer (some ⟨b3, 0, none⟩)), (4, .pointer (some ⟨b4, 0, none⟩)), (5, .pointer (some ⟨b, 0, none⟩)), (24, .slice a R.length cap), (25, .int .i64 R.length), (26, .int .i64 k)] e) (R.length) ?_ ?_
   ·skip
    exact ⟨0, by omega, by omega, hS23, rfl, rfl, rfl, rfl, rfl, rfl, trivial⟩
   intro m_ e_ H_ hI_
   obtain ⟨k, hk, rfl, hS_, he⟩ := hI_
   have hk3 := hS_.old _ _ k1_3
   have hk4 := hS_.old _ _ k1_4
   refine CW_env he.sub ?_; clear he e_
   refine zad (fun K10 hK10 => ?_)
   refine zab ?_
   refine zac (fun K hK r => ?_)
   simp (disch := (first | omega | decide)) only [zaM, zaN, b_lss, zat, zau, zav, zax, zaz, zay, Bool.not_true, Bool.not_false, eX, ↓reduceIte, Nat.reduceEqDiff, Int.reduceToNat]
   refine hK _ _ ?_; clear hK K
   refine zae ?_
   try simp only [Ex.thnH, Ex.inBlockH, ↓reduceIte, Nat.reduceEqDiff]
   refine hK10 _ _ ?_; try clear hK10 K10
   refine zad (fun K11 hK11 => ?_)
   refine CW_cond (fun r => rfl) (fun c27 => ?_) (fun c27 => ?_)
   ·first
    |(exfalso; exact cnA c27; done)
    |skip
     (try simp only [decide_eq_true_eq, decide_eq_false_iff_not, Bool.not_eq_true, Bool.not_eq_false, Bool.and_eq_true, Bool.or_eq_true, Bool.or_eq_false_iff, Bool.not_eq_eq_eq_not, Bool.not_true, Bool.not_false] at c27)
     have hkR : k < R.length := by omega
     obtain ⟨bw, ow, cw, Tw, Fw, ew, hbw, hsw, atw⟩ := ((hv.le lG1).le hS_.old).at (by omega)
     refine CW_skip ?_
     try simp only [Ex.thnH, Ex.inBlockH, ↓reduceIte, Nat.reduceEqDiff]
     refine hK11 _ _ ?_; try clear hK11 K11
     refine zad (fun K12 hK12 => ?_)
     refine CW_block ?_
     refine zad (fun K13 hK13 => ?_)
     refine zab ?_
     refine zac (fun K hK r => ?_)
     simp only [zaF, eX, ↓reduceIte, Nat.reduceEqDiff, Int.reduceToNat]
     refine Lt_indexSof Try.underlying22 sz29 ew ixA ixA ?_
     try simp only [Int.toNat_natCast]
     refine hK _ _ ?_; clear hK K
     refine zac (fun K hK r => ?_)
     simp only [zas, eX, ↓reduceIte, Nat.reduceEqDiff, Int.reduceToNat]
     refine zag Try.underlying29 rfl hbw (v := .slice (R.getD k default).a (R.getD k default).l.length (R.getD k default).cap) (by first | exact cell_at WL.len atw rfl k (by omega) 0 (by decide) | (rw [cell_at WL.len atw rfl k (by omega) 0 (by decide)]; rfl)) ?_
     refine hK _ _ ?_; clear hK K
     refine zaE rfl ?_
     refine zae ?_
     try simp only [Ex.thnH, Ex.inBlockH, ↓reduceIte, Nat.reduceEqDiff]
     refine hK13 _ _ ?_; try clear hK13 K13
     refine zab ?_
     refine zaj rfl ?_
     refine zaj rfl ?_
     refine zac (fun K hK r => ?_)
     simp only [zaP _ bd10, List.map_toArray, List.map_cons, List.map_nil, eX, ↓reduceIte, Nat.reduceEqDiff, Int.reduceToNat]
     refine (tell_ok _ _ b (ixK R k) hS_ _ _ _ ((hR _ (getD_memW hkR)).1.le lG1) (20 * k) (ixK_sz hlen k (by omega)) (by have := hlen _ (getD_memW hkR); omega)).mono ?_
     rintro v32 H32 ⟨rfl, hS32⟩
     rw [← ixK_succ hkR] at hS32
     try simp only [eX, ↓reduceIte, Nat.reduceEqDiff, Int.reduceToNat]
     refine hK _ _ ?_; clear hK K
     refine zae ?_
     try simp only [Ex.thnH, Ex.inBlockH, ↓reduceIte, Nat.reduceEqDiff]
     refine hK12 _ _ ?_; try clear hK12 K12
     refine zab ?_
     refine zac (fun K hK r => ?_)
     simp (disch := (first | omega | decide)) only [zaM, zaN, b_add, zaI, zaL, zaK, wrap_u8, eX, ↓reduceIte, Nat.reduceEqDiff, Int.reduceToNat]
     refine hK _ _ ?_; clear hK K
     refine zaj rfl ?_
     refine zae ?_
     try simp only [Ex.thnH, Ex.inBlockH, ↓reduceIte, Nat.reduceEqDiff]
     exact ⟨R.length - (k + 1), by omega, k + 1, by omega, rfl, hS32, rfl, rfl, rfl, rfl, rfl, rfl, trivial⟩
   ·first
    |(exfalso; exact cnA c27; done)
    |skip
     (try simp only [decide_eq_true_eq, decide_eq_false_iff_not, Bool.not_eq_true, Bool.not_eq_false, Bool.and_eq_true, Bool.or_eq_true, Bool.or_eq_false_iff, Bool.not_eq_eq_eq_not, Bool.not_true, Bool.not_false] at c27)
     obtain rfl : k = R.length := by omega
     obtain ⟨HB, hHB⟩ : ∃ HB : Hp, HB = H_ := ⟨_, rfl⟩
     subst hHB
     obtain ⟨E, hE⟩ : ∃ E, E = ixK R R.length := ⟨_, rfl⟩
     have hgE : OkG E := by rw [hE]; exact ixK_ok (fun r hr => (hR r hr).2) _ (Nat.le_refl _)
     have hsE : SzE E 620 := by rw [hE]; exact (ixK_sz hlen _ (Nat.le_refl _)).up (by omega)
     rw [← hE] at hS_
     obtain ⟨L, hL⟩ : ∃ L, L = tabE E t := ⟨_, rfl⟩
     have hgo := hgE.tab t
     have hLn : (tabE E t).length ≤ 100000 := by have := hsE.tab t; omega
     have hLn' : L.length ≤ 100000 := by rw [hL]; exact hLn
     have hrise : Rise L := by rw [hL]; exact hgo.1.rise
     have honce : Once L := by rw [hL]; exact hgo.1.once
     have hok : OkE L := by rw [hL]; exact hgo.2
     obtain ⟨S, hS⟩ : ∃ S, S = sortG (tabE E t) := ⟨_, rfl⟩
     have hSp : S.Perm L := by rw [hS, hL]; exact sortG_perm _
     have hSpair : S.Pairwise glE := by rw [hS]; exact sortG_pair hgo.1.rise
     have hSl : S.length = L.length := hSp.length_eq
     have hXB := xv_of hS_
     have kB3 := hk3
     have kB4 := hk4
     have lB1 := hS_.old
     have lGB := Le.trans lG1 lB1
     refine CW_exit ?_
     try simp only [Ex.thnH, Ex.inBlockH, ↓reduceIte, Nat.reduceEqDiff]
     refine hK8 _ _ ?_; try clear hK8 K8
     refine zad (fun K14 hK14 => ?_)
     obtain ⟨R11, hR11⟩ : ∃ R : Hp, R = emptyHp.upd b3 (.cells #[.int .i64 t, .int .i64 lo, .int .i64 hi, .int .i64 n] 24) := ⟨_, rfl⟩
     refine CW_drawR [0, 0, 1, 2, 0, 0, 1, 2, 0, 0] [0, 1, 2, 3, 4, 5, 6, 7, 8, 9] R11 (by kernel_rfl) (by kernel_rfl) (by subst hR11; exact le_put (le_empty _) hbA) (fun lR11 => ?_)
     apply zah rfl (zaa (by decide)) rfl
     ·intro r
      simp only [zaA, eX, ↓reduceIte, Nat.reduceEqDiff]
      exact ⟨rfl, Le.refl _⟩
     simp only [eX, ↓reduceIte, Nat.reduceEqDiff, Int.reduceToNat]
     apply zah rfl (zaa (by decide)) rfl
     ·intro r
      simp only [zai, fa24_0, zaC, Nat.reduceAdd, Nat.zero_add, eX, ↓reduceIte, Nat.reduceEqDiff]
      exact ⟨rfl, Le.refl _⟩
     simp only [eX, ↓reduceIte, Nat.reduceEqDiff, Int.reduceToNat]
     apply TW_look rfl (zaa (by decide)) rfl
     ·intro r
      simp only [zas, eX, ↓reduceIte, Nat.reduceEqDiff]
      refine zag Try.underlying3 rfl hbA ldA ?_
      exact ⟨rfl, Le.refl _⟩
     simp only [eX, ↓reduceIte, Nat.reduceEqDiff, Int.reduceToNat]
     refine TW_chain rfl (zaa (by decide)) rfl (fun K hK r => ?_)
     simp only [zaP _ bd11, List.map_toArray, List.map_cons, List.map_nil, eX, ↓reduceIte, Nat.reduceEqDiff, Int.reduceToNat]
     refine (list_ok _ _ E hXB t (-9223372036854775808) 9223372036854775807 (by decide) (by decide) hLn hgo.2).mono ?_
     rintro v37 H37 ⟨hl37, rs37, ho37, hr37⟩
     rw [betE_all hgo.2, ← hL] at ho37
     obtain ⟨wa1, wc1, rfl⟩ := ho37.holds.form
     have lR37 : Le R11 H37 := by rw [hR11]; exact le_put (le_empty _) (hl37 _ _ kB3)
     try simp only [eX, ↓reduceIte, Nat.reduceEqDiff, Int.reduceToNat]
     refine hK _ _ leA ?_; clear hK K
     apply zah rfl (zaa (by decide)) rfl
     ·intro r
      simp only [zaA, eX, ↓reduceIte, Nat.reduceEqDiff]
      exact ⟨rfl, Le.refl _⟩
     simp only [eX, ↓reduceIte, Nat.reduceEqDiff, Int.reduceToNat]
     apply zah rfl (zaa (by decide)) rfl
     ·intro r
      simp only [zai, fa24_0, zaC, Nat.reduceAdd, Nat.zero_add, eX, ↓reduceIte, Nat.reduceEqDiff]
      exact ⟨rfl, Le.refl _⟩
     simp only [eX, ↓reduceIte, Nat.reduceEqDiff, Int.reduceToNat]
     apply TW_look rfl (zaa (by decide)) rfl
     ·intro r
      simp only [zas, eX, ↓reduceIte, Nat.reduceEqDiff]
      refine zag Try.underlying3 rfl hbA ldA ?_
      exact ⟨rfl, Le.refl _⟩
     simp only [eX, ↓reduceIte, Nat.reduceEqDiff, Int.reduceToNat]
     refine TW_chain rfl (zaa (by decide)) rfl (fun K hK r => ?_)
     simp only [zaP _ bd12, List.map_toArray, List.map_cons, List.map_nil, eX, ↓reduceIte, Nat.reduceEqDiff, Int.reduceToNat]
     refine (top_ok _ _ E (hXB.le hl37) t 1099511627776 hLn S (by rw [hS]; exact sortG_perm _) (by rw [hS]; exact sortG_pair hgo.1.rise)).mono ?_
     rintro v41 H41 ⟨hl41, rs41, ho41, hr41⟩
     rw [show S.take (1099511627776 : Int).toNat = S from List.take_of_length_le (by rw [hSl]; show _ ≤ 1099511627776; omega), hSl] at ho41
     obtain ⟨wa2, wc2, rfl⟩ := ho41.holds.form
     have hlB41 := Le.trans hl37 hl41
     have k41_3 := hlB41 _ _ kB3
     have k41_4 := hlB41 _ _ kB4
     have lR41 : Le R11 H41 := Le.trans lR37 hl41
     try simp only [eX, ↓reduceIte, Nat.reduceEqDiff, Int.reduceToNat]
     refine hK _ _ leA ?_; clear hK K
     apply zah rfl (zaa (by decide)) rfl
     ·intro r
      simp only [x_assign, eX, ↓reduceIte, Nat.reduceEqDiff]
      exact ⟨rfl, Le.refl _⟩
     simp only [eX, ↓reduceIte, Nat.reduceEqDiff, Int.reduceToNat]
     apply zah rfl (zaa (by decide)) rfl
     ·intro r
      simp only [x_assign, eX, ↓reduceIte, Nat.reduceEqDiff]
      exact ⟨rfl, Le.refl _⟩
     simp only [eX, ↓reduceIte, Nat.reduceEqDiff, Int.reduceToNat]
     refine TW_nil ?_
     try simp only [Ex.thnH, Ex.inBlockH, ↓reduceIte, Nat.reduceEqDiff]
     refine hK14 _ _ ?_; try clear hK14 K14
     refine zad (fun K15 hK15 => ?_)
     refine zad (fun K16 hK16 => ?_)
     refine zab ?_
     refine zaj rfl ?_
     refine zac (fun K hK r => ?_)
     simp only [zaG, l_len, List.map_toArray, List.map_cons, List.map_nil, zaH _ _ Try.underlying33, eX, ↓reduceIte, Nat.reduceEqDiff, Int.reduceToNat]
     refine hK _ _ ?_; clear hK K
     refine zaj rfl ?_
     refine zac (fun K hK r => ?_)
     simp only [zaG, l_len, List.map_toArray, List.map_cons, List.map_nil, zaH _ _ Try.underlying33, eX, ↓reduceIte, Nat.reduceEqDiff, Int.reduceToNat]
     refine hK _ _ ?_; clear hK K
     refine zac (fun K hK r => ?_)
     simp (disch := (first | omega | decide)) only [zaM, zaN, b_neq, zat, zau, zav, zax, zaz, zay, Bool.not_true, Bool.not_false, eX, ↓reduceIte, Nat.reduceEqDiff, Int.reduceToNat]
     refine hK _ _ ?_; clear hK K
     refine zaj rfl ?_
     (first | refine OW_split (d := 47) rfl (fun g47 => ?_) (fun g47 => ?_) | skip)
     all_goals try (exfalso; exact cnA g47)
     all_goals (try simp only [decide_eq_true_eq, decide_eq_false_iff_not, Bool.not_eq_true, Bool.not_eq_false, Bool.and_eq_true, Bool.or_eq_true, Bool.or_eq_false_iff, Bool.not_eq_eq_eq_not, Bool.not_true, Bool.not_false] at g47)
     all_goals
      try simp only [eX, ↓reduceIte, Nat.reduceEqDiff, Int.reduceToNat]
      first
      |refine zaq rfl (zaa (by decide)) rfl (fun K hK r => ?_)
       simp only [zaA, eX, ↓reduceIte, Nat.reduceEqDiff, Int.reduceToNat]
       refine hK _ _ ?_; clear hK K
      |refine zar rfl (zaa (by decide)) rfl ?_
       simp only [eX, ↓reduceIte, Nat.reduceEqDiff, Int.reduceToNat]
      first
      |refine zaq rfl (zaa (by decide)) rfl (fun K hK r => ?_)
       simp only [zaG, l_len, List.map_toArray, List.map_cons, List.map_nil, zaH _ _ Try.underlying33, eX, ↓reduceIte, Nat.reduceEqDiff, Int.reduceToNat]
       refine hK _ _ ?_; clear hK K
      |refine zar rfl (zaa (by decide)) rfl ?_
       simp only [eX, ↓reduceIte, Nat.reduceEqDiff, Int.reduceToNat]
      first
      |refine zaq rfl (zaa (by decide)) rfl (fun K hK r => ?_)
       simp only [zaA, eX, ↓reduceIte, Nat.reduceEqDiff, Int.reduceToNat]
       refine hK _ _ ?_; clear hK K
      |refine zar rfl (zaa (by decide)) rfl ?_
       simp only [eX, ↓reduceIte, Nat.reduceEqDiff, Int.reduceToNat]
      first
      |refine zaq rfl (zaa (by decide)) rfl (fun K hK r => ?_)
       simp only [zai, fa24_0, zaC, Nat.reduceAdd, Nat.zero_add, eX, ↓reduceIte, Nat.reduceEqDiff, Int.reduceToNat]
       refine hK _ _ ?_; clear hK K
      |refine zar rfl (zaa (by decide)) rfl ?_
       simp only [eX, ↓reduceIte, Nat.reduceEqDiff, Int.reduceToNat]
      first
      |refine zaq rfl (zaa (by decide)) rfl (fun K hK r => ?_)
       simp only [zas, eX, ↓reduceIte, Nat.reduceEqDiff, Int.reduceToNat]
       refine zag Try.underlying3 rfl hbA ldA ?_
       try simp only [eX, ↓reduceIte, Nat.reduceEqDiff, Int.reduceToNat]
       refine hK _ _ ?_; clear hK K
      |refine zar rfl (zaa (by decide)) rfl ?_
       simp only [eX, ↓reduceIte, Nat.reduceEqDiff, Int.reduceToNat]
      first
      |refine zaq rfl (zaa (by decide)) rfl (fun K hK r => ?_)
       simp only [zaP _ bd13, List.map_toArray, List.map_cons, List.map_nil, eX, ↓reduceIte, Nat.reduceEqDiff, Int.reduceToNat]
       refine (ixLen _ _ E (hXB.le hlB41) t).mono ?_
       rintro v53 H53 ⟨rfl, hl53⟩
       rw [← hL]
       have hlB53 := Le.trans hlB41 hl53
       have k53_3 := hlB53 _ _ kB3
       have k53_4 := hlB53 _ _ kB4
       try simp only [eX, ↓reduceIte, Nat.reduceEqDiff, Int.reduceToNat]
       refine hK _ _ ?_; clear hK K
      |refine zar rfl (zaa (by decide)) rfl ?_
       simp only [eX, ↓reduceIte, Nat.reduceEqDiff, Int.reduceToNat]
      first
      |refine zaq rfl (zaa (by decide)) rfl (fun K hK r => ?_)
       simp (disch := (first | omega | decide)) only [zaM, zaN, b_neq, zat, zau, zav, zax, zaz, zay, Bool.not_true, Bool.not_false, eX, ↓reduceIte, Nat.reduceEqDiff, Int.reduceToNat]
       refine hK _ _ ?_; clear hK K
      |refine zar rfl (zaa (by decide)) rfl ?_
       simp only [eX, ↓reduceIte, Nat.reduceEqDiff, Int.reduceToNat]
      refine zac (fun K hK r => ?_)
      simp only [x_pick, l_asBool, HL.ite_bool, if_true, if_false, Bool.false_eq_true, eX, ↓reduceIte, Nat.reduceEqDiff, Int.reduceToNat]
      refine hK _ _ ?_; clear hK K
      refine zae ?_
      try simp only [Ex.thnH, Ex.inBlockH, ↓reduceIte, Nat.reduceEqDiff]
      refine hK16 _ _ ?_; try clear hK16 K16
      refine CW_cond (fun r => rfl) (fun c55 => ?_) (fun c55 => ?_)
      ·exfalso; exact cnA c55
      refine CW_skip ?_
      try simp only [Ex.thnH, Ex.inBlockH, ↓reduceIte, Nat.reduceEqDiff]
      refine hK15 _ _ ?_; try clear hK15 K15
      refine zad (fun K17 hK17 => ?_)
      refine zad (fun K18 hK18 => ?_)
      refine zab ?_
      refine zaj rfl ?_
      refine zac (fun K hK r => ?_)
      simp only [zaG, l_len, List.map_toArray, List.map_cons, List.map_nil, zaH _ _ Try.underlying33, eX, ↓reduceIte, Nat.reduceEqDiff, Int.reduceToNat]
      refine hK _ _ ?_; clear hK K
      refine zaj rfl ?_
      refine zae ?_
      try simp only [Ex.thnH, Ex.inBlockH, ↓reduceIte, Nat.reduceEqDiff]
      refine hK18 _ _ ?_; try clear hK18 K18
      refine CW_block ?_
      refine CW_loop (fun m e H_ => ∃ k : Nat, k ≤ L.length ∧ m = L.length - k ∧ Le H53 H_ ∧ Env.has [(3, .pointer (some ⟨b3, 0, none⟩)), (4, .pointer (some ⟨b4, 0, none⟩)), (5, .pointer (some ⟨b, 0, none⟩)), (8, .slice wa1 L.length wc1), (9, .slice wa2 L.length wc2), (56, .slice wa1 L.length wc1), (57, .int .i64 L.length), (58, .int .i64 k)] e) (L.length) ?_ ?_
      ·skip
       exact ⟨0, by omega, by omega, Le.refl _, rfl, rfl, rfl, rfl, rfl, rfl, rfl, rfl, trivial⟩
      intro m_ e_ H_ hI_
      obtain ⟨k, hk, rfl, hl_, he⟩ := hI_
      have hk3 := hl_ _ _ k53_3
      have hk4 := hl_ _ _ k53_4
      refine CW_env he.sub ?_; clear he e_
      refine zad (fun K19 hK19 => ?_)
      refine zab ?_
      refine zac (fun K hK r => ?_)
      simp (disch := (first | omega | decide)) only [zaM, zaN, b_lss, zat, zau, zav, zax, zaz, zay, Bool.not_true, Bool.not_false, eX, ↓reduceIte, Nat.reduceEqDiff, Int.reduceToNat]
      refine hK _ _ ?_; clear hK K
      refine zae ?_
      try simp only [Ex.thnH, Ex.inBlockH, ↓reduceIte, Nat.reduceEqDiff]
      refine hK19 _ _ ?_; try clear hK19 K19
      refine zad (fun K20 hK20 => ?_)
      refine CW_cond (fun r => rfl) (fun c59 => ?_) (fun c59 => ?_)
      ·first
       |(exfalso; exact cnA c59; done)
       |skip
        (try simp only [decide_eq_true_eq, decide_eq_false_iff_not, Bool.not_eq_true, Bool.not_eq_false, Bool.and_eq_true, Bool.or_eq_true, Bool.or_eq_false_iff, Bool.not_eq_eq_eq_not, Bool.not_true, Bool.not_false] at c59)
        have hkL : k < L.length := by omega
        obtain ⟨bw, ow, cw, Tw, Fw, ew, hbw, hsw, atw⟩ := (ho37.holds.le (Le.trans hl41 (Le.trans hl53 hl_))).at (by omega)
        obtain ⟨bu, ou, cu, Tu, Fu, eu, hbu, hsu, atu⟩ := (ho41.holds.le (Le.trans hl53 hl_)).at (by omega)
        have hrev : (at_ S (L.length - 1 - k)).v = (at_ L k).v := top_rev hSp hSpair hrise hkL
        refine CW_skip ?_
        try simp only [Ex.thnH, Ex.inBlockH, ↓reduceIte, Nat.reduceEqDiff]
        refine hK20 _ _ ?_; try clear hK20 K20
        refine zad (fun K21 hK21 => ?_)
        refine CW_block ?_
        refine zad (fun K22 hK22 => ?_)
        refine zab ?_
        refine zaj rfl ?_
        refine zac (fun K hK r => ?_)
        simp only [zaF, eX, ↓reduceIte, Nat.reduceEqDiff, Int.reduceToNat]
        refine Lt_indexSof Try.underlying33 sz38 ew ixA ixA ?_
        try simp only [Int.toNat_natCast]
        refine hK _ _ ?_; clear hK K
        refine zac (fun K hK r => ?_)
        simp only [zas, eX, ↓reduceIte, Nat.reduceEqDiff, Int.reduceToNat]
        refine Lt_loadAtA Try.underlying38 rfl sz38 hbA (by omega) ?_
        rw [ext_at En.len atw rfl k (by omega) hsw]
        refine hK _ _ ?_; clear hK K
        refine zac (fun K hK r => ?_)
        simp only [x_alloc, zr38, zaf, Value.cells, eX, ↓reduceIte, Nat.reduceEqDiff, Int.reduceToNat]
        intro b11 hb11
        try have n11_b3 : b3 ≠ b11 := zal hbA hb11
        try have n11_b4 : b4 ≠ b11 := zal hbA hb11
        try have n11_bw : bw ≠ b11 := zal hbA hb11
        try have n11_bu : bu ≠ b11 := zal hbA hb11
        have f11_H53 : H53 b11 = none := zam lhA hb11
        try simp only [eX, ↓reduceIte, Nat.reduceEqDiff, Int.reduceToNat]
        refine hK _ _ ?_; clear hK K
        refine zaE rfl ?_
        refine OW_op rfl (lt_none) (fun K hK r => ?_)
        simp only [x_store, eX, ↓reduceIte, Nat.reduceEqDiff, Int.reduceToNat]
        first | refine Lt_storeAll sz38 bdA hbA bdA plA (by decide) ?_ | refine Lt_storeAtA sz38 bdA hbA bdA plA (by decide) ?_
        try simp only [eX, ↓reduceIte, Nat.reduceEqDiff, Int.reduceToNat]
        refine hK _ _ ?_; clear hK K
        refine zae ?_
        try simp only [Ex.thnH, Ex.inBlockH, ↓reduceIte, Nat.reduceEqDiff]
        refine hK22 _ _ ?_; try clear hK22 K22
        refine zad (fun K23 hK23 => ?_)
        refine zad (fun K24 hK24 => ?_)
        obtain ⟨R17, hR17⟩ : ∃ R : Hp, R = H_.upd b11 (.cells (at_ L k).c.toArray 38) := ⟨_, rfl⟩
        refine CW_drawR [0, 0, 0, 0, 0, 0, 0, 0, 1, 0, 1, 0, 0, 0, 0, 0, 0, 0, 1, 0, 1, 0, 0, 0, 0, 0, 0, 0, 1, 0, 1, 0, 0, 0, 0, 0, 0, 0, 0, 0, 0, 0, 0, 0, 1, 0, 1, 0, 0] [0, 1, 2, 3, 4, 5, 6, 7, 8, 9, 10, 11, 12, 13, 14, 15, 16, 17, 18, 19, 20, 21, 22, 23, 24, 25, 26, 27, 28, 29, 30, 31, 32, 33, 34, 35, 36, 37, 38, 39, 40, 41, 42, 43, 44, 45, 46, 47, 48] R17 (by kernel_rfl) (by kernel_rfl) (by subst hR17; exact Le.refl _) (fun lR17 => ?_)
        have hRw17 : R17 bw = some (.cells cw Tw Fw) := by rw [hR17, zap _ _ (zal hbw hb11)]; exact hbw
        have hRu17 : R17 bu = some (.cells cu Tu Fu) := by rw [hR17, zap _ _ (zal hbu hb11)]; exact hbu
        have hRx17 : R17 b11 = some (.cells (at_ L k).c.toArray 38) := by rw [hR17]; exact zan _ _ _
        have hmn : 0 < k → (at_ L (k - 1)).v < (at_ L k).v ∨ ((at_ L (k - 1)).v = (at_ L k).v ∧ (at_ L (k - 1)).k < (at_ L k).k) := fun h => rise_at hrise (by omega) hkL
        apply zah rfl (zaa (by decide)) rfl
        ·intro r
         simp only [zaA, eX, ↓reduceIte, Nat.reduceEqDiff]
         exact ⟨rfl, Le.refl _⟩
        simp only [eX, ↓reduceIte, Nat.reduceEqDiff, Int.reduceToNat]
        apply zah rfl (zaa (by decide)) rfl
        ·intro r
         simp (disch := (first | omega | decide)) only [zaM, zaN, b_gtr, zat, zau, zav, zax, zaz, zay, Bool.not_true, Bool.not_false, eX, ↓reduceIte, Nat.reduceEqDiff]
         exact ⟨rfl, Le.refl _⟩
        simp only [eX, ↓reduceIte, Nat.reduceEqDiff, Int.reduceToNat]
        apply zah rfl (zaa (by decide)) rfl
        ·intro r
         simp only [zaA, eX, ↓reduceIte, Nat.reduceEqDiff]
         exact ⟨rfl, Le.refl _⟩
        simp only [eX, ↓reduceIte, Nat.reduceEqDiff, Int.reduceToNat]
        (first | refine TW_split (d := 65) rfl (fun g65 => ?_) (fun g65 => ?_) | skip)
        all_goals try (exfalso; exact cnA g65)
        all_goals (try simp only [decide_eq_true_eq, decide_eq_false_iff_not, Bool.not_eq_true, Bool.not_eq_false, Bool.and_eq_true, Bool.or_eq_true, Bool.or_eq_false_iff, Bool.not_eq_eq_eq_not, Bool.not_true, Bool.not_false] at g65)
        all_goals
         try simp only [eX, ↓reduceIte, Nat.reduceEqDiff, Int.reduceToNat]
         first
         |apply zaw rfl (zaa (by decide)) rfl rfl
          ·intro r
           simp only [zaA, eX, ↓reduceIte, Nat.reduceEqDiff]
           exact ⟨rfl, Le.refl _⟩
          simp only [eX, ↓reduceIte, Nat.reduceEqDiff, Int.reduceToNat]
         |refine zak rfl (zaa (by decide)) rfl ?_
          simp only [eX, ↓reduceIte, Nat.reduceEqDiff, Int.reduceToNat]
         first
         |apply zaw rfl (zaa (by decide)) rfl rfl
          ·intro r
           simp only [zaA, eX, ↓reduceIte, Nat.reduceEqDiff]
           exact ⟨rfl, Le.refl _⟩
          simp only [eX, ↓reduceIte, Nat.reduceEqDiff, Int.reduceToNat]
         |refine zak rfl (zaa (by decide)) rfl ?_
          simp only [eX, ↓reduceIte, Nat.reduceEqDiff, Int.reduceToNat]
         first
         |apply zaw rfl (zaa (by decide)) rfl rfl
          ·intro r
           simp (disch := (first | omega | decide)) only [zaM, zaN, b_sub, zaI, zaL, zaK, wrap_u8, eX, ↓reduceIte, Nat.reduceEqDiff]
           rw [show ((k : Int) - 1) = ((k - 1 : Nat) : Int) from by omega]
           exact ⟨rfl, Le.refl _⟩
          simp only [eX, ↓reduceIte, Nat.reduceEqDiff, Int.reduceToNat]
         |refine zak rfl (zaa (by decide)) rfl ?_
          simp only [eX, ↓reduceIte, Nat.reduceEqDiff, Int.reduceToNat]
         first
         |apply zaw rfl (zaa (by decide)) rfl rfl
          ·intro r
           simp only [zaF, eX, ↓reduceIte, Nat.reduceEqDiff]
           refine Lt_indexSof Try.underlying33 sz38 ew ixA ixA ?_
           try simp only [Int.toNat_natCast]
           exact ⟨rfl, Le.refl _⟩
          simp only [eX, ↓reduceIte, Nat.reduceEqDiff, Int.reduceToNat]
         |refine zak rfl (zaa (by decide)) rfl ?_
          simp only [eX, ↓reduceIte, Nat.reduceEqDiff, Int.reduceToNat]
         first
         |apply zaw rfl (zaa (by decide)) rfl rfl
          ·intro r
           simp only [zai, fa38_0, zaC, Nat.reduceAdd, Nat.zero_add, eX, ↓reduceIte, Nat.reduceEqDiff]
           exact ⟨rfl, Le.refl _⟩
          simp only [eX, ↓reduceIte, Nat.reduceEqDiff, Int.reduceToNat]
         |refine zak rfl (zaa (by decide)) rfl ?_
          simp only [eX, ↓reduceIte, Nat.reduceEqDiff, Int.reduceToNat]
         first
         |apply TW_lookG rfl (zaa (by decide)) rfl rfl
          ·intro r
           simp only [zas, eX, ↓reduceIte, Nat.reduceEqDiff]
           refine zag Try.underlying3 rfl (by first | (with_reducible assumption) | exact hbA) (v := .int .i64 (at_ L (k - 1)).v) (by first | exact cell_at En.len atw rfl (k - 1) (by omega) 0 (by decide) | (rw [cell_at En.len atw rfl (k - 1) (by omega) 0 (by decide)]; rfl)) ?_
           exact ⟨rfl, Le.refl _⟩
          simp only [eX, ↓reduceIte, Nat.reduceEqDiff, Int.reduceToNat]
         |refine zak rfl (zaa (by decide)) rfl ?_
          simp only [eX, ↓reduceIte, Nat.reduceEqDiff, Int.reduceToNat]
         first
         |apply zaw rfl (zaa (by decide)) rfl rfl
          ·intro r
           simp only [zai, fa38_0, zaC, Nat.reduceAdd, Nat.zero_add, eX, ↓reduceIte, Nat.reduceEqDiff]
           exact ⟨rfl, Le.refl _⟩
          simp only [eX, ↓reduceIte, Nat.reduceEqDiff, Int.reduceToNat]
         |refine zak rfl (zaa (by decide)) rfl ?_
          simp only [eX, ↓reduceIte, Nat.reduceEqDiff, Int.reduceToNat]
         first
         |apply TW_lookG rfl (zaa (by decide)) rfl rfl
          ·intro r
           simp only [zas, eX, ↓reduceIte, Nat.reduceEqDiff]
           refine zag Try.underlying3 rfl hbA ldA ?_
           exact ⟨rfl, Le.refl _⟩
          simp only [eX, ↓reduceIte, Nat.reduceEqDiff, Int.reduceToNat]
         |refine zak rfl (zaa (by decide)) rfl ?_
          simp only [eX, ↓reduceIte, Nat.reduceEqDiff, Int.reduceToNat]
         first
         |apply zaw rfl (zaa (by decide)) rfl rfl
          ·intro r
           simp (disch := (first | omega | decide)) only [zaM, zaN, b_gtr, zat, zau, zav, zax, zaz, zay, Bool.not_true, Bool.not_false, eX, ↓reduceIte, Nat.reduceEqDiff]
           exact ⟨rfl, Le.refl _⟩
          simp only [eX, ↓reduceIte, Nat.reduceEqDiff, Int.reduceToNat]
         |refine zak rfl (zaa (by decide)) rfl ?_
          simp only [eX, ↓reduceIte, Nat.reduceEqDiff, Int.reduceToNat]
         first
         |apply zaw rfl (zaa (by decide)) rfl rfl
          ·intro r
           simp only [zaA, eX, ↓reduceIte, Nat.reduceEqDiff]
           exact ⟨rfl, Le.refl _⟩
          simp only [eX, ↓reduceIte, Nat.reduceEqDiff, Int.reduceToNat]
         |refine zak rfl (zaa (by decide)) rfl ?_
          simp only [eX, ↓reduceIte, Nat.reduceEqDiff, Int.reduceToNat]
         (first | refine TW_split (d := 75) rfl (fun g75 => ?_) (fun g75 => ?_) | skip)
         all_goals try (exfalso; exact cnA g75)
         all_goals (try simp only [decide_eq_true_eq, decide_eq_false_iff_not, Bool.not_eq_true, Bool.not_eq_false, Bool.and_eq_true, Bool.or_eq_true, Bool.or_eq_false_iff, Bool.not_eq_eq_eq_not, Bool.not_true, Bool.not_false] at g75)
         all_goals
          try simp only [eX, ↓reduceIte, Nat.reduceEqDiff, Int.reduceToNat]
          first
          |apply zaw rfl (zaa (by decide)) rfl rfl
           ·intro r
            simp only [zaA, eX, ↓reduceIte, Nat.reduceEqDiff]
            exact ⟨rfl, Le.refl _⟩
           simp only [eX, ↓reduceIte, Nat.reduceEqDiff, Int.reduceToNat]
          |refine zak rfl (zaa (by decide)) rfl ?_
           simp only [eX, ↓reduceIte, Nat.reduceEqDiff, Int.reduceToNat]
          first
          |apply zaw rfl (zaa (by decide)) rfl rfl
           ·intro r
            simp only [zaA, eX, ↓reduceIte, Nat.reduceEqDiff]
            exact ⟨rfl, Le.refl _⟩
           simp only [eX, ↓reduceIte, Nat.reduceEqDiff, Int.reduceToNat]
          |refine zak rfl (zaa (by decide)) rfl ?_
           simp only [eX, ↓reduceIte, Nat.reduceEqDiff, Int.reduceToNat]
          first
          |apply zaw rfl (zaa (by decide)) rfl rfl
           ·intro r
            simp (disch := (first | omega | decide)) only [zaM, zaN, b_sub, zaI, zaL, zaK, wrap_u8, eX, ↓reduceIte, Nat.reduceEqDiff]
            rw [show ((k : Int) - 1) = ((k - 1 : Nat) : Int) from by omega]
            exact ⟨rfl, Le.refl _⟩
           simp only [eX, ↓reduceIte, Nat.reduceEqDiff, Int.reduceToNat]
          |refine zak rfl (zaa (by decide)) rfl ?_
           simp only [eX, ↓reduceIte, Nat.reduceEqDiff, Int.reduceToNat]
          first
          |apply zaw rfl (zaa (by decide)) rfl rfl
           ·intro r
            simp only [zaF, eX, ↓reduceIte, Nat.reduceEqDiff]
            refine Lt_indexSof Try.underlying33 sz38 ew ixA ixA ?_
            try simp only [Int.toNat_natCast]
            exact ⟨rfl, Le.refl _⟩
           simp only [eX, ↓reduceIte, Nat.reduceEqDiff, Int.reduceToNat]
          |refine zak rfl (zaa (by decide)) rfl ?_
           simp only [eX, ↓reduceIte, Nat.reduceEqDiff, Int.reduceToNat]
          first
          |apply zaw rfl (zaa (by decide)) rfl rfl
           ·intro r
            simp only [zai, fa38_0, zaC, Nat.reduceAdd, Nat.zero_add, eX, ↓reduceIte, Nat.reduceEqDiff]
            exact ⟨rfl, Le.refl _⟩
           simp only [eX, ↓reduceIte, Nat.reduceEqDiff, Int.reduceToNat]
          |refine zak rfl (zaa (by decide)) rfl ?_
           simp only [eX, ↓reduceIte, Nat.reduceEqDiff, Int.reduceToNat]
          first
          |apply TW_lookG rfl (zaa (by decide)) rfl rfl
           ·intro r
            simp only [zas, eX, ↓reduceIte, Nat.reduceEqDiff]
            refine zag Try.underlying3 rfl (by first | (with_reducible assumption) | exact hbA) (v := .int .i64 (at_ L (k - 1)).v) (by first | exact cell_at En.len atw rfl (k - 1) (by omega) 0 (by decide) | (rw [cell_at En.len atw rfl (k - 1) (by omega) 0 (by decide)]; rfl)) ?_
            exact ⟨rfl, Le.refl _⟩
           simp only [eX, ↓reduceIte, Nat.reduceEqDiff, Int.reduceToNat]
          |refine zak rfl (zaa (by decide)) rfl ?_
           simp only [eX, ↓reduceIte, Nat.reduceEqDiff, Int.reduceToNat]
          first
          |apply zaw rfl (zaa (by decide)) rfl rfl
           ·intro r
            simp only [zai, fa38_0, zaC, Nat.reduceAdd, Nat.zero_add, eX, ↓reduceIte, Nat.reduceEqDiff]
            exact ⟨rfl, Le.refl _⟩
           simp only [eX, ↓reduceIte, Nat.reduceEqDiff, Int.reduceToNat]
          |refine zak rfl (zaa (by decide)) rfl ?_
           simp only [eX, ↓reduceIte, Nat.reduceEqDiff, Int.reduceToNat]
          first
          |apply TW_lookG rfl (zaa (by decide)) rfl rfl
           ·intro r
            simp only [zas, eX, ↓reduceIte, Nat.reduceEqDiff]
            refine zag Try.underlying3 rfl hbA ldA ?_
            exact ⟨rfl, Le.refl _⟩
           simp only [eX, ↓reduceIte, Nat.reduceEqDiff, Int.reduceToNat]
          |refine zak rfl (zaa (by decide)) rfl ?_
           simp only [eX, ↓reduceIte, Nat.reduceEqDiff, Int.reduceToNat]
          first
          |apply zaw rfl (zaa (by decide)) rfl rfl
           ·intro r
            simp (disch := (first | omega | decide)) only [zaM, zaN, b_eql, zat, zau, zav, zax, zaz, zay, Bool.not_true, Bool.not_false, eX, ↓reduceIte, Nat.reduceEqDiff]
            exact ⟨rfl, Le.refl _⟩
           simp only [eX, ↓reduceIte, Nat.reduceEqDiff, Int.reduceToNat]
          |refine zak rfl (zaa (by decide)) rfl ?_
           simp only [eX, ↓reduceIte, Nat.reduceEqDiff, Int.reduceToNat]
          first
          |apply zaw rfl (zaa (by decide)) rfl rfl
           ·intro r
            simp only [zaA, eX, ↓reduceIte, Nat.reduceEqDiff]
            exact ⟨rfl, Le.refl _⟩
           simp only [eX, ↓reduceIte, Nat.reduceEqDiff, Int.reduceToNat]
          |refine zak rfl (zaa (by decide)) rfl ?_
           simp only [eX, ↓reduceIte, Nat.reduceEqDiff, Int.reduceToNat]
          (first | refine TW_split (d := 85) rfl (fun g85 => ?_) (fun g85 => ?_) | skip)
          all_goals try (exfalso; exact cnA g85)
          all_goals (try simp only [decide_eq_true_eq, decide_eq_false_iff_not, Bool.not_eq_true, Bool.not_eq_false, Bool.and_eq_true, Bool.or_eq_true, Bool.or_eq_false_iff, Bool.not_eq_eq_eq_not, Bool.not_true, Bool.not_false] at g85)
          all_goals
           try simp only [eX, ↓reduceIte, Nat.reduceEqDiff, Int.reduceToNat]
           first
           |apply zaw rfl (zaa (by decide)) rfl rfl
            ·intro r
             simp only [zaA, eX, ↓reduceIte, Nat.reduceEqDiff]
             exact ⟨rfl, Le.refl _⟩
            simp only [eX, ↓reduceIte, Nat.reduceEqDiff, Int.reduceToNat]
           |refine zak rfl (zaa (by decide)) rfl ?_
            simp only [eX, ↓reduceIte, Nat.reduceEqDiff, Int.reduceToNat]
           first
           |apply zaw rfl (zaa (by decide)) rfl rfl
            ·intro r
             simp only [zaA, eX, ↓reduceIte, Nat.reduceEqDiff]
             exact ⟨rfl, Le.refl _⟩
            simp only [eX, ↓reduceIte, Nat.reduceEqDiff, Int.reduceToNat]
           |refine zak rfl (zaa (by decide)) rfl ?_
            simp only [eX, ↓reduceIte, Nat.reduceEqDiff, Int.reduceToNat]
           first
           |apply zaw rfl (zaa (by decide)) rfl rfl
            ·intro r
             simp (disch := (first | omega | decide)) only [zaM, zaN, b_sub, zaI, zaL, zaK, wrap_u8, eX, ↓reduceIte, Nat.reduceEqDiff]
             rw [show ((k : Int) - 1) = ((k - 1 : Nat) : Int) from by omega]
             exact ⟨rfl, Le.refl _⟩
            simp only [eX, ↓reduceIte, Nat.reduceEqDiff, Int.reduceToNat]
           |refine zak rfl (zaa (by decide)) rfl ?_
            simp only [eX, ↓reduceIte, Nat.reduceEqDiff, Int.reduceToNat]
           first
           |apply zaw rfl (zaa (by decide)) rfl rfl
            ·intro r
             simp only [zaF, eX, ↓reduceIte, Nat.reduceEqDiff]
             refine Lt_indexSof Try.underlying33 sz38 ew ixA ixA ?_
             try simp only [Int.toNat_natCast]
             exact ⟨rfl, Le.refl _⟩
            simp only [eX, ↓reduceIte, Nat.reduceEqDiff, Int.reduceToNat]
           |refine zak rfl (zaa (by decide)) rfl ?_
            simp only [eX, ↓reduceIte, Nat.reduceEqDiff, Int.reduceToNat]
           first
           |apply zaw rfl (zaa (by decide)) rfl rfl
            ·intro r
             simp only [zai, fa38_1, zaC, Nat.reduceAdd, Nat.zero_add, eX, ↓reduceIte, Nat.reduceEqDiff]
             exact ⟨rfl, Le.refl _⟩
            simp only [eX, ↓reduceIte, Nat.reduceEqDiff, Int.reduceToNat]
           |refine zak rfl (zaa (by decide)) rfl ?_
            simp only [eX, ↓reduceIte, Nat.reduceEqDiff, Int.reduceToNat]
           first
           |apply TW_lookG rfl (zaa (by decide)) rfl rfl
            ·intro r
             simp only [zas, eX, ↓reduceIte, Nat.reduceEqDiff]
             refine zag Try.underlying3 rfl (by first | (with_reducible assumption) | exact hbA) (v := .int .i64 (at_ L (k - 1)).k) (by first | exact cell_at En.len atw rfl (k - 1) (by omega) 1 (by decide) | (rw [cell_at En.len atw rfl (k - 1) (by omega) 1 (by decide)]; rfl)) ?_
             exact ⟨rfl, Le.refl _⟩
            simp only [eX, ↓reduceIte, Nat.reduceEqDiff, Int.reduceToNat]
           |refine zak rfl (zaa (by decide)) rfl ?_
            simp only [eX, ↓reduceIte, Nat.reduceEqDiff, Int.reduceToNat]
           first
           |apply zaw rfl (zaa (by decide)) rfl rfl
            ·intro r
             simp only [zai, fa38_1, zaC, Nat.reduceAdd, Nat.zero_add, eX, ↓reduceIte, Nat.reduceEqDiff]
             exact ⟨rfl, Le.refl _⟩
            simp only [eX, ↓reduceIte, Nat.reduceEqDiff, Int.reduceToNat]
           |refine zak rfl (zaa (by decide)) rfl ?_
            simp only [eX, ↓reduceIte, Nat.reduceEqDiff, Int.reduceToNat]
           first
           |apply TW_lookG rfl (zaa (by decide)) rfl rfl
            ·intro r
             simp only [zas, eX, ↓reduceIte, Nat.reduceEqDiff]
             refine zag Try.underlying3 rfl hbA ldA ?_
             exact ⟨rfl, Le.refl _⟩
            simp only [eX, ↓reduceIte, Nat.reduceEqDiff, Int.reduceToNat]
           |refine zak rfl (zaa (by decide)) rfl ?_
            simp only [eX, ↓reduceIte, Nat.reduceEqDiff, Int.reduceToNat]
           first
           |apply zaw rfl (zaa (by decide)) rfl rfl
            ·intro r
             simp (disch := (first | omega | decide)) only [zaM, zaN, b_geq, zat, zau, zav, zax, zaz, zay, Bool.not_true, Bool.not_false, eX, ↓reduceIte, Nat.reduceEqDiff]
             exact ⟨rfl, Le.refl _⟩
            simp only [eX, ↓reduceIte, Nat.reduceEqDiff, Int.reduceToNat]
           |refine zak rfl (zaa (by decide)) rfl ?_
            simp only [eX, ↓reduceIte, Nat.reduceEqDiff, Int.reduceToNat]
           first
           |apply zaw rfl (zaa (by decide)) rfl rfl
            ·intro r
             simp only [x_pick, l_asBool, HL.ite_bool, if_true, if_false, Bool.false_eq_true, eX, ↓reduceIte, Nat.reduceEqDiff]
             exact ⟨rfl, Le.refl _⟩
            simp only [eX, ↓reduceIte, Nat.reduceEqDiff, Int.reduceToNat]
           |refine zak rfl (zaa (by decide)) rfl ?_
            simp only [eX, ↓reduceIte, Nat.reduceEqDiff, Int.reduceToNat]
           first
           |apply zaw rfl (zaa (by decide)) rfl rfl
            ·intro r
             simp only [x_pick, l_asBool, HL.ite_bool, if_true, if_false, Bool.false_eq_true, eX, ↓reduceIte, Nat.reduceEqDiff]
             exact ⟨rfl, Le.refl _⟩
            simp only [eX, ↓reduceIte, Nat.reduceEqDiff, Int.reduceToNat]
           |refine zak rfl (zaa (by decide)) rfl ?_
            simp only [eX, ↓reduceIte, Nat.reduceEqDiff, Int.reduceToNat]
           apply zah rfl (zaa (by decide)) rfl
           ·intro r
            simp only [x_pick, l_asBool, HL.ite_bool, if_true, if_false, Bool.false_eq_true, eX, ↓reduceIte, Nat.reduceEqDiff]
            exact ⟨rfl, Le.refl _⟩
           simp only [eX, ↓reduceIte, Nat.reduceEqDiff, Int.reduceToNat]
           apply zah rfl (zaa (by decide)) rfl
           ·intro r
            simp only [zaA, eX, ↓reduceIte, Nat.reduceEqDiff]
            exact ⟨rfl, Le.refl _⟩
           simp only [eX, ↓reduceIte, Nat.reduceEqDiff, Int.reduceToNat]
           (first | refine TW_split (d := 98) rfl (fun g98 => ?_) (fun g98 => ?_) | skip)
           all_goals try (exfalso; exact cnA g98)
           all_goals (try simp only [decide_eq_true_eq, decide_eq_false_iff_not, Bool.not_eq_true, Bool.not_eq_false, Bool.and_eq_true, Bool.or_eq_true, Bool.or_eq_false_iff, Bool.not_eq_eq_eq_not, Bool.not_true, Bool.not_false] at g98)
           all_goals
            try simp only [eX, ↓reduceIte, Nat.reduceEqDiff, Int.reduceToNat]
            first
            |apply zaw rfl (zaa (by decide)) rfl rfl
             ·intro r
              simp only [zaA, eX, ↓reduceIte, Nat.reduceEqDiff]
              exact ⟨rfl, Le.refl _⟩
             simp only [eX, ↓reduceIte, Nat.reduceEqDiff, Int.reduceToNat]
            |refine zak rfl (zaa (by decide)) rfl ?_
             simp only [eX, ↓reduceIte, Nat.reduceEqDiff, Int.reduceToNat]
            first
            |apply zaw rfl (zaa (by decide)) rfl rfl
             ·intro r
              simp only [zaA, eX, ↓reduceIte, Nat.reduceEqDiff]
              exact ⟨rfl, Le.refl _⟩
             simp only [eX, ↓reduceIte, Nat.reduceEqDiff, Int.reduceToNat]
            |refine zak rfl (zaa (by decide)) rfl ?_
             simp only [eX, ↓reduceIte, Nat.reduceEqDiff, Int.reduceToNat]
            first
            |apply zaw rfl (zaa (by decide)) rfl rfl
             ·intro r
              simp only [zaG, l_len, List.map_toArray, List.map_cons, List.map_nil, zaH _ _ Try.underlying33, eX, ↓reduceIte, Nat.reduceEqDiff]
              exact ⟨rfl, Le.refl _⟩
             simp only [eX, ↓reduceIte, Nat.reduceEqDiff, Int.reduceToNat]
            |refine zak rfl (zaa (by decide)) rfl ?_
             simp only [eX, ↓reduceIte, Nat.reduceEqDiff, Int.reduceToNat]
            first
            |apply zaw rfl (zaa (by decide)) rfl rfl
             ·intro r
              simp (disch := (first | omega | decide)) only [zaM, zaN, b_sub, zaI, zaL, zaK, wrap_u8, eX, ↓reduceIte, Nat.reduceEqDiff]
              rw [show ((L.length : Int) - 1) = ((L.length - 1 : Nat) : Int) from by omega]
              exact ⟨rfl, Le.refl _⟩
             simp only [eX, ↓reduceIte, Nat.reduceEqDiff, Int.reduceToNat]
            |refine zak rfl (zaa (by decide)) rfl ?_
             simp only [eX, ↓reduceIte, Nat.reduceEqDiff, Int.reduceToNat]
            first
            |apply zaw rfl (zaa (by decide)) rfl rfl
             ·intro r
              simp only [zaA, eX, ↓reduceIte, Nat.reduceEqDiff]
              exact ⟨rfl, Le.refl _⟩
             simp only [eX, ↓reduceIte, Nat.reduceEqDiff, Int.reduceToNat]
            |refine zak rfl (zaa (by decide)) rfl ?_
             simp only [eX, ↓reduceIte, Nat.reduceEqDiff, Int.reduceToNat]
            first
            |apply zaw rfl (zaa (by decide)) rfl rfl
             ·intro r
              simp (disch := (first | omega | decide)) only [zaM, zaN, b_sub, zaI, zaL, zaK, wrap_u8, eX, ↓reduceIte, Nat.reduceEqDiff]
              rw [show (((L.length - 1 : Nat) : Int) - (k : Int)) = ((L.length - 1 - k : Nat) : Int) from by omega]
              exact ⟨rfl, Le.refl _⟩
             simp only [eX, ↓reduceIte, Nat.reduceEqDiff, Int.reduceToNat]
            |refine zak rfl (zaa (by decide)) rfl ?_
             simp only [eX, ↓reduceIte, Nat.reduceEqDiff, Int.reduceToNat]
            first
            |apply zaw rfl (zaa (by decide)) rfl rfl
             ·intro r
              simp only [zaF, eX, ↓reduceIte, Nat.reduceEqDiff]
              refine Lt_indexSof Try.underlying33 sz38 eu ixA ixA ?_
              try simp only [Int.toNat_natCast]
              exact ⟨rfl, Le.refl _⟩
             simp only [eX, ↓reduceIte, Nat.reduceEqDiff, Int.reduceToNat]
            |refine zak rfl (zaa (by decide)) rfl ?_
             simp only [eX, ↓reduceIte, Nat.reduceEqDiff, Int.reduceToNat]
            first
            |apply zaw rfl (zaa (by decide)) rfl rfl
             ·intro r
              simp only [zai, fa38_0, zaC, Nat.reduceAdd, Nat.zero_add, eX, ↓reduceIte, Nat.reduceEqDiff]
              exact ⟨rfl, Le.refl _⟩
             simp only [eX, ↓reduceIte, Nat.reduceEqDiff, Int.reduceToNat]
            |refine zak rfl (zaa (by decide)) rfl ?_
             simp only [eX, ↓reduceIte, Nat.reduceEqDiff, Int.reduceToNat]
            first
            |apply TW_lookG rfl (zaa (by decide)) rfl rfl
             ·intro r
              simp only [zas, eX, ↓reduceIte, Nat.reduceEqDiff]
              refine zag Try.underlying3 rfl (by first | (with_reducible assumption) | exact hbA) (v := .int .i64 (at_ S (L.length - 1 - k)).v) (by first | exact cell_at En.len atu hSl.symm (L.length - 1 - k) (by omega) 0 (by decide) | (rw [cell_at En.len atu hSl.symm (L.length - 1 - k) (by omega) 0 (by decide)]; rfl)) ?_
              exact ⟨rfl, Le.refl _⟩
             simp only [eX, ↓reduceIte, Nat.reduceEqDiff, Int.reduceToNat]
            |refine zak rfl (zaa (by decide)) rfl ?_
             simp only [eX, ↓reduceIte, Nat.reduceEqDiff, Int.reduceToNat]
            first
            |apply zaw rfl (zaa (by decide)) rfl rfl
             ·intro r
              simp only [zai, fa38_0, zaC, Nat.reduceAdd, Nat.zero_add, eX, ↓reduceIte, Nat.reduceEqDiff]
              exact ⟨rfl, Le.refl _⟩
             simp only [eX, ↓reduceIte, Nat.reduceEqDiff, Int.reduceToNat]
            |refine zak rfl (zaa (by decide)) rfl ?_
             simp only [eX, ↓reduceIte, Nat.reduceEqDiff, Int.reduceToNat]
            first
            |apply TW_lookG rfl (zaa (by decide)) rfl rfl
             ·intro r
              simp only [zas, eX, ↓reduceIte, Nat.reduceEqDiff]
              refine zag Try.underlying3 rfl hbA ldA ?_
              exact ⟨rfl, Le.refl _⟩
             simp only [eX, ↓reduceIte, Nat.reduceEqDiff, Int.reduceToNat]
            |refine zak rfl (zaa (by decide)) rfl ?_
             simp only [eX, ↓reduceIte, Nat.reduceEqDiff, Int.reduceToNat]
            first
            |apply zaw rfl (zaa (by decide)) rfl rfl
             ·intro r
              simp (disch := (first | omega | decide)) only [zaM, zaN, b_neq, zat, zau, zav, zax, zaz, zay, Bool.not_true, Bool.not_false, eX, ↓reduceIte, Nat.reduceEqDiff]
              exact ⟨rfl, Le.refl _⟩
             simp only [eX, ↓reduceIte, Nat.reduceEqDiff, Int.reduceToNat]
            |refine zak rfl (zaa (by decide)) rfl ?_
             simp only [eX, ↓reduceIte, Nat.reduceEqDiff, Int.reduceToNat]
            apply zah rfl (zaa (by decide)) rfl
            ·intro r
             simp only [x_pick, l_asBool, HL.ite_bool, if_true, if_false, Bool.false_eq_true, eX, ↓reduceIte, Nat.reduceEqDiff]
             exact ⟨rfl, Le.refl _⟩
            simp only [eX, ↓reduceIte, Nat.reduceEqDiff, Int.reduceToNat]
            refine TW_nil ?_
            try simp only [Ex.thnH, Ex.inBlockH, ↓reduceIte, Nat.reduceEqDiff]
            refine hK24 _ _ ?_; try clear hK24 K24
            refine CW_cond (fun r => rfl) (fun c111 => ?_) (fun c111 => ?_)
            ·exfalso; exact cnA c111
            refine CW_skip ?_
            try simp only [Ex.thnH, Ex.inBlockH, ↓reduceIte, Nat.reduceEqDiff]
            refine hK23 _ _ ?_; try clear hK23 K23
            refine zad (fun K25 hK25 => ?_)
            refine zab ?_
            refine zaj rfl ?_
            refine zac (fun K hK r => ?_)
            simp only [zai, fa24_0, zaC, Nat.reduceAdd, Nat.zero_add, eX, ↓reduceIte, Nat.reduceEqDiff, Int.reduceToNat]
            refine hK _ _ ?_; clear hK K
            refine zac (fun K hK r => ?_)
            simp only [zas, eX, ↓reduceIte, Nat.reduceEqDiff, Int.reduceToNat]
            refine zag Try.underlying3 rfl hbA ldA ?_
            try simp only [eX, ↓reduceIte, Nat.reduceEqDiff, Int.reduceToNat]
            refine hK _ _ ?_; clear hK K
            refine zac (fun K hK r => ?_)
            simp only [zai, fa38_0, zaC, Nat.reduceAdd, Nat.zero_add, eX, ↓reduceIte, Nat.reduceEqDiff, Int.reduceToNat]
            refine hK _ _ ?_; clear hK K
            refine zac (fun K hK r => ?_)
            simp only [zas, eX, ↓reduceIte, Nat.reduceEqDiff, Int.reduceToNat]
            refine zag Try.underlying3 rfl hbA ldA ?_
            try simp only [eX, ↓reduceIte, Nat.reduceEqDiff, Int.reduceToNat]
            refine hK _ _ ?_; clear hK K
            refine zac (fun K hK r => ?_)
            simp only [zaP _ bd14, List.map_toArray, List.map_cons, List.map_nil, eX, ↓reduceIte, Nat.reduceEqDiff, Int.reduceToNat]
            refine (ixRank _ _ E (hXB.le (Le.trans hlB53 (Le.trans hl_ lhA))) t (at_ L k).v hLn).mono ?_
            rintro v117 H117 ⟨rfl, hl117⟩
            try have kH117_b3 := hl117 b3 _ hbA
            try have kH117_b4 := hl117 b4 _ hbA
            try have kH117_bw := hl117 bw _ hbA
            try have kH117_bu := hl117 bu _ hbA
            try have kH117_b11 := hl117 b11 _ hbA
            have lH117_H53 : Le H53 H117 := Le.trans lhA hl117
            have lH117_R17 : Le R17 H117 := Le.trans lhA hl117
            rw [← hL]
            obtain ⟨q, hq⟩ : ∃ q, q = fromN L (at_ L k).v := ⟨_, rfl⟩
            rw [← hq]
            have hq1 : q ≤ k := by rw [hq]; exact rank_le hrise hok hkL
            have hq2 : (at_ L q).v = (at_ L k).v := by rw [hq]; exact rank_v hrise hok hkL
            have hq3 : 0 < q → (at_ L (q - 1)).v ≠ (at_ L k).v := by rw [hq]; exact rank_below hrise hok hkL
            have l117 : Le H53 H117 := Le.trans (Le.trans hl_ lhA) hl117
            have k117w : H117 bw = some (.cells cw Tw Fw) := hl117 _ _ hbA
            have k117x : H117 b11 = some (.cells (at_ L k).c.toArray 38) := hl117 _ _ (zan _ _ _)
            try simp only [eX, ↓reduceIte, Nat.reduceEqDiff, Int.reduceToNat]
            refine hK _ _ ?_; clear hK K
            refine zaE rfl ?_
            refine zae ?_
            try simp only [Ex.thnH, Ex.inBlockH, ↓reduceIte, Nat.reduceEqDiff]
            refine hK25 _ _ ?_; try clear hK25 K25
            refine zad (fun K26 hK26 => ?_)
            obtain ⟨R20, hR20⟩ : ∃ R : Hp, R = H117 := ⟨_, rfl⟩
            refine CW_drawR [0, 0, 0, 0, 0, 0, 0, 0, 1, 0, 1, 0, 0, 0, 0, 0, 0, 0, 0, 0, 0, 0, 1, 0, 1, 0, 0, 0] [0, 1, 2, 3, 4, 5, 6, 7, 8, 9, 10, 11, 12, 13, 14, 15, 16, 17, 18, 19, 20, 21, 22, 23, 24, 25, 26, 27] R20 (by kernel_rfl) (by kernel_rfl) (by subst hR20; exact Le.refl _) (fun lR20 => ?_)
            have hRw20 : R20 bw = some (.cells cw Tw Fw) := by rw [hR20]; exact k117w
            have hRx20 : R20 b11 = some (.cells (at_ L k).c.toArray 38) := by rw [hR20]; exact k117x
            apply zah rfl (zaa (by decide)) rfl
            ·intro r
             simp only [zaA, eX, ↓reduceIte, Nat.reduceEqDiff]
             exact ⟨rfl, Le.refl _⟩
            simp only [eX, ↓reduceIte, Nat.reduceEqDiff, Int.reduceToNat]
            apply zah rfl (zaa (by decide)) rfl
            ·intro r
             simp only [zaA, eX, ↓reduceIte, Nat.reduceEqDiff]
             exact ⟨rfl, Le.refl _⟩
            simp only [eX, ↓reduceIte, Nat.reduceEqDiff, Int.reduceToNat]
            apply zah rfl (zaa (by decide)) rfl
            ·intro r
             simp (disch := (first | omega | decide)) only [zaM, zaN, b_gtr, zat, zau, zav, zax, zaz, zay, Bool.not_true, Bool.not_false, eX, ↓reduceIte, Nat.reduceEqDiff]
             exact ⟨rfl, Le.refl _⟩
            simp only [eX, ↓reduceIte, Nat.reduceEqDiff, Int.reduceToNat]
            apply zah rfl (zaa (by decide)) rfl
            ·intro r
             simp only [zaA, eX, ↓reduceIte, Nat.reduceEqDiff]
             exact ⟨rfl, Le.refl _⟩
            simp only [eX, ↓reduceIte, Nat.reduceEqDiff, Int.reduceToNat]
            (first | refine TW_split (d := 121) rfl (fun g121 => ?_) (fun g121 => ?_) | skip)
            all_goals try (exfalso; exact cnA g121)
            all_goals (try simp only [decide_eq_true_eq, decide_eq_false_iff_not, Bool.not_eq_true, Bool.not_eq_false, Bool.and_eq_true, Bool.or_eq_true, Bool.or_eq_false_iff, Bool.not_eq_eq_eq_not, Bool.not_true, Bool.not_false] at g121)
            all_goals
             try simp only [eX, ↓reduceIte, Nat.reduceEqDiff, Int.reduceToNat]
             first
             |apply zaw rfl (zaa (by decide)) rfl rfl
              ·intro r
               simp only [zaA, eX, ↓reduceIte, Nat.reduceEqDiff]
               exact ⟨rfl, Le.refl _⟩
              simp only [eX, ↓reduceIte, Nat.reduceEqDiff, Int.reduceToNat]
             |refine zak rfl (zaa (by decide)) rfl ?_
              simp only [eX, ↓reduceIte, Nat.reduceEqDiff, Int.reduceToNat]
             first
             |apply zaw rfl (zaa (by decide)) rfl rfl
              ·intro r
               simp only [zaA, eX, ↓reduceIte, Nat.reduceEqDiff]
               exact ⟨rfl, Le.refl _⟩
              simp only [eX, ↓reduceIte, Nat.reduceEqDiff, Int.reduceToNat]
             |refine zak rfl (zaa (by decide)) rfl ?_
              simp only [eX, ↓reduceIte, Nat.reduceEqDiff, Int.reduceToNat]
             first
             |apply zaw rfl (zaa (by decide)) rfl rfl
              ·intro r
               simp only [zaF, eX, ↓reduceIte, Nat.reduceEqDiff]
               refine Lt_indexSof Try.underlying33 sz38 ew ixA ixA ?_
               try simp only [Int.toNat_natCast]
               exact ⟨rfl, Le.refl _⟩
              simp only [eX, ↓reduceIte, Nat.reduceEqDiff, Int.reduceToNat]
             |refine zak rfl (zaa (by decide)) rfl ?_
              simp only [eX, ↓reduceIte, Nat.reduceEqDiff, Int.reduceToNat]
             first
             |apply zaw rfl (zaa (by decide)) rfl rfl
              ·intro r
               simp only [zai, fa38_0, zaC, Nat.reduceAdd, Nat.zero_add, eX, ↓reduceIte, Nat.reduceEqDiff]
               exact ⟨rfl, Le.refl _⟩
              simp only [eX, ↓reduceIte, Nat.reduceEqDiff, Int.reduceToNat]
             |refine zak rfl (zaa (by decide)) rfl ?_
              simp only [eX, ↓reduceIte, Nat.reduceEqDiff, Int.reduceToNat]
             first
             |apply TW_lookG rfl (zaa (by decide)) rfl rfl
              ·intro r
               simp only [zas, eX, ↓reduceIte, Nat.reduceEqDiff]
               refine zag Try.underlying3 rfl (by first | (with_reducible assumption) | exact hbA) (v := .int .i64 (at_ L q).v) (by first | exact cell_at En.len atw rfl q (by omega) 0 (by decide) | (rw [cell_at En.len atw rfl q (by omega) 0 (by decide)]; rfl)) ?_
               exact ⟨rfl, Le.refl _⟩
              simp only [eX, ↓reduceIte, Nat.reduceEqDiff, Int.reduceToNat]
             |refine zak rfl (zaa (by decide)) rfl ?_
              simp only [eX, ↓reduceIte, Nat.reduceEqDiff, Int.reduceToNat]
             first
             |apply zaw rfl (zaa (by decide)) rfl rfl
              ·intro r
               simp only [zai, fa38_0, zaC, Nat.reduceAdd, Nat.zero_add, eX, ↓reduceIte, Nat.reduceEqDiff]
               exact ⟨rfl, Le.refl _⟩
              simp only [eX, ↓reduceIte, Nat.reduceEqDiff, Int.reduceToNat]
             |refine zak rfl (zaa (by decide)) rfl ?_
              simp only [eX, ↓reduceIte, Nat.reduceEqDiff, Int.reduceToNat]
             first
             |apply TW_lookG rfl (zaa (by decide)) rfl rfl
              ·intro r
               simp only [zas, eX, ↓reduceIte, Nat.reduceEqDiff]
               refine zag Try.underlying3 rfl hbA ldA ?_
               exact ⟨rfl, Le.refl _⟩
              simp only [eX, ↓reduceIte, Nat.reduceEqDiff, Int.reduceToNat]
             |refine zak rfl (zaa (by decide)) rfl ?_
              simp only [eX, ↓reduceIte, Nat.reduceEqDiff, Int.reduceToNat]
             first
             |apply zaw rfl (zaa (by decide)) rfl rfl
              ·intro r
               simp (disch := (first | omega | decide)) only [zaM, zaN, b_neq, zat, zau, zav, zax, zaz, zay, Bool.not_true, Bool.not_false, eX, ↓reduceIte, Nat.reduceEqDiff]
               exact ⟨rfl, Le.refl _⟩
              simp only [eX, ↓reduceIte, Nat.reduceEqDiff, Int.reduceToNat]
             |refine zak rfl (zaa (by decide)) rfl ?_
              simp only [eX, ↓reduceIte, Nat.reduceEqDiff, Int.reduceToNat]
             apply zah rfl (zaa (by decide)) rfl
             ·intro r
              simp only [x_pick, l_asBool, HL.ite_bool, if_true, if_false, Bool.false_eq_true, eX, ↓reduceIte, Nat.reduceEqDiff]
              exact ⟨rfl, Le.refl _⟩
             simp only [eX, ↓reduceIte, Nat.reduceEqDiff, Int.reduceToNat]
             apply zah rfl (zaa (by decide)) rfl
             ·intro r
              simp only [zaA, eX, ↓reduceIte, Nat.reduceEqDiff]
              exact ⟨rfl, Le.refl _⟩
             simp only [eX, ↓reduceIte, Nat.reduceEqDiff, Int.reduceToNat]
             (first | refine TW_split (d := 131) rfl (fun g131 => ?_) (fun g131 => ?_) | skip)
             all_goals try (exfalso; exact cnA g131)
             all_goals (try simp only [decide_eq_true_eq, decide_eq_false_iff_not, Bool.not_eq_true, Bool.not_eq_false, Bool.and_eq_true, Bool.or_eq_true, Bool.or_eq_false_iff, Bool.not_eq_eq_eq_not, Bool.not_true, Bool.not_false] at g131)
             all_goals
              try simp only [eX, ↓reduceIte, Nat.reduceEqDiff, Int.reduceToNat]
              first
              |apply zaw rfl (zaa (by decide)) rfl rfl
               ·intro r
                simp only [zaA, eX, ↓reduceIte, Nat.reduceEqDiff]
                exact ⟨rfl, Le.refl _⟩
               simp only [eX, ↓reduceIte, Nat.reduceEqDiff, Int.reduceToNat]
              |refine zak rfl (zaa (by decide)) rfl ?_
               simp only [eX, ↓reduceIte, Nat.reduceEqDiff, Int.reduceToNat]
              first
              |apply zaw rfl (zaa (by decide)) rfl rfl
               ·intro r
                simp (disch := (first | omega | decide)) only [zaM, zaN, b_gtr, zat, zau, zav, zax, zaz, zay, Bool.not_true, Bool.not_false, eX, ↓reduceIte, Nat.reduceEqDiff]
                exact ⟨rfl, Le.refl _⟩
               simp only [eX, ↓reduceIte, Nat.reduceEqDiff, Int.reduceToNat]
              |refine zak rfl (zaa (by decide)) rfl ?_
               simp only [eX, ↓reduceIte, Nat.reduceEqDiff, Int.reduceToNat]
              first
              |apply zaw rfl (zaa (by decide)) rfl rfl
               ·intro r
                simp only [zaA, eX, ↓reduceIte, Nat.reduceEqDiff]
                exact ⟨rfl, Le.refl _⟩
               simp only [eX, ↓reduceIte, Nat.reduceEqDiff, Int.reduceToNat]
              |refine zak rfl (zaa (by decide)) rfl ?_
               simp only [eX, ↓reduceIte, Nat.reduceEqDiff, Int.reduceToNat]
              (first | refine TW_split (d := 134) rfl (fun g134 => ?_) (fun g134 => ?_) | skip)
              all_goals try (exfalso; exact cnA g134)
              all_goals (try simp only [decide_eq_true_eq, decide_eq_false_iff_not, Bool.not_eq_true, Bool.not_eq_false, Bool.and_eq_true, Bool.or_eq_true, Bool.or_eq_false_iff, Bool.not_eq_eq_eq_not, Bool.not_true, Bool.not_false] at g134)
              all_goals
               try simp only [eX, ↓reduceIte, Nat.reduceEqDiff, Int.reduceToNat]
               first
               |apply zaw rfl (zaa (by decide)) rfl rfl
                ·intro r
                 simp only [zaA, eX, ↓reduceIte, Nat.reduceEqDiff]
                 exact ⟨rfl, Le.refl _⟩
                simp only [eX, ↓reduceIte, Nat.reduceEqDiff, Int.reduceToNat]
               |refine zak rfl (zaa (by decide)) rfl ?_
                simp only [eX, ↓reduceIte, Nat.reduceEqDiff, Int.reduceToNat]
               first
               |apply zaw rfl (zaa (by decide)) rfl rfl
                ·intro r
                 simp only [zaA, eX, ↓reduceIte, Nat.reduceEqDiff]
                 exact ⟨rfl, Le.refl _⟩
                simp only [eX, ↓reduceIte, Nat.reduceEqDiff, Int.reduceToNat]
               |refine zak rfl (zaa (by decide)) rfl ?_
                simp only [eX, ↓reduceIte, Nat.reduceEqDiff, Int.reduceToNat]
               first
               |apply zaw rfl (zaa (by decide)) rfl rfl
                ·intro r
                 simp (disch := (first | omega | decide)) only [zaM, zaN, b_sub, zaI, zaL, zaK, wrap_u8, eX, ↓reduceIte, Nat.reduceEqDiff]
                 rw [show ((q : Int) - 1) = ((q - 1 : Nat) : Int) from by omega]
                 exact ⟨rfl, Le.refl _⟩
                simp only [eX, ↓reduceIte, Nat.reduceEqDiff, Int.reduceToNat]
               |refine zak rfl (zaa (by decide)) rfl ?_
                simp only [eX, ↓reduceIte, Nat.reduceEqDiff, Int.reduceToNat]
               first
               |apply zaw rfl (zaa (by decide)) rfl rfl
                ·intro r
                 simp only [zaF, eX, ↓reduceIte, Nat.reduceEqDiff]
                 refine Lt_indexSof Try.underlying33 sz38 ew ixA ixA ?_
                 try simp only [Int.toNat_natCast]
                 exact ⟨rfl, Le.refl _⟩
                simp only [eX, ↓reduceIte, Nat.reduceEqDiff, Int.reduceToNat]
               |refine zak rfl (zaa (by decide)) rfl ?_
                simp only [eX, ↓reduceIte, Nat.reduceEqDiff, Int.reduceToNat]
               first
               |apply zaw rfl (zaa (by decide)) rfl rfl
                ·intro r
                 simp only [zai, fa38_0, zaC, Nat.reduceAdd, Nat.zero_add, eX, ↓reduceIte, Nat.reduceEqDiff]
                 exact ⟨rfl, Le.refl _⟩
                simp only [eX, ↓reduceIte, Nat.reduceEqDiff, Int.reduceToNat]
               |refine zak rfl (zaa (by decide)) rfl ?_
                simp only [eX, ↓reduceIte, Nat.reduceEqDiff, Int.reduceToNat]
               first
               |apply TW_lookG rfl (zaa (by decide)) rfl rfl
                ·intro r
                 simp only [zas, eX, ↓reduceIte, Nat.reduceEqDiff]
                 refine zag Try.underlying3 rfl (by first | (with_reducible assumption) | exact hbA) (v := .int .i64 (at_ L (q - 1)).v) (by first | exact cell_at En.len atw rfl (q - 1) (by omega) 0 (by decide) | (rw [cell_at En.len atw rfl (q - 1) (by omega) 0 (by decide)]; rfl)) ?_
                 exact ⟨rfl, Le.refl _⟩
                simp only [eX, ↓reduceIte, Nat.reduceEqDiff, Int.reduceToNat]
               |refine zak rfl (zaa (by decide)) rfl ?_
                simp only [eX, ↓reduceIte, Nat.reduceEqDiff, Int.reduceToNat]
               first
               |apply zaw rfl (zaa (by decide)) rfl rfl
                ·intro r
                 simp only [zai, fa38_0, zaC, Nat.reduceAdd, Nat.zero_add, eX, ↓reduceIte, Nat.reduceEqDiff]
                 exact ⟨rfl, Le.refl _⟩
                simp only [eX, ↓reduceIte, Nat.reduceEqDiff, Int.reduceToNat]
               |refine zak rfl (zaa (by decide)) rfl ?_
                simp only [eX, ↓reduceIte, Nat.reduceEqDiff, Int.reduceToNat]
               first
               |apply TW_lookG rfl (zaa (by decide)) rfl rfl
                ·intro r
                 simp only [zas, eX, ↓reduceIte, Nat.reduceEqDiff]
                 refine zag Try.underlying3 rfl hbA ldA ?_
                 exact ⟨rfl, Le.refl _⟩
                simp only [eX, ↓reduceIte, Nat.reduceEqDiff, Int.reduceToNat]
               |refine zak rfl (zaa (by decide)) rfl ?_
                simp only [eX, ↓reduceIte, Nat.reduceEqDiff, Int.reduceToNat]
               first
               |apply zaw rfl (zaa (by decide)) rfl rfl
                ·intro r
                 simp (disch := (first | omega | decide)) only [zaM, zaN, b_eql, zat, zau, zav, zax, zaz, zay, Bool.not_true, Bool.not_false, eX, ↓reduceIte, Nat.reduceEqDiff]
                 exact ⟨rfl, Le.refl _⟩
                simp only [eX, ↓reduceIte, Nat.reduceEqDiff, Int.reduceToNat]
               |refine zak rfl (zaa (by decide)) rfl ?_
                simp only [eX, ↓reduceIte, Nat.reduceEqDiff, Int.reduceToNat]
               first
               |apply zaw rfl (zaa (by decide)) rfl rfl
                ·intro r
                 simp only [x_pick, l_asBool, HL.ite_bool, if_true, if_false, Bool.false_eq_true, eX, ↓reduceIte, Nat.reduceEqDiff]
                 exact ⟨rfl, Le.refl _⟩
                simp only [eX, ↓reduceIte, Nat.reduceEqDiff, Int.reduceToNat]
               |refine zak rfl (zaa (by decide)) rfl ?_
                simp only [eX, ↓reduceIte, Nat.reduceEqDiff, Int.reduceToNat]
               apply zah rfl (zaa (by decide)) rfl
               ·intro r
                simp only [x_pick, l_asBool, HL.ite_bool, if_true, if_false, Bool.false_eq_true, eX, ↓reduceIte, Nat.reduceEqDiff]
                exact ⟨rfl, Le.refl _⟩
               simp only [eX, ↓reduceIte, Nat.reduceEqDiff, Int.reduceToNat]
               refine TW_nil ?_
               try simp only [Ex.thnH, Ex.inBlockH, ↓reduceIte, Nat.reduceEqDiff]
               refine hK26 _ _ ?_; try clear hK26 K26
               refine CW_cond (fun r => rfl) (fun c145 => ?_) (fun c145 => ?_)
               ·exfalso; exact cnA c145
               refine CW_skip ?_
               try simp only [Ex.thnH, Ex.inBlockH, ↓reduceIte, Nat.reduceEqDiff]
               refine hK21 _ _ ?_; try clear hK21 K21
               refine zab ?_
               refine zac (fun K hK r => ?_)
               simp (disch := (first | omega | decide)) only [zaM, zaN, b_add, zaI, zaL, zaK, wrap_u8, eX, ↓reduceIte, Nat.reduceEqDiff, Int.reduceToNat]
               refine hK _ _ ?_; clear hK K
               refine zaj rfl ?_
               refine zae ?_
               try simp only [Ex.thnH, Ex.inBlockH, ↓reduceIte, Nat.reduceEqDiff]
               exact ⟨L.length - (k + 1), by omega, k + 1, by omega, rfl, l117, rfl, rfl, rfl, rfl, rfl, rfl, rfl, rfl, trivial⟩
      ·first
       |(exfalso; exact cnA c59; done)
       |skip
        (try simp only [decide_eq_true_eq, decide_eq_false_iff_not, Bool.not_eq_true, Bool.not_eq_false, Bool.and_eq_true, Bool.or_eq_true, Bool.or_eq_false_iff, Bool.not_eq_eq_eq_not, Bool.not_true, Bool.not_false] at c59)
        obtain rfl : k = L.length := by omega
        obtain ⟨HQ, hHQ⟩ : ∃ HQ : Hp, HQ = H_ := ⟨_, rfl⟩
        subst hHQ
        have hlBQ := Le.trans hlB53 hl_
        have hXQ := hXB.le hlBQ
        have hlBQ' : Le H37 HQ := Le.trans hl41 (Le.trans hl53 hl_)
        have kQ3 := hk3
        have kQ4 := hk4
        have lGQ := Le.trans lGB hlBQ
        refine CW_exit ?_
        try simp only [Ex.thnH, Ex.inBlockH, ↓reduceIte, Nat.reduceEqDiff]
        refine hK17 _ _ ?_; try clear hK17 K17
        refine zad (fun K27 hK27 => ?_)
        refine zab ?_
        refine zaj rfl ?_
        refine zac (fun K hK r => ?_)
        simp only [zai, fa24_0, zaC, Nat.reduceAdd, Nat.zero_add, eX, ↓reduceIte, Nat.reduceEqDiff, Int.reduceToNat]
        refine hK _ _ ?_; clear hK K
        refine zac (fun K hK r => ?_)
        simp only [zas, eX, ↓reduceIte, Nat.reduceEqDiff, Int.reduceToNat]
        refine zag Try.underlying3 rfl hbA ldA ?_
        try simp only [eX, ↓reduceIte, Nat.reduceEqDiff, Int.reduceToNat]
        refine hK _ _ ?_; clear hK K
        refine zac (fun K hK r => ?_)
        simp only [zai, fa24_1, zaC, Nat.reduceAdd, Nat.zero_add, eX, ↓reduceIte, Nat.reduceEqDiff, Int.reduceToNat]
        refine hK _ _ ?_; clear hK K
        refine zac (fun K hK r => ?_)
        simp only [zas, eX, ↓reduceIte, Nat.reduceEqDiff, Int.reduceToNat]
        refine zag Try.underlying3 rfl hbA ldA ?_
        try simp only [eX, ↓reduceIte, Nat.reduceEqDiff, Int.reduceToNat]
        refine hK _ _ ?_; clear hK K
        refine zac (fun K hK r => ?_)
        simp only [zai, fa24_2, zaC, Nat.reduceAdd, Nat.zero_add, eX, ↓reduceIte, Nat.reduceEqDiff, Int.reduceToNat]
        refine hK _ _ ?_; clear hK K
        refine zac (fun K hK r => ?_)
        simp only [zas, eX, ↓reduceIte, Nat.reduceEqDiff, Int.reduceToNat]
        refine zag Try.underlying3 rfl hbA ldA ?_
        try simp only [eX, ↓reduceIte, Nat.reduceEqDiff, Int.reduceToNat]
        refine hK _ _ ?_; clear hK K
        refine zac (fun K hK r => ?_)
        simp only [zaP _ bd15, List.map_toArray, List.map_cons, List.map_nil, eX, ↓reduceIte, Nat.reduceEqDiff, Int.reduceToNat]
        refine (between_ok _ _ E hXQ t lo hi hi1 hi2 hLn hgo.2).mono ?_
        rintro v154 H154 ⟨hl154, N, hlN, hnew, hit⟩
        rw [← hL] at hit
        try have kH154_b3 := hl154 b3 _ hbA
        try have kH154_b4 := hl154 b4 _ hbA
        try have kH154_bw := hl154 bw _ hbA
        try have kH154_bu := hl154 bu _ hbA
        have lH154_HQ : Le HQ H154 := Le.trans lhA hl154
        try simp only [eX, ↓reduceIte, Nat.reduceEqDiff, Int.reduceToNat]
        refine hK _ _ ?_; clear hK K
        refine zaE rfl ?_
        refine zae ?_
        try simp only [Ex.thnH, Ex.inBlockH, ↓reduceIte, Nat.reduceEqDiff]
        refine hK27 _ _ ?_; try clear hK27 K27
        refine zad (fun K28 hK28 => ?_)
        refine zab ?_
        refine zaj rfl ?_
        refine zac (fun K hK r => ?_)
        simp only [zai, fa24_0, zaC, Nat.reduceAdd, Nat.zero_add, eX, ↓reduceIte, Nat.reduceEqDiff, Int.reduceToNat]
        refine hK _ _ ?_; clear hK K
        refine zac (fun K hK r => ?_)
        simp only [zas, eX, ↓reduceIte, Nat.reduceEqDiff, Int.reduceToNat]
        refine zag Try.underlying3 rfl hbA ldA ?_
        try simp only [eX, ↓reduceIte, Nat.reduceEqDiff, Int.reduceToNat]
        refine hK _ _ ?_; clear hK K
        refine zac (fun K hK r => ?_)
        simp only [zai, fa24_1, zaC, Nat.reduceAdd, Nat.zero_add, eX, ↓reduceIte, Nat.reduceEqDiff, Int.reduceToNat]
        refine hK _ _ ?_; clear hK K
        refine zac (fun K hK r => ?_)
        simp only [zas, eX, ↓reduceIte, Nat.reduceEqDiff, Int.reduceToNat]
        refine zag Try.underlying3 rfl hbA ldA ?_
        try simp only [eX, ↓reduceIte, Nat.reduceEqDiff, Int.reduceToNat]
        refine hK _ _ ?_; clear hK K
        refine zac (fun K hK r => ?_)
        simp only [zai, fa24_2, zaC, Nat.reduceAdd, Nat.zero_add, eX, ↓reduceIte, Nat.reduceEqDiff, Int.reduceToNat]
        refine hK _ _ ?_; clear hK K
        refine zac (fun K hK r => ?_)
        simp only [zas, eX, ↓reduceIte, Nat.reduceEqDiff, Int.reduceToNat]
        refine zag Try.underlying3 rfl hbA ldA ?_
        try simp only [eX, ↓reduceIte, Nat.reduceEqDiff, Int.reduceToNat]
        refine hK _ _ ?_; clear hK K
        refine zac (fun K hK r => ?_)
        simp only [zaP _ bd11, List.map_toArray, List.map_cons, List.map_nil, eX, ↓reduceIte, Nat.reduceEqDiff, Int.reduceToNat]
        refine (list_ok _ _ E (hXQ.le hl154) t lo hi hi1 hi2 hLn hgo.2).mono ?_
        rintro v162 H162 ⟨hl162, rs162, ho162, hr162⟩
        rw [← hL] at ho162
        obtain ⟨l, hl⟩ : ∃ l, l = betE L lo hi := ⟨_, rfl⟩
        have hll : l.length ≤ 100000 := by rw [hl]; exact Nat.le_trans (betE_len _ _ _) hLn'
        rw [← hl] at ho162 hit
        try have kH162_b3 := hl162 b3 _ hbA
        try have kH162_b4 := hl162 b4 _ hbA
        try have kH162_bw := hl162 bw _ hbA
        try have kH162_bu := hl162 bu _ hbA
        have lH162_HQ : Le HQ H162 := Le.trans lhA hl162
        obtain ⟨wa, wc, rfl⟩ := ho162.holds.form
        try simp only [eX, ↓reduceIte, Nat.reduceEqDiff, Int.reduceToNat]
        refine hK _ _ ?_; clear hK K
        refine zac (fun K hK r => ?_)
        simp only [x_alloc, zr33, zaf, Value.cells, eX, ↓reduceIte, Nat.reduceEqDiff, Int.reduceToNat]
        intro b14 hb14
        try have n14_b3 : b3 ≠ b14 := zal hbA hb14
        try have n14_b4 : b4 ≠ b14 := zal hbA hb14
        try have n14_bw : bw ≠ b14 := zal hbA hb14
        try have n14_bu : bu ≠ b14 := zal hbA hb14
        have f14_HQ : HQ b14 = none := zam lhA hb14
        try simp only [eX, ↓reduceIte, Nat.reduceEqDiff, Int.reduceToNat]
        refine hK _ _ ?_; clear hK K
        refine OW_op rfl (lt_none) (fun K hK r => ?_)
        simp only [x_store, eX, ↓reduceIte, Nat.reduceEqDiff, Int.reduceToNat]
        refine Lt_storeAt1 sz33 hbA bdA plA fzA ?_
        try simp only [setL0, setL1, setL2, setL3, setL4, setL5, setL6, setL7, setL8, setL9]
        try simp only [eX, ↓reduceIte, Nat.reduceEqDiff, Int.reduceToNat]
        refine hK _ _ ?_; clear hK K
        refine zae ?_
        try simp only [Ex.thnH, Ex.inBlockH, ↓reduceIte, Nat.reduceEqDiff]
        refine hK28 _ _ ?_; try clear hK28 K28
        refine zad (fun K29 hK29 => ?_)
        refine zad (fun K30 hK30 => ?_)
        refine zab ?_
        refine zaj rfl ?_
        refine zac (fun K hK r => ?_)
        simp only [zaG, l_len, List.map_toArray, List.map_cons, List.map_nil, zaH _ _ Try.underlying33, eX, ↓reduceIte, Nat.reduceEqDiff, Int.reduceToNat]
        obtain ⟨HW, hHW⟩ : ∃ HW : Hp, HW = H162.upd b14 (.cells #[.slice wa l.length wc] 33) := ⟨_, rfl⟩
        rw [← hHW]
        have l162W : Le H162 HW := by rw [hHW]; exact zao (Le.refl _) hb14
        have l154W := Le.trans hl162 l162W
        have lQW := Le.trans hl154 l154W
        obtain ⟨G6, hS6, hG16, hG6⟩ := hS_.wide (Le.trans hlBQ lQW)
        have g3 := hG16 _ _ k1_3
        have g4 := hG16 _ _ k1_4
        have g14 : G6 b14 = some (.cells #[.slice wa l.length wc] 33) := hG6 _ _ (by rw [hHW]; exact zan _ _ _) (zam (Le.trans hlBQ (Le.trans hl154 hl162)) hb14)
        have hoA := ho37.stay (H' := G6) (fun r o hr ho => hG6 r o (lQW _ _ (hlBQ' _ _ ho)) (hr37 r hr))
        have hoW := ho162.stay (H' := G6) (fun r o hr ho => hG6 r o (l162W _ _ ho) (zam (Le.trans hlBQ hl154) (hr162 r hr)))
        have hNG : Le N G6 := fun x o hx => hG6 x o (l154W _ _ (hlN _ _ hx)) (zam hlBQ (hnew x (by rw [hx]; simp)))
        have lG6 := Le.trans lG1 hG16
        refine hK _ _ ?_; clear hK K
        refine zaj rfl ?_
        refine zae ?_
        try simp only [Ex.thnH, Ex.inBlockH, ↓reduceIte, Nat.reduceEqDiff]
        refine hK30 _ _ ?_; try clear hK30 K30
        refine CW_block ?_
        refine CW_loop (fun m e H_ => ∃ k : Nat, k ≤ L.length ∧ m = L.length - k ∧ StX (IX b (killE E t k)) G6 H_ ∧ Env.has [(3, .pointer (some ⟨b3, 0, none⟩)), (4, .pointer (some ⟨b4, 0, none⟩)), (5, .pointer (some ⟨b, 0, none⟩)), (13, v154), (14, .pointer (some ⟨b14, 0, none⟩)), (163, .slice wa1 L.length wc1), (164, .int .i64 L.length), (165, .int .i64 k)] e) (L.length) ?_ ?_
        ·skip
         exact ⟨0, by omega, by omega, by rw [killE_zero]; exact hS6, rfl, rfl, rfl, rfl, rfl, rfl, rfl, rfl, trivial⟩
        intro m_ e_ H_ hI_
        obtain ⟨k, hk, rfl, hS_, he⟩ := hI_
        have hk3 := hS_.old _ _ g3
        have hk4 := hS_.old _ _ g4
        have hk14 := hS_.old _ _ g14
        refine CW_env he.sub ?_; clear he e_
        refine zad (fun K31 hK31 => ?_)
        refine zab ?_
        refine zac (fun K hK r => ?_)
        simp (disch := (first | omega | decide)) only [zaM, zaN, b_lss, zat, zau, zav, zax, zaz, zay, Bool.not_true, Bool.not_false, eX, ↓reduceIte, Nat.reduceEqDiff, Int.reduceToNat]
        refine hK _ _ ?_; clear hK K
        refine zae ?_
        try simp only [Ex.thnH, Ex.inBlockH, ↓reduceIte, Nat.reduceEqDiff]
        refine hK31 _ _ ?_; try clear hK31 K31
        refine zad (fun K32 hK32 => ?_)
        refine CW_cond (fun r => rfl) (fun c166 => ?_) (fun c166 => ?_)
        ·first
         |(exfalso; exact cnA c166; done)
         |skip
          (try simp only [decide_eq_true_eq, decide_eq_false_iff_not, Bool.not_eq_true, Bool.not_eq_false, Bool.and_eq_true, Bool.or_eq_true, Bool.or_eq_false_iff, Bool.not_eq_eq_eq_not, Bool.not_true, Bool.not_false] at c166)
          have hkL : k < L.length := by omega
          obtain ⟨bw, ow, cw, Tw, Fw, ew, hbw, hsw, atw⟩ := (hoA.holds.le hS_.old).at (by omega)
          refine CW_skip ?_
          try simp only [Ex.thnH, Ex.inBlockH, ↓reduceIte, Nat.reduceEqDiff]
          refine hK32 _ _ ?_; try clear hK32 K32
          refine zad (fun K33 hK33 => ?_)
          refine CW_block ?_
          refine zad (fun K34 hK34 => ?_)
          refine zab ?_
          refine zac (fun K hK r => ?_)
          simp only [zaF, eX, ↓reduceIte, Nat.reduceEqDiff, Int.reduceToNat]
          refine Lt_indexSof Try.underlying33 sz38 ew ixA ixA ?_
          try simp only [Int.toNat_natCast]
          refine hK _ _ ?_; clear hK K
          refine zac (fun K hK r => ?_)
          simp only [zas, eX, ↓reduceIte, Nat.reduceEqDiff, Int.reduceToNat]
          refine Lt_loadAtA Try.underlying38 rfl sz38 hbA (by omega) ?_
          rw [ext_at En.len atw rfl k (by omega) hsw]
          refine hK _ _ ?_; clear hK K
          refine zac (fun K hK r => ?_)
          simp only [x_alloc, zr38, zaf, Value.cells, eX, ↓reduceIte, Nat.reduceEqDiff, Int.reduceToNat]
          intro b16 hb16
          try have n16_b3 : b3 ≠ b16 := zal hbA hb16
          try have n16_b4 : b4 ≠ b16 := zal hbA hb16
          try have n16_b14 : b14 ≠ b16 := zal hbA hb16
          try have n16_bw : bw ≠ b16 := zal hbA hb16
          try simp only [eX, ↓reduceIte, Nat.reduceEqDiff, Int.reduceToNat]
          refine hK _ _ ?_; clear hK K
          refine OW_op rfl (lt_none) (fun K hK r => ?_)
          simp only [x_store, eX, ↓reduceIte, Nat.reduceEqDiff, Int.reduceToNat]
          first | refine Lt_storeAll sz38 bdA hbA bdA plA (by decide) ?_ | refine Lt_storeAtA sz38 bdA hbA bdA plA (by decide) ?_
          try simp only [eX, ↓reduceIte, Nat.reduceEqDiff, Int.reduceToNat]
          refine hK _ _ ?_; clear hK K
          refine zae ?_
          try simp only [Ex.thnH, Ex.inBlockH, ↓reduceIte, Nat.reduceEqDiff]
          refine hK34 _ _ ?_; try clear hK34 K34
          refine zab ?_
          refine zaj rfl ?_
          refine zac (fun K hK r => ?_)
          simp only [zai, fa24_0, zaC, Nat.reduceAdd, Nat.zero_add, eX, ↓reduceIte, Nat.reduceEqDiff, Int.reduceToNat]
          refine hK _ _ ?_; clear hK K
          refine zac (fun K hK r => ?_)
          simp only [zas, eX, ↓reduceIte, Nat.reduceEqDiff, Int.reduceToNat]
          refine zag Try.underlying3 rfl hbA ldA ?_
          try simp only [eX, ↓reduceIte, Nat.reduceEqDiff, Int.reduceToNat]
          refine hK _ _ ?_; clear hK K
          refine zac (fun K hK r => ?_)
          simp only [zai, fa38_1, zaC, Nat.reduceAdd, Nat.zero_add, eX, ↓reduceIte, Nat.reduceEqDiff, Int.reduceToNat]
          refine hK _ _ ?_; clear hK K
          refine zac (fun K hK r => ?_)
          simp only [zas, eX, ↓reduceIte, Nat.reduceEqDiff, Int.reduceToNat]
          refine zag Try.underlying3 rfl hbA ldA ?_
          try simp only [eX, ↓reduceIte, Nat.reduceEqDiff, Int.reduceToNat]
          refine hK _ _ ?_; clear hK K
          refine zac (fun K hK r => ?_)
          simp only [x_build, bp44, List.map_toArray, List.map_cons, List.map_nil, eX, ↓reduceIte, Nat.reduceEqDiff, Int.reduceToNat]
          rw [fill_one rfl clA bdA]
          rw [fill_one rfl clA bdA]
          simp only [fill_nil, zaf, List.setIfInBounds_toArray, List.set_cons_zero, List.set_cons_succ]
          try simp only [eX, ↓reduceIte, Nat.reduceEqDiff, Int.reduceToNat]
          refine hK _ _ ?_; clear hK K
          refine zac (fun K hK r => ?_)
          simp only [x_build, List.map_toArray, List.map_cons, List.map_nil, eX, ↓reduceIte, Nat.reduceEqDiff, Int.reduceToNat]
          rw [mkWrD]
          refine hK _ _ ?_; clear hK K
          refine zac (fun K hK r => ?_)
          simp only [x_buildSlice, List.map_toArray, List.map_cons, List.map_nil, eX, ↓reduceIte, Nat.reduceEqDiff, Int.reduceToNat]
          refine Lt_buildSlice (vs := [_]) Try.underlying29 sz46 zr46 rfl bsA (by first | decide | (simp; done)) ?_
          simp only [List.flatMap_cons, List.flatMap_nil, Value.cells, List.append_nil, List.cons_append, List.nil_append, List.length_cons, List.length_nil, Nat.zero_add, Nat.reduceAdd]
          intro b176 hb176
          try have n176_b3 : b3 ≠ b176 := zal hbA hb176
          try have n176_b4 : b4 ≠ b176 := zal hbA hb176
          try have n176_b14 : b14 ≠ b176 := zal hbA hb176
          try have n176_bw : bw ≠ b176 := zal hbA hb176
          try have n176_b16 : b16 ≠ b176 := zal hbA hb176
          try simp only [eX, ↓reduceIte, Nat.reduceEqDiff, Int.reduceToNat]
          refine hK _ _ ?_; clear hK K
          refine zac (fun K hK r => ?_)
          simp only [zaP _ bd10, List.map_toArray, List.map_cons, List.map_nil, eX, ↓reduceIte, Nat.reduceEqDiff, Int.reduceToNat]
          have hS16 := hS_.put (b := b16) (.inl hb16) (.cells (at_ L k).c.toArray 38)
          have f16 : G6 b16 = none := zam hS_.old hb16
          have hS176 := hS16.put (b := b176) (.inl hb176) (.cells (wrs [⟨t, (at_ L k).k, 0, true⟩]).toArray 46)
          have f176 := zam hS16.old hb176
          refine (tell_ok _ _ b (killE E t k) hS176 (some ⟨b176, 0, none⟩) 1 [⟨t, (at_ L k).k, 0, true⟩] ⟨rfl, .inr ⟨b176, 0, 1, _, _, _, rfl, zan _ _ _, by simp, by simp⟩⟩ 620 (killE_sz hsE t k) (by simp)).mono ?_
          rintro v177 H177 ⟨rfl, hS177⟩
          rw [show tellE (killE E t k) [⟨t, (at_ L k).k, 0, true⟩] = killE E t (k + 1) from by rw [hL]; exact killE_succ (by rw [← hL]; exact honce) (by rw [← hL]; exact hkL)] at hS177
          try simp only [eX, ↓reduceIte, Nat.reduceEqDiff, Int.reduceToNat]
          refine hK _ _ ?_; clear hK K
          refine zae ?_
          try simp only [Ex.thnH, Ex.inBlockH, ↓reduceIte, Nat.reduceEqDiff]
          refine hK33 _ _ ?_; try clear hK33 K33
          refine zab ?_
          refine zac (fun K hK r => ?_)
          simp (disch := (first | omega | decide)) only [zaM, zaN, b_add, zaI, zaL, zaK, wrap_u8, eX, ↓reduceIte, Nat.reduceEqDiff, Int.reduceToNat]
          refine hK _ _ ?_; clear hK K
          refine zaj rfl ?_
          refine zae ?_
          try simp only [Ex.thnH, Ex.inBlockH, ↓reduceIte, Nat.reduceEqDiff]
          exact ⟨L.length - (k + 1), by omega, k + 1, by omega, rfl, hS177.less (zao (zao (Le.refl _) f16) (zam (zao (Le.refl _) f16) f176)), rfl, rfl, rfl, rfl, rfl, rfl, rfl, rfl, trivial⟩
        ·first
         |(exfalso; exact cnA c166; done)
         |skip
          (try simp only [decide_eq_true_eq, decide_eq_false_iff_not, Bool.not_eq_true, Bool.not_eq_false, Bool.and_eq_true, Bool.or_eq_true, Bool.or_eq_false_iff, Bool.not_eq_eq_eq_not, Bool.not_true, Bool.not_false] at c166)
          obtain rfl : k = L.length := by omega
          obtain ⟨HK, hHK⟩ : ∃ HK : Hp, HK = H_ := ⟨_, rfl⟩
          subst hHK
          have hK3 := hk3
          have hK4 := hk4
          have hK14 := hk14
          have lGK := hS_.old
          have hXK := xv_of hS_
          refine CW_exit ?_
          try simp only [Ex.thnH, Ex.inBlockH, ↓reduceIte, Nat.reduceEqDiff]
          refine hK29 _ _ ?_; try clear hK29 K29
          refine zad (fun K35 hK35 => ?_)
          refine zab ?_
          refine zac (fun K hK r => ?_)
          simp only [x_alloc, zr3, zaf, Value.cells, eX, ↓reduceIte, Nat.reduceEqDiff, Int.reduceToNat]
          intro b17 hb17
          try have n17_b3 : b3 ≠ b17 := zal hbA hb17
          try have n17_b4 : b4 ≠ b17 := zal hbA hb17
          try have n17_b14 : b14 ≠ b17 := zal hbA hb17
          try have n17_bw : bw ≠ b17 := zal hbA hb17
          have f17_HK : HK b17 = none := zam lhA hb17
          try simp only [eX, ↓reduceIte, Nat.reduceEqDiff, Int.reduceToNat]
          refine hK _ _ ?_; clear hK K
          refine OW_op rfl (lt_none) (fun K hK r => ?_)
          simp only [x_store, eX, ↓reduceIte, Nat.reduceEqDiff, Int.reduceToNat]
          refine Lt_storeAt1 sz3 hbA bdA plA fzA ?_
          try simp only [setL0, setL1, setL2, setL3, setL4, setL5, setL6, setL7, setL8, setL9]
          try simp only [eX, ↓reduceIte, Nat.reduceEqDiff, Int.reduceToNat]
          refine hK _ _ ?_; clear hK K
          refine zae ?_
          try simp only [Ex.thnH, Ex.inBlockH, ↓reduceIte, Nat.reduceEqDiff]
          refine hK35 _ _ ?_; try clear hK35 K35
          refine zad (fun K36 hK36 => ?_)
          refine zad (fun K37 hK37 => ?_)
          refine zab ?_
          refine zaj rfl ?_
          refine zae ?_
          try simp only [Ex.thnH, Ex.inBlockH, ↓reduceIte, Nat.reduceEqDiff]
          refine hK37 _ _ ?_; try clear hK37 K37
          refine CW_block ?_
          refine CW_rangeFunc (fun r => rfl) (hit) (fun i H_ => Le HK H_ ∧ H_ b17 = some (.cells #[.int .i64 (i : Int)] 3)) ?_ ?_ (by decide) ?_ ?_
          ·skip
           rintro i H_ ⟨h1, _⟩
           exact Le.trans hNG (Le.trans lGK h1)
          ·skip
           exact ⟨zao (Le.refl _) hb17, zan _ _ _⟩
          ·intro l_ i_ hi_ H_ hI_ args_ F_ hT_ hF_
           obtain ⟨hlK, hk17⟩ := hI_
           obtain ⟨rfl, rfl⟩ := hT_
           rw [join_empty]
           have hx14 := hlK _ _ hK14
           obtain ⟨bw, ow, cw, Tw, Fw, ew, hbw, hsw, atw⟩ := ((hoW.holds.le lGK).le hlK).at (by omega)
           refine ⟨rfl, ?_⟩
           simp only [putAll, List.zip_cons_cons, List.zip_nil_right, List.zip_nil_left, eX, ↓reduceIte, Nat.reduceEqDiff, Int.reduceToNat]
           refine zab ?_
           refine zac (fun K hK r => ?_)
           simp only [x_alloc, zr38, zaf, Value.cells, eX, ↓reduceIte, Nat.reduceEqDiff, Int.reduceToNat]
           intro b18 hb18
           try have n18_b17 : b17 ≠ b18 := zal hbA hb18
           try have n18_b14 : b14 ≠ b18 := zal hbA hb18
           try have n18_bw : bw ≠ b18 := zal hbA hb18
           have f18_HK : HK b18 = none := zam lhA hb18
           try simp only [eX, ↓reduceIte, Nat.reduceEqDiff, Int.reduceToNat]
           refine hK _ _ ?_; clear hK K
           refine OW_op rfl (lt_none) (fun K hK r => ?_)
           simp only [x_store, eX, ↓reduceIte, Nat.reduceEqDiff, Int.reduceToNat]
           first | refine Lt_storeAll sz38 bdA hbA bdA plA (by decide) ?_ | refine Lt_storeAtA sz38 bdA hbA bdA plA (by decide) ?_
           try simp only [eX, ↓reduceIte, Nat.reduceEqDiff, Int.reduceToNat]
           refine hK _ _ ?_; clear hK K
           refine zae ?_
           try simp only [Ex.thnH, Ex.inBlockH, ↓reduceIte, Nat.reduceEqDiff]
           first | refine ⟨rfl, ?_⟩ | refine ⟨trivial, ?_⟩
           refine CW_block ?_
           refine zad (fun K38 hK38 => ?_)
           refine zad (fun K39 hK39 => ?_)
           obtain ⟨R33, hR33⟩ : ∃ R : Hp, R = H_.upd b18 (.cells (l.getD i_ default).c.toArray 38) := ⟨_, rfl⟩
           refine CW_drawR [1, 1, 0, 0, 0, 1, 1, 1, 0, 1, 0, 0] [0, 1, 2, 3, 4, 5, 6, 7, 8, 9, 10, 11] R33 (by kernel_rfl) (by kernel_rfl) (by subst hR33; exact Le.refl _) (fun lR33 => ?_)
           have hRw33 : R33 bw = some (.cells cw Tw Fw) := by rw [hR33, zap _ _ (zal hbw hb18)]; exact hbw
           have hR1733 : R33 b17 = some (.cells #[.int .i64 (i_ : Int)] 3) := by rw [hR33, zap _ _ (zal hk17 hb18)]; exact hk17
           have hR1433 : R33 b14 = some (.cells #[.slice wa l.length wc] 33) := by rw [hR33, zap _ _ (zal hx14 hb18)]; exact hx14
           have hR1833 : R33 b18 = some (.cells (l.getD i_ default).c.toArray 38) := by rw [hR33]; exact zan _ _ _
           apply TW_look rfl (zaa (by decide)) rfl
           ·intro r
            simp only [zas, eX, ↓reduceIte, Nat.reduceEqDiff]
            refine zag Try.underlying3 rfl hbA ldA ?_
            exact ⟨rfl, Le.refl _⟩
           simp only [eX, ↓reduceIte, Nat.reduceEqDiff, Int.reduceToNat]
           apply TW_look rfl (zaa (by decide)) rfl
           ·intro r
            simp only [zas, eX, ↓reduceIte, Nat.reduceEqDiff]
            refine zag Try.underlying33 rfl hbA ldA ?_
            exact ⟨rfl, Le.refl _⟩
           simp only [eX, ↓reduceIte, Nat.reduceEqDiff, Int.reduceToNat]
           apply zah rfl (zaa (by decide)) rfl
           ·intro r
            simp only [zaG, l_len, List.map_toArray, List.map_cons, List.map_nil, zaH _ _ Try.underlying33, eX, ↓reduceIte, Nat.reduceEqDiff]
            exact ⟨rfl, Le.refl _⟩
           simp only [eX, ↓reduceIte, Nat.reduceEqDiff, Int.reduceToNat]
           apply zah rfl (zaa (by decide)) rfl
           ·intro r
            simp (disch := (first | omega | decide)) only [zaM, zaN, b_geq, zat, zau, zav, zax, zaz, zay, Bool.not_true, Bool.not_false, eX, ↓reduceIte, Nat.reduceEqDiff]
            exact ⟨rfl, Le.refl _⟩
           simp only [eX, ↓reduceIte, Nat.reduceEqDiff, Int.reduceToNat]
           apply zah rfl (zaa (by decide)) rfl
           ·intro r
            simp only [zaA, eX, ↓reduceIte, Nat.reduceEqDiff]
            exact ⟨rfl, Le.refl _⟩
           simp only [eX, ↓reduceIte, Nat.reduceEqDiff, Int.reduceToNat]
           (first | refine TW_split (d := 185) rfl (fun g185 => ?_) (fun g185 => ?_) | skip)
           all_goals try (exfalso; exact cnA g185)
           all_goals (try simp only [decide_eq_true_eq, decide_eq_false_iff_not, Bool.not_eq_true, Bool.not_eq_false, Bool.and_eq_true, Bool.or_eq_true, Bool.or_eq_false_iff, Bool.not_eq_eq_eq_not, Bool.not_true, Bool.not_false] at g185)
           all_goals
            try simp only [eX, ↓reduceIte, Nat.reduceEqDiff, Int.reduceToNat]
            first
            |apply TW_lookG rfl (zaa (by decide)) rfl rfl
             ·intro r
              simp only [zas, eX, ↓reduceIte, Nat.reduceEqDiff]
              first | refine Lt_loadAll Try.underlying38 rfl sz38 hbA bdA ?_ | refine Lt_loadAtA Try.underlying38 rfl sz38 hbA bdA ?_
              try simp only [List.extract_toArray, List.extract_eq_take_drop, Nat.zero_add, Nat.reduceAdd, Nat.reduceSub, Nat.sub_zero, List.drop_succ_cons, List.drop_zero, List.take_succ_cons, List.take_zero, List.take_nil, List.drop_nil]
              exact ⟨rfl, Le.refl _⟩
             simp only [eX, ↓reduceIte, Nat.reduceEqDiff, Int.reduceToNat]
            |refine zak rfl (zaa (by decide)) rfl ?_
             simp only [eX, ↓reduceIte, Nat.reduceEqDiff, Int.reduceToNat]
            first
            |apply TW_lookG rfl (zaa (by decide)) rfl rfl
             ·intro r
              simp only [zas, eX, ↓reduceIte, Nat.reduceEqDiff]
              refine zag Try.underlying33 rfl hbA ldA ?_
              exact ⟨rfl, Le.refl _⟩
             simp only [eX, ↓reduceIte, Nat.reduceEqDiff, Int.reduceToNat]
            |refine zak rfl (zaa (by decide)) rfl ?_
             simp only [eX, ↓reduceIte, Nat.reduceEqDiff, Int.reduceToNat]
            first
            |apply TW_lookG rfl (zaa (by decide)) rfl rfl
             ·intro r
              simp only [zas, eX, ↓reduceIte, Nat.reduceEqDiff]
              refine zag Try.underlying3 rfl hbA ldA ?_
              exact ⟨rfl, Le.refl _⟩
             simp only [eX, ↓reduceIte, Nat.reduceEqDiff, Int.reduceToNat]
            |refine zak rfl (zaa (by decide)) rfl ?_
             simp only [eX, ↓reduceIte, Nat.reduceEqDiff, Int.reduceToNat]
            first
            |apply zaw rfl (zaa (by decide)) rfl rfl
             ·intro r
              simp only [zaF, eX, ↓reduceIte, Nat.reduceEqDiff]
              refine Lt_indexSof Try.underlying33 sz38 ew ixA ixA ?_
              try simp only [Int.toNat_natCast]
              exact ⟨rfl, Le.refl _⟩
             simp only [eX, ↓reduceIte, Nat.reduceEqDiff, Int.reduceToNat]
            |refine zak rfl (zaa (by decide)) rfl ?_
             simp only [eX, ↓reduceIte, Nat.reduceEqDiff, Int.reduceToNat]
            first
            |apply TW_lookG rfl (zaa (by decide)) rfl rfl
             ·intro r
              simp only [zas, eX, ↓reduceIte, Nat.reduceEqDiff]
              refine Lt_loadAtA Try.underlying38 rfl sz38 hRw33 (by omega) ?_
              rw [ext_at En.len atw rfl i_ (by omega) hsw]
              exact ⟨rfl, Le.refl _⟩
             simp only [eX, ↓reduceIte, Nat.reduceEqDiff, Int.reduceToNat]
            |refine zak rfl (zaa (by decide)) rfl ?_
             simp only [eX, ↓reduceIte, Nat.reduceEqDiff, Int.reduceToNat]
            first
            |apply zaw rfl (zaa (by decide)) rfl rfl
             ·intro r
              simp only [zaM, g_agg _ _ _ _ _ _ eqg38, eX, ↓reduceIte, Nat.reduceEqDiff]
              rw [e_neq _ _ _ _ (by simp)]
              rw [q_equal, qs38]
              exact ⟨rfl, Le.refl _⟩
             simp only [eX, ↓reduceIte, Nat.reduceEqDiff, Int.reduceToNat]
            |refine zak rfl (zaa (by decide)) rfl ?_
             simp only [eX, ↓reduceIte, Nat.reduceEqDiff, Int.reduceToNat]
            apply zah rfl (zaa (by decide)) rfl
            ·intro r
             simp only [x_pick, l_asBool, HL.ite_bool, if_true, if_false, Bool.false_eq_true, eX, ↓reduceIte, Nat.reduceEqDiff]
             exact ⟨rfl, Le.refl _⟩
            simp only [eX, ↓reduceIte, Nat.reduceEqDiff, Int.reduceToNat]
            refine TW_nil ?_
            try simp only [Ex.thnH, Ex.inBlockH, ↓reduceIte, Nat.reduceEqDiff]
            refine hK39 _ _ ?_; try clear hK39 K39
            refine CW_cond (fun r => rfl) (fun c192 => ?_) (fun c192 => ?_)
            ·exfalso; exact cnA c192
            refine CW_skip ?_
            try simp only [Ex.thnH, Ex.inBlockH, ↓reduceIte, Nat.reduceEqDiff]
            refine hK38 _ _ ?_; try clear hK38 K38
            refine zab ?_
            refine zac (fun K hK r => ?_)
            simp only [zas, eX, ↓reduceIte, Nat.reduceEqDiff, Int.reduceToNat]
            refine zag Try.underlying3 rfl hbA ldA ?_
            try simp only [eX, ↓reduceIte, Nat.reduceEqDiff, Int.reduceToNat]
            refine hK _ _ ?_; clear hK K
            refine zac (fun K hK r => ?_)
            simp (disch := (first | omega | decide)) only [zaM, zaN, b_add, zaI, zaL, zaK, wrap_u8, eX, ↓reduceIte, Nat.reduceEqDiff, Int.reduceToNat]
            refine hK _ _ ?_; clear hK K
            refine OW_op rfl (lt_none) (fun K hK r => ?_)
            simp only [x_store, eX, ↓reduceIte, Nat.reduceEqDiff, Int.reduceToNat]
            refine Lt_storeAt1 sz3 hbA bdA plA fzA ?_
            try simp only [setL0, setL1, setL2, setL3, setL4, setL5, setL6, setL7, setL8, setL9]
            try simp only [eX, ↓reduceIte, Nat.reduceEqDiff, Int.reduceToNat]
            refine hK _ _ ?_; clear hK K
            refine zae ?_
            try simp only [Ex.thnH, Ex.inBlockH, ↓reduceIte, Nat.reduceEqDiff]
            exact ⟨zao (zao hlK f18_HK) hb17, zan _ _ _⟩
          intro H_ hI_
          obtain ⟨hlK, hk17⟩ := hI_
          have hx14 := hlK _ _ hK14
          have hx3 := hlK _ _ hK3
          have hx4 := hlK _ _ hK4
          try simp only [Ex.thnH, Ex.inBlockH, ↓reduceIte, Nat.reduceEqDiff]
          refine hK36 _ _ ?_; try clear hK36 K36
          refine zad (fun K40 hK40 => ?_)
          refine zab ?_
          refine zac (fun K hK r => ?_)
          simp only [zas, eX, ↓reduceIte, Nat.reduceEqDiff, Int.reduceToNat]
          refine zag Try.underlying3 rfl hbA ldA ?_
          try simp only [eX, ↓reduceIte, Nat.reduceEqDiff, Int.reduceToNat]
          refine hK _ _ ?_; clear hK K
          refine zac (fun K hK r => ?_)
          simp only [zas, eX, ↓reduceIte, Nat.reduceEqDiff, Int.reduceToNat]
          refine zag Try.underlying33 rfl hbA ldA ?_
          try simp only [eX, ↓reduceIte, Nat.reduceEqDiff, Int.reduceToNat]
          refine hK _ _ ?_; clear hK K
          refine zac (fun K hK r => ?_)
          simp only [zaG, l_len, List.map_toArray, List.map_cons, List.map_nil, zaH _ _ Try.underlying33, eX, ↓reduceIte, Nat.reduceEqDiff, Int.reduceToNat]
          refine hK _ _ ?_; clear hK K
          refine zac (fun K hK r => ?_)
          simp (disch := (first | omega | decide)) only [zaM, zaN, b_eql, zat, zau, zav, zax, zaz, zay, Bool.not_true, Bool.not_false, eX, ↓reduceIte, Nat.reduceEqDiff, Int.reduceToNat]
          refine hK _ _ ?_; clear hK K
          refine zaj rfl ?_
          (first | refine OW_split (d := 199) rfl (fun g199 => ?_) (fun g199 => ?_) | skip)
          all_goals try (exfalso; exact cnA g199)
          all_goals (try simp only [decide_eq_true_eq, decide_eq_false_iff_not, Bool.not_eq_true, Bool.not_eq_false, Bool.and_eq_true, Bool.or_eq_true, Bool.or_eq_false_iff, Bool.not_eq_eq_eq_not, Bool.not_true, Bool.not_false] at g199)
          all_goals
           try simp only [eX, ↓reduceIte, Nat.reduceEqDiff, Int.reduceToNat]
           first
           |refine zaq rfl (zaa (by decide)) rfl (fun K hK r => ?_)
            simp only [zaA, eX, ↓reduceIte, Nat.reduceEqDiff, Int.reduceToNat]
            refine hK _ _ ?_; clear hK K
           |refine zar rfl (zaa (by decide)) rfl ?_
            simp only [eX, ↓reduceIte, Nat.reduceEqDiff, Int.reduceToNat]
           first
           |refine zaq rfl (zaa (by decide)) rfl (fun K hK r => ?_)
            simp only [zai, fa24_0, zaC, Nat.reduceAdd, Nat.zero_add, eX, ↓reduceIte, Nat.reduceEqDiff, Int.reduceToNat]
            refine hK _ _ ?_; clear hK K
           |refine zar rfl (zaa (by decide)) rfl ?_
            simp only [eX, ↓reduceIte, Nat.reduceEqDiff, Int.reduceToNat]
           first
           |refine zaq rfl (zaa (by decide)) rfl (fun K hK r => ?_)
            simp only [zas, eX, ↓reduceIte, Nat.reduceEqDiff, Int.reduceToNat]
            refine zag Try.underlying3 rfl hbA ldA ?_
            try simp only [eX, ↓reduceIte, Nat.reduceEqDiff, Int.reduceToNat]
            refine hK _ _ ?_; clear hK K
           |refine zar rfl (zaa (by decide)) rfl ?_
            simp only [eX, ↓reduceIte, Nat.reduceEqDiff, Int.reduceToNat]
           first
           |refine zaq rfl (zaa (by decide)) rfl (fun K hK r => ?_)
            simp only [zaP _ bd13, List.map_toArray, List.map_cons, List.map_nil, eX, ↓reduceIte, Nat.reduceEqDiff, Int.reduceToNat]
            refine (ixLen _ _ (killE E t L.length) (hXK.le hlK) t).mono ?_
            rintro v203 H203 ⟨rfl, hl203⟩
            rw [show (((tabE (killE E t L.length) t).length : Nat) : Int) = 0 from by rw [killE_tab, ← hL, List.drop_length]; rfl]
            have k203_4 := hl203 _ _ hx4
            try simp only [eX, ↓reduceIte, Nat.reduceEqDiff, Int.reduceToNat]
            refine hK _ _ ?_; clear hK K
           |refine zar rfl (zaa (by decide)) rfl ?_
            simp only [eX, ↓reduceIte, Nat.reduceEqDiff, Int.reduceToNat]
           first
           |refine zaq rfl (zaa (by decide)) rfl (fun K hK r => ?_)
            simp (disch := (first | omega | decide)) only [zaM, zaN, b_eql, zat, zau, zav, zax, zaz, zay, Bool.not_true, Bool.not_false, eX, ↓reduceIte, Nat.reduceEqDiff, Int.reduceToNat]
            refine hK _ _ ?_; clear hK K
           |refine zar rfl (zaa (by decide)) rfl ?_
            simp only [eX, ↓reduceIte, Nat.reduceEqDiff, Int.reduceToNat]
           refine zac (fun K hK r => ?_)
           simp only [x_pick, l_asBool, HL.ite_bool, if_true, if_false, Bool.false_eq_true, eX, ↓reduceIte, Nat.reduceEqDiff, Int.reduceToNat]
           refine hK _ _ ?_; clear hK K
           refine OW_op rfl (lt_none) (fun K hK r => ?_)
           simp only [x_store, eX, ↓reduceIte, Nat.reduceEqDiff, Int.reduceToNat]
           refine Lt_storeAt1 sz4 hbA bdA plA fzA ?_
           try simp only [setL0, setL1, setL2, setL3, setL4, setL5, setL6, setL7, setL8, setL9]
           try simp only [eX, ↓reduceIte, Nat.reduceEqDiff, Int.reduceToNat]
           refine hK _ _ ?_; clear hK K
           refine zae ?_
           try simp only [Ex.thnH, Ex.inBlockH, ↓reduceIte, Nat.reduceEqDiff]
           refine hK40 _ _ ?_; try clear hK40 K40
           refine CW_ret ?_
           try simp only [Ex.thnH, Ex.inBlockH, ↓reduceIte, Nat.reduceEqDiff]
           exact ⟨[_], ⟨⟨_, rfl, Lq_load1 Try.underlying4 rfl (zan _ _ _) (by rfl)⟩, trivial⟩, _, Le.refl _, rfl, zao (Le.trans lG6 (Le.trans lGK (Le.trans hlK hl203))) f4_G⟩
end Go.Proofs.Ytjhohnbdhopllaa.HL
end
section
namespace Go.Proofs.Ytjhohnbdhopllaa.HL
open Go
variable {P : Program} {H : Hp}
end Go.Proofs.Ytjhohnbdhopllaa.HL
end
