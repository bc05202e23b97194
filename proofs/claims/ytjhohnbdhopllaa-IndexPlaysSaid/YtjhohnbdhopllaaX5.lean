/- Parts of the proof, one behind the other: U31, Md29f, U32, HLField. -/
import Derived.Test.YtjhohnbdhopllaaX4
set_option linter.unusedSimpArgs false
set_option linter.unusedVariables false
section
namespace Go.Proofs.Ytjhohnbdhopllaa.HL
open Go Go.Proofs
set_option linter.unusedSimpArgs false
set_option linter.unusedVariables false
attribute [local irreducible] Lt Lq CW OW TW CallH
abbrev insX (S : List En) (e : En) (j : Nat) : List En := S.take j ++ e :: S.drop j
theorem insX_len {S : List En} {e : En} {j : Nat} (hj : j ≤ S.length) : (insX S e j).length = S.length + 1 := by
  unfold insX; rw [List.length_append, List.length_cons, List.length_take, List.length_drop]; omega
theorem insX_at {S : List En} {e : En} {j : Nat} (hj : j ≤ S.length) : (insX S e j).getD j default = e := by
  have hl : (S.take j).length = j := by rw [List.length_take]; omega
  unfold insX
  rw [List.getD_eq_getElem?_getD, List.getElem?_append_right (by omega), hl]; simp
theorem insX_at1 {S : List En} {e : En} {j : Nat} (h0 : 0 < j) (hj : j ≤ S.length) : (insX S e j).getD (j - 1) default = at_ S (j - 1) := by
  have hl : (S.take j).length = j := by rw [List.length_take]; omega
  unfold insX at_
  rw [List.getD_eq_getElem?_getD, List.getElem?_append_left (by omega), List.getElem?_take_of_lt (by omega), List.getD_eq_getElem?_getD]
theorem insX_end (S : List En) (e : En) : insX S e S.length = S ++ [e] := by
  unfold insX; rw [List.take_length, List.drop_length]
theorem insX_swap {S : List En} {e : En} {j : Nat} (h0 : 0 < j) (hj : j ≤ S.length) : ((insX S e j).set j (at_ S (j - 1))).set (j - 1) e = insX S e (j - 1) := by
  have h1 := swap_ins (S := S) (e := e) h0 hj
  have e1 : at_ (S.take j ++ e :: S.drop j) (j - 1) = at_ S (j - 1) := insX_at1 h0 hj
  have e2 : at_ (S.take j ++ e :: S.drop j) j = e := insX_at hj
  rw [e1, e2] at h1
  exact h1
theorem colM_take {M : List Wr} {k : Nat} (h : k < M.length) (t lo hi : Int) : colM (M.take (k + 1)) t lo hi = colM (M.take k) t lo hi ++ (if inW t lo hi (M.getD k default) then [enW (M.getD k default)] else []) := by
  rw [take_snocA h, colM_snoc]
theorem nodup_take {M : List Wr} {t lo hi : Int} (h : (colM M t lo hi).Nodup) (k : Nat) : (colM (M.take k) t lo hi).Nodup := by
  refine h.sublist ?_
  unfold colM
  exact ((List.take_sublist k M).filter _).map _
set_option maxRecDepth 100000 in
set_option maxHeartbeats 8000000 in
theorem rorder_ok (G : Hp) (a : Option Addr) (cap : Nat) (M : List Wr) (hv : Holds G 4 (.slice a M.length cap) M.length (wrs M)) (t lo hi : Int) (d : Bool) (hN : (colM M t lo hi).Nodup) (hn : M.length ≤ 100000) : CallH Try.prog 20 #[.slice a M.length cap, .int .i64 t, .int .i64 lo, .int .i64 hi, .bool d] G (fun v G' => Le G G' ∧ ∃ (S : List En) (a' : Option Addr) (c' : Nat) (N : Hp), v = .slice a' S.length c' ∧ Le N G' ∧ (∀ x, N x ≠ none → G x = none) ∧ Holds N 2 (.slice a' S.length c') S.length (ens S) ∧ S.Perm (colM M t lo hi) ∧ S.Pairwise (ltD d) ∧ S.length ≤ c') := by
 refine zaB (l := [_, _, _, _, _]) (rl := [.tmp 10]) (n := 98) Try.func20 rfl rfl rfl rfl rfl ?_
 simp only [envOf, Nat.reduceAdd]
 refine zad (fun K1 hK1 => ?_)
 refine zab ?_
 refine zao rfl ?_
 refine zae ?_
 try simp only [Ex.thnH, Ex.inBlockH, ↓reduceIte, Nat.reduceEqDiff]
 refine hK1 _ _ ?_; try clear hK1 K1
 refine zad (fun K2 hK2 => ?_)
 refine zab ?_
 refine zao rfl ?_
 refine zae ?_
 try simp only [Ex.thnH, Ex.inBlockH, ↓reduceIte, Nat.reduceEqDiff]
 refine hK2 _ _ ?_; try clear hK2 K2
 refine zad (fun K3 hK3 => ?_)
 refine zad (fun K4 hK4 => ?_)
 refine zab ?_
 refine zao rfl ?_
 refine zae ?_
 try simp only [Ex.thnH, Ex.inBlockH, ↓reduceIte, Nat.reduceEqDiff]
 refine hK4 _ _ ?_; try clear hK4 K4
 refine zaP ?_
 refine CW_loop (fun m e H_ => ∃ (k : Nat) (S : List En) (v11 : Value) (rs : Option Nat), k ≤ M.length ∧ m = M.length - k ∧ Le G H_ ∧ OwnS H_ 56 2 v11 S.length (ens S) rs ∧ (∀ r, rs = some r → G r = none) ∧ S.Perm (colM (M.take k) t lo hi) ∧ S.Pairwise (ltD d) ∧ Env.has [(0, .slice a M.length cap), (1, .int .i64 t), (2, .int .i64 lo), (3, .int .i64 hi), (4, .bool d), (11, v11), (12, .int .i64 k)] e) (M.length) ?_ ?_
 ·skip
  exact ⟨0, [], _, none, by omega, by omega, Le.refl _, OwnS.nil _ _ _, (fun r hr => by cases hr), List.Perm.refl _, List.Pairwise.nil, rfl, rfl, rfl, rfl, rfl, rfl, rfl, trivial⟩
 intro m_ e_ H_ hI_
 obtain ⟨k, S, v11, rs_, hk, rfl, hl_, ho_, hr_, hSp, hSS, he⟩ := hI_
 have hSl : S.length ≤ 100000 := by rw [hSp.length_eq]; have := colM_len (M.take k) t lo hi; rw [List.length_take] at this; omega
 obtain ⟨sa_, sc_, rfl⟩ := ho_.holds.form
 refine CW_env he.sub ?_; clear he e_
 refine zad (fun K5 hK5 => ?_)
 refine zad (fun K6 hK6 => ?_)
 refine zab ?_
 refine zag rfl ?_
 refine zag rfl ?_
 refine zac (fun K hK r => ?_)
 simp only [zaC, l_len, List.map_toArray, List.map_cons, List.map_nil, zaF _ _ Try.underlying29, eX, ↓reduceIte, Nat.reduceEqDiff, Int.reduceToNat]
 refine hK _ _ ?_; clear hK K
 refine zac (fun K hK r => ?_)
 simp (disch := (first | omega | decide)) only [zaI, zaM, b_lss, zau, zaw, zat, zax, zas, zay, Bool.not_true, Bool.not_false, eX, ↓reduceIte, Nat.reduceEqDiff, Int.reduceToNat]
 refine hK _ _ ?_; clear hK K
 refine zae ?_
 try simp only [Ex.thnH, Ex.inBlockH, ↓reduceIte, Nat.reduceEqDiff]
 refine hK6 _ _ ?_; try clear hK6 K6
 refine zaH (fun r => rfl) (fun c17 => ?_) (fun c17 => ?_)
 ·first
  |(exfalso; exact cnA c17; done)
  |skip
   (try simp only [decide_eq_true_eq, decide_eq_false_iff_not, Bool.not_eq_true, Bool.not_eq_false, Bool.and_eq_true, Bool.or_eq_true, Bool.or_eq_false_iff, Bool.not_eq_eq_eq_not, Bool.not_true, Bool.not_false] at c17)
   obtain ⟨bw, ow, cw, Tw, Fw, ew, hbwG, hsw, atw⟩ := hv.at (by omega)
   have hbw := hl_ _ _ hbwG
   obtain ⟨w, hw⟩ : ∃ w, w = M.getD k default := ⟨_, rfl⟩
   refine zaL ?_
   try simp only [Ex.thnH, Ex.inBlockH, ↓reduceIte, Nat.reduceEqDiff]
   refine hK5 _ _ ?_; try clear hK5 K5
   refine zad (fun K7 hK7 => ?_)
   refine zaP ?_
   refine zad (fun K8 hK8 => ?_)
   refine zad (fun K9 hK9 => ?_)
   refine zab ?_
   refine zag rfl ?_
   refine zag rfl ?_
   refine zac (fun K hK r => ?_)
   simp only [zav, eX, ↓reduceIte, Nat.reduceEqDiff, Int.reduceToNat]
   refine zaN Try.underlying29 sz46 ew ixA ixA ?_
   try simp only [Int.toNat_natCast]
   refine hK _ _ ?_; clear hK K
   refine zac (fun K hK r => ?_)
   simp only [zah, fa46_0, zaA, Nat.reduceAdd, Nat.zero_add, eX, ↓reduceIte, Nat.reduceEqDiff, Int.reduceToNat]
   refine hK _ _ ?_; clear hK K
   refine zac (fun K hK r => ?_)
   simp only [zah, fa44_0, zaA, Nat.reduceAdd, Nat.zero_add, eX, ↓reduceIte, Nat.reduceEqDiff, Int.reduceToNat]
   refine hK _ _ ?_; clear hK K
   refine zac (fun K hK r => ?_)
   simp only [zar, eX, ↓reduceIte, Nat.reduceEqDiff, Int.reduceToNat]
   refine zak Try.underlying3 rfl (by first | with_reducible assumption | exact hbA) (v := .int .i64 w.t) (by rw [hw]; first | exact cell_at Wr.len atw rfl k (by omega) 0 (by decide) | (rw [cell_at Wr.len atw rfl k (by omega) 0 (by decide)]; rfl)) ?_
   refine hK _ _ ?_; clear hK K
   refine zag rfl ?_
   refine zac (fun K hK r => ?_)
   simp (disch := (first | omega | decide)) only [zaI, zaM, b_neq, zau, zaw, zat, zax, zas, zay, Bool.not_true, Bool.not_false, eX, ↓reduceIte, Nat.reduceEqDiff, Int.reduceToNat]
   refine hK _ _ ?_; clear hK K
   refine zag rfl ?_
   (first | refine OW_split (d := 28) rfl (fun g28 => ?_) (fun g28 => ?_) | skip)
   all_goals try (exfalso; exact cnA g28)
   all_goals (try simp only [decide_eq_true_eq, decide_eq_false_iff_not, Bool.not_eq_true, Bool.not_eq_false, Bool.and_eq_true, Bool.or_eq_true, Bool.or_eq_false_iff, Bool.not_eq_eq_eq_not, Bool.not_true, Bool.not_false] at g28)
   all_goals
    try simp only [eX, ↓reduceIte, Nat.reduceEqDiff, Int.reduceToNat]
    first
    |refine zam rfl (zaa (by decide)) rfl (fun K hK r => ?_)
     simp only [zaq, eX, ↓reduceIte, Nat.reduceEqDiff, Int.reduceToNat]
     refine hK _ _ ?_; clear hK K
    |refine zan rfl (zaa (by decide)) rfl ?_
     simp only [eX, ↓reduceIte, Nat.reduceEqDiff, Int.reduceToNat]
    first
    |refine zam rfl (zaa (by decide)) rfl (fun K hK r => ?_)
     simp only [zaq, eX, ↓reduceIte, Nat.reduceEqDiff, Int.reduceToNat]
     refine hK _ _ ?_; clear hK K
    |refine zan rfl (zaa (by decide)) rfl ?_
     simp only [eX, ↓reduceIte, Nat.reduceEqDiff, Int.reduceToNat]
    first
    |refine zam rfl (zaa (by decide)) rfl (fun K hK r => ?_)
     simp only [zav, eX, ↓reduceIte, Nat.reduceEqDiff, Int.reduceToNat]
     refine zaN Try.underlying29 sz46 ew ixA ixA ?_
     try simp only [Int.toNat_natCast]
     refine hK _ _ ?_; clear hK K
    |refine zan rfl (zaa (by decide)) rfl ?_
     simp only [eX, ↓reduceIte, Nat.reduceEqDiff, Int.reduceToNat]
    first
    |refine zam rfl (zaa (by decide)) rfl (fun K hK r => ?_)
     simp only [zah, fa46_1, zaA, Nat.reduceAdd, Nat.zero_add, eX, ↓reduceIte, Nat.reduceEqDiff, Int.reduceToNat]
     refine hK _ _ ?_; clear hK K
    |refine zan rfl (zaa (by decide)) rfl ?_
     simp only [eX, ↓reduceIte, Nat.reduceEqDiff, Int.reduceToNat]
    first
    |refine zam rfl (zaa (by decide)) rfl (fun K hK r => ?_)
     simp only [zar, eX, ↓reduceIte, Nat.reduceEqDiff, Int.reduceToNat]
     refine zak Try.underlying3 rfl (by first | with_reducible assumption | exact hbA) (v := .int .i64 w.v) (by rw [hw]; first | exact cell_at Wr.len atw rfl k (by omega) 2 (by decide) | (rw [cell_at Wr.len atw rfl k (by omega) 2 (by decide)]; rfl)) ?_
     refine hK _ _ ?_; clear hK K
    |refine zan rfl (zaa (by decide)) rfl ?_
     simp only [eX, ↓reduceIte, Nat.reduceEqDiff, Int.reduceToNat]
    first
    |refine zam rfl (zaa (by decide)) rfl (fun K hK r => ?_)
     simp only [zaq, eX, ↓reduceIte, Nat.reduceEqDiff, Int.reduceToNat]
     refine hK _ _ ?_; clear hK K
    |refine zan rfl (zaa (by decide)) rfl ?_
     simp only [eX, ↓reduceIte, Nat.reduceEqDiff, Int.reduceToNat]
    first
    |refine zam rfl (zaa (by decide)) rfl (fun K hK r => ?_)
     simp (disch := (first | omega | decide)) only [zaI, zaM, b_lss, zau, zaw, zat, zax, zas, zay, Bool.not_true, Bool.not_false, eX, ↓reduceIte, Nat.reduceEqDiff, Int.reduceToNat]
     refine hK _ _ ?_; clear hK K
    |refine zan rfl (zaa (by decide)) rfl ?_
     simp only [eX, ↓reduceIte, Nat.reduceEqDiff, Int.reduceToNat]
    refine zac (fun K hK r => ?_)
    simp only [x_pick, l_asBool, HL.ite_bool, if_true, if_false, Bool.false_eq_true, eX, ↓reduceIte, Nat.reduceEqDiff, Int.reduceToNat]
    refine hK _ _ ?_; clear hK K
    refine zag rfl ?_
    (first | refine OW_split (d := 37) rfl (fun g37 => ?_) (fun g37 => ?_) | skip)
    all_goals try (exfalso; exact cnA g37)
    all_goals (try simp only [decide_eq_true_eq, decide_eq_false_iff_not, Bool.not_eq_true, Bool.not_eq_false, Bool.and_eq_true, Bool.or_eq_true, Bool.or_eq_false_iff, Bool.not_eq_eq_eq_not, Bool.not_true, Bool.not_false] at g37)
    all_goals
     try simp only [eX, ↓reduceIte, Nat.reduceEqDiff, Int.reduceToNat]
     first
     |refine zam rfl (zaa (by decide)) rfl (fun K hK r => ?_)
      simp only [zaq, eX, ↓reduceIte, Nat.reduceEqDiff, Int.reduceToNat]
      refine hK _ _ ?_; clear hK K
     |refine zan rfl (zaa (by decide)) rfl ?_
      simp only [eX, ↓reduceIte, Nat.reduceEqDiff, Int.reduceToNat]
     first
     |refine zam rfl (zaa (by decide)) rfl (fun K hK r => ?_)
      simp only [zaq, eX, ↓reduceIte, Nat.reduceEqDiff, Int.reduceToNat]
      refine hK _ _ ?_; clear hK K
     |refine zan rfl (zaa (by decide)) rfl ?_
      simp only [eX, ↓reduceIte, Nat.reduceEqDiff, Int.reduceToNat]
     first
     |refine zam rfl (zaa (by decide)) rfl (fun K hK r => ?_)
      simp only [zav, eX, ↓reduceIte, Nat.reduceEqDiff, Int.reduceToNat]
      refine zaN Try.underlying29 sz46 ew ixA ixA ?_
      try simp only [Int.toNat_natCast]
      refine hK _ _ ?_; clear hK K
     |refine zan rfl (zaa (by decide)) rfl ?_
      simp only [eX, ↓reduceIte, Nat.reduceEqDiff, Int.reduceToNat]
     first
     |refine zam rfl (zaa (by decide)) rfl (fun K hK r => ?_)
      simp only [zah, fa46_1, zaA, Nat.reduceAdd, Nat.zero_add, eX, ↓reduceIte, Nat.reduceEqDiff, Int.reduceToNat]
      refine hK _ _ ?_; clear hK K
     |refine zan rfl (zaa (by decide)) rfl ?_
      simp only [eX, ↓reduceIte, Nat.reduceEqDiff, Int.reduceToNat]
     first
     |refine zam rfl (zaa (by decide)) rfl (fun K hK r => ?_)
      simp only [zar, eX, ↓reduceIte, Nat.reduceEqDiff, Int.reduceToNat]
      refine zak Try.underlying3 rfl (by first | with_reducible assumption | exact hbA) (v := .int .i64 w.v) (by rw [hw]; first | exact cell_at Wr.len atw rfl k (by omega) 2 (by decide) | (rw [cell_at Wr.len atw rfl k (by omega) 2 (by decide)]; rfl)) ?_
      refine hK _ _ ?_; clear hK K
     |refine zan rfl (zaa (by decide)) rfl ?_
      simp only [eX, ↓reduceIte, Nat.reduceEqDiff, Int.reduceToNat]
     first
     |refine zam rfl (zaa (by decide)) rfl (fun K hK r => ?_)
      simp only [zaq, eX, ↓reduceIte, Nat.reduceEqDiff, Int.reduceToNat]
      refine hK _ _ ?_; clear hK K
     |refine zan rfl (zaa (by decide)) rfl ?_
      simp only [eX, ↓reduceIte, Nat.reduceEqDiff, Int.reduceToNat]
     first
     |refine zam rfl (zaa (by decide)) rfl (fun K hK r => ?_)
      simp (disch := (first | omega | decide)) only [zaI, zaM, b_gtr, zau, zaw, zat, zax, zas, zay, Bool.not_true, Bool.not_false, eX, ↓reduceIte, Nat.reduceEqDiff, Int.reduceToNat]
      refine hK _ _ ?_; clear hK K
     |refine zan rfl (zaa (by decide)) rfl ?_
      simp only [eX, ↓reduceIte, Nat.reduceEqDiff, Int.reduceToNat]
     refine zac (fun K hK r => ?_)
     simp only [x_pick, l_asBool, HL.ite_bool, if_true, if_false, Bool.false_eq_true, eX, ↓reduceIte, Nat.reduceEqDiff, Int.reduceToNat]
     refine hK _ _ ?_; clear hK K
     refine zae ?_
     try simp only [Ex.thnH, Ex.inBlockH, ↓reduceIte, Nat.reduceEqDiff]
     refine hK9 _ _ ?_; try clear hK9 K9
     refine zaH (fun r => rfl) (fun c45 => ?_) (fun c45 => ?_)
     ·first
      |(exfalso; exact cnA c45; done)
      |skip
       have hin : inW t lo hi w = false := by
        unfold inW
        first
        |(simp; omega)
        |(simp at c45; simp; omega)
        |(simp at c45; simp; intros; omega)
       refine CW_exit ?_
       try simp only [Ex.thnH, Ex.inBlockH, ↓reduceIte, Nat.reduceEqDiff]
       refine hK7 _ _ ?_; try clear hK7 K7
       refine zab ?_
       refine zag rfl ?_
       refine zac (fun K hK r => ?_)
       simp (disch := (first | omega | decide)) only [zaI, zaM, b_add, zaG, zaK, zaJ, zaR, eX, ↓reduceIte, Nat.reduceEqDiff, Int.reduceToNat]
       refine hK _ _ ?_; clear hK K
       refine zao rfl ?_
       refine zae ?_
       try simp only [Ex.thnH, Ex.inBlockH, ↓reduceIte, Nat.reduceEqDiff]
       first
       |(have hchk := hin
         refine ⟨M.length - (k + 1), by omega, k + 1, _, _, rs_, by omega, rfl, hl_, ho_, hr_, ?_, hSS, rfl, rfl, rfl, rfl, rfl, rfl, rfl, trivial⟩
         rw [colM_take (by omega), ← hw, if_neg (by rw [hin]; simp), List.append_nil]
         exact hSp)
       |(refine ⟨M.length - (k + 1), by omega, k + 1, insX S (enW w) j, .slice (some ⟨r0, 0, none⟩) (insX S (enW w) j).length sc60, some r0, by omega, rfl, hl2_, ?_, ?_, ?_, ?_, rfl, rfl, rfl, rfl, rfl, ?_, rfl, trivial⟩
         ·rw [insX_len hjS]; exact ho2_
         ·intro r hr; cases hr; exact hGr
         ·rw [colM_take (by omega), ← hw, if_pos hin2]
          exact (ins_perm j).trans ((hSp.cons _).trans (List.perm_append_singleton _ _).symm)
         ·exact pair_ins hSS hjS hnin hB_ hA
         ·rw [insX_len hjS]; rfl)
     ·first
      |(exfalso; exact cnA c45; done)
      |skip
       have hin2 : inW t lo hi w = true := by
        unfold inW
        simp at c45
        simp; omega
       have hnin : enW w ∉ S := by
        have h9 := nodup_take hN (k + 1)
        rw [colM_take (by omega), ← hw, if_pos hin2] at h9
        intro hm
        have h8 := (List.nodup_append.1 h9).2.2 _ (hSp.mem_iff.1 hm) _ (List.mem_singleton.2 rfl)
        exact h8 rfl
       refine zaL ?_
       try simp only [Ex.thnH, Ex.inBlockH, ↓reduceIte, Nat.reduceEqDiff]
       refine hK8 _ _ ?_; try clear hK8 K8
       refine zad (fun K10 hK10 => ?_)
       obtain ⟨R6, hR6⟩ : ∃ R : Hp, R = emptyHp.upd bw (.cells cw Tw Fw) := ⟨_, rfl⟩
       refine CW_drawR [0, 0, 0, 0, 0, 1, 0, 0, 0, 0, 0, 1, 0, 2, 2, 0] [0, 1, 2, 3, 4, 5, 6, 7, 8, 9, 10, 11, 12, 13, 14, 15] R6 (by kernel_rfl) (by kernel_rfl) (by subst hR6; exact le_put (le_empty _) hbw) (fun lR6 => ?_)
       have hRw : R6 bw = some (.cells cw Tw Fw) := by rw [hR6]; exact zap _ _ _
       apply zaf rfl (zaa (by decide)) rfl
       ·intro r
        simp only [zaq, eX, ↓reduceIte, Nat.reduceEqDiff]
        exact ⟨rfl, Le.refl _⟩
       simp only [eX, ↓reduceIte, Nat.reduceEqDiff, Int.reduceToNat]
       apply zaf rfl (zaa (by decide)) rfl
       ·intro r
        simp only [zaq, eX, ↓reduceIte, Nat.reduceEqDiff]
        exact ⟨rfl, Le.refl _⟩
       simp only [eX, ↓reduceIte, Nat.reduceEqDiff, Int.reduceToNat]
       apply zaf rfl (zaa (by decide)) rfl
       ·intro r
        simp only [zaq, eX, ↓reduceIte, Nat.reduceEqDiff]
        exact ⟨rfl, Le.refl _⟩
       simp only [eX, ↓reduceIte, Nat.reduceEqDiff, Int.reduceToNat]
       apply zaf rfl (zaa (by decide)) rfl
       ·intro r
        simp only [zav, eX, ↓reduceIte, Nat.reduceEqDiff]
        refine zaN Try.underlying29 sz46 ew ixA ixA ?_
        try simp only [Int.toNat_natCast]
        exact ⟨rfl, Le.refl _⟩
       simp only [eX, ↓reduceIte, Nat.reduceEqDiff, Int.reduceToNat]
       apply zaf rfl (zaa (by decide)) rfl
       ·intro r
        simp only [zah, fa46_1, zaA, Nat.reduceAdd, Nat.zero_add, eX, ↓reduceIte, Nat.reduceEqDiff]
        exact ⟨rfl, Le.refl _⟩
       simp only [eX, ↓reduceIte, Nat.reduceEqDiff, Int.reduceToNat]
       apply zaW rfl (zaa (by decide)) rfl
       ·intro r
        simp only [zar, eX, ↓reduceIte, Nat.reduceEqDiff]
        refine zak Try.underlying3 rfl (by exact hRw) (v := .int .i64 w.v) (by rw [hw]; first | exact cell_at Wr.len atw rfl k (by omega) 2 (by decide) | (rw [cell_at Wr.len atw rfl k (by omega) 2 (by decide)]; rfl)) ?_
        exact ⟨rfl, Le.refl _⟩
       simp only [eX, ↓reduceIte, Nat.reduceEqDiff, Int.reduceToNat]
       apply zaf rfl (zaa (by decide)) rfl
       ·intro r
        simp only [zaq, eX, ↓reduceIte, Nat.reduceEqDiff]
        exact ⟨rfl, Le.refl _⟩
       simp only [eX, ↓reduceIte, Nat.reduceEqDiff, Int.reduceToNat]
       apply zaf rfl (zaa (by decide)) rfl
       ·intro r
        simp only [zaq, eX, ↓reduceIte, Nat.reduceEqDiff]
        exact ⟨rfl, Le.refl _⟩
       simp only [eX, ↓reduceIte, Nat.reduceEqDiff, Int.reduceToNat]
       apply zaf rfl (zaa (by decide)) rfl
       ·intro r
        simp only [zav, eX, ↓reduceIte, Nat.reduceEqDiff]
        refine zaN Try.underlying29 sz46 ew ixA ixA ?_
        try simp only [Int.toNat_natCast]
        exact ⟨rfl, Le.refl _⟩
       simp only [eX, ↓reduceIte, Nat.reduceEqDiff, Int.reduceToNat]
       apply zaf rfl (zaa (by decide)) rfl
       ·intro r
        simp only [zah, fa46_0, zaA, Nat.reduceAdd, Nat.zero_add, eX, ↓reduceIte, Nat.reduceEqDiff]
        exact ⟨rfl, Le.refl _⟩
       simp only [eX, ↓reduceIte, Nat.reduceEqDiff, Int.reduceToNat]
       apply zaf rfl (zaa (by decide)) rfl
       ·intro r
        simp only [zah, fa44_1, zaA, Nat.reduceAdd, Nat.zero_add, eX, ↓reduceIte, Nat.reduceEqDiff]
        exact ⟨rfl, Le.refl _⟩
       simp only [eX, ↓reduceIte, Nat.reduceEqDiff, Int.reduceToNat]
       apply zaW rfl (zaa (by decide)) rfl
       ·intro r
        simp only [zar, eX, ↓reduceIte, Nat.reduceEqDiff]
        refine zak Try.underlying3 rfl (by exact hRw) (v := .int .i64 w.k) (by rw [hw]; first | exact cell_at Wr.len atw rfl k (by omega) 1 (by decide) | (rw [cell_at Wr.len atw rfl k (by omega) 1 (by decide)]; rfl)) ?_
        exact ⟨rfl, Le.refl _⟩
       simp only [eX, ↓reduceIte, Nat.reduceEqDiff, Int.reduceToNat]
       apply zaf rfl (zaa (by decide)) rfl
       ·intro r
        simp only [x_build, bp56, List.map_toArray, List.map_cons, List.map_nil, eX, ↓reduceIte, Nat.reduceEqDiff]
        rw [fill_one rfl clA bdA]
        rw [fill_one rfl clA bdA]
        simp only [fill_nil, zai, List.setIfInBounds_toArray, List.set_cons_zero, List.set_cons_succ]
        exact ⟨rfl, Le.refl _⟩
       simp only [eX, ↓reduceIte, Nat.reduceEqDiff, Int.reduceToNat]
       refine TW_chain rfl (zaa (by decide)) rfl (fun K hK r => ?_)
       simp only [x_buildSlice, List.map_toArray, List.map_cons, List.map_nil, eX, ↓reduceIte, Nat.reduceEqDiff, Int.reduceToNat]
       refine Lt_buildSlice (vs := [_]) Try.underlying53 sz56 zr56 rfl bsA (by first | decide | (simp; done)) ?_
       simp only [List.flatMap_cons, List.flatMap_nil, Value.cells, List.append_nil, List.cons_append, List.nil_append, List.length_cons, List.length_nil, Nat.zero_add, Nat.reduceAdd]
       intro b59 hb59
       have f59_R6 : R6 b59 = none := zaj lhA hb59
       try simp only [eX, ↓reduceIte, Nat.reduceEqDiff, Int.reduceToNat]
       refine hK _ _ leA ?_; clear hK K
       refine TW_chain rfl (zaa (by decide)) rfl (fun K hK r => ?_)
       simp only [zaC, l_append, List.map_toArray, List.map_cons, List.map_nil, eX, ↓reduceIte, Nat.reduceEqDiff, Int.reduceToNat]
       refine Lt_append Try.underlying53 Try.underlying53 (by simp) sz56 by56 (by decide) zr56 rfl _ (n := S.length) (m := 1) (cs := ens S) (ds := (enW w).c) (rs := rs_) (OwnS.make ho_ hb59) (len_slice _ _ _) (fun Kx => first_slice (w := 2) (n := 1) (cs := (enW w).c) ⟨rfl, .inr ⟨b59, 0, 1, _, _, _, rfl, hbA, by simp, by simp [enW]⟩⟩ Kx) rfl (by intro z hz; simp at hz; rcases hz with rfl | rfl <;> rfl) (by omega) ?_
       intro v60 H60 rs60 hg60 ho60 hr60
       have f59 := zaj hl_ hb59
       have l60 : Le G H60 := hg60.le (H0 := G) (zal hl_ f59) hr_
       have lR60 : Le R6 H60 := by rw [hR6]; exact le_put (le_empty _) (l60 _ _ hbwG)
       rw [show ens S ++ (enW w).c = ens (S ++ [enW w]) from by simp [ens]] at ho60
       obtain ⟨sa60, sc60, rfl⟩ := ho60.holds.form
       obtain ⟨r0, c0, rfl, hr0, hc0, hx0, hrs0⟩ := ho60.blk (by omega)
       subst hrs0
       have hGr : G r0 = none := by
        rcases hr60 r0 rfl with h9 | h9
        ·exact hr_ _ h9
        ·exact zaj (zal hl_ f59) h9
       refine hK _ _ leA ?_; clear hK K
       apply zaf rfl (zaa (by decide)) rfl
       ·intro r
        simp only [x_assign, eX, ↓reduceIte, Nat.reduceEqDiff]
        exact ⟨rfl, Le.refl _⟩
       simp only [eX, ↓reduceIte, Nat.reduceEqDiff, Int.reduceToNat]
       refine TW_nil ?_
       try simp only [Ex.thnH, Ex.inBlockH, ↓reduceIte, Nat.reduceEqDiff]
       refine hK10 _ _ ?_; try clear hK10 K10
       refine zad (fun K11 hK11 => ?_)
       refine zab ?_
       refine zag rfl ?_
       refine zac (fun K hK r => ?_)
       simp only [zaC, l_len, List.map_toArray, List.map_cons, List.map_nil, zaF _ _ Try.underlying53, eX, ↓reduceIte, Nat.reduceEqDiff, Int.reduceToNat]
       refine hK _ _ ?_; clear hK K
       refine zac (fun K hK r => ?_)
       simp (disch := (first | omega | decide)) only [zaI, zaM, b_sub, zaG, zaK, zaJ, zaR, eX, ↓reduceIte, Nat.reduceEqDiff, Int.reduceToNat]
       rw [show (((S.length + 1 : Nat) : Int) - 1) = ((S.length : Nat) : Int) from by omega]
       refine hK _ _ ?_; clear hK K
       refine zao rfl ?_
       refine zae ?_
       try simp only [Ex.thnH, Ex.inBlockH, ↓reduceIte, Nat.reduceEqDiff]
       refine hK11 _ _ ?_; try clear hK11 K11
       refine zaP ?_
       refine CW_loop (fun m e H_ => ∃ j : Nat, j ≤ S.length ∧ m = j ∧ Le G H_ ∧ OwnS H_ 56 2 (.slice (some ⟨r0, 0, none⟩) (S.length + 1) sc60) (S.length + 1) (ens (insX S (enW w) j)) (some r0) ∧ (∀ b ∈ S.drop j, ltD d (enW w) b) ∧ Env.has [(0, .slice a M.length cap), (1, .int .i64 t), (2, .int .i64 lo), (3, .int .i64 hi), (4, .bool d), (11, .slice (some ⟨r0, 0, none⟩) (S.length + 1) sc60), (12, .int .i64 k), (13, .int .i64 j)] e) (S.length) ?_ ?_
       ·skip
        exact ⟨S.length, Nat.le_refl _, rfl, l60, by rw [insX_end]; exact ho60, (fun b hb => by rw [List.drop_length] at hb; cases hb), rfl, rfl, rfl, rfl, rfl, rfl, rfl, rfl, trivial⟩
       intro m_ e_ H_ hI_
       obtain ⟨j, hjS, hmj, hl2_, ho2_, hB_, he⟩ := hI_
       have hmj := hmj.symm; subst hmj
       obtain ⟨bo, oo, co, To, Fo, eo2, hbo, hso, ato⟩ := ho2_.holds.at (by omega)
       injection eo2 with eo2; injection eo2 with eo2 eo3; subst eo2; subst eo3
       obtain ⟨r1, c1, e1, hr1, hc1, hx1, hrs1⟩ := ho2_.blk (by omega)
       injection e1 with e1; injection e1 with e1; subst e1
       rw [hr1] at hbo; injection hbo with hbo; injection hbo with hbo hbT hbF; subst hbo; subst hbT; subst hbF
       have hbo := hr1
       have eo : (some ⟨r0, 0, none⟩ : Option Addr) = some ⟨r0, 0, none⟩ := rfl
       refine CW_env he.sub ?_; clear he e_
       refine zad (fun K12 hK12 => ?_)
       refine zad (fun K13 hK13 => ?_)
       obtain ⟨R8, hR8⟩ : ∃ R : Hp, R = H_ := ⟨_, rfl⟩
       refine CW_drawR [0, 0, 0, 0, 0, 0, 1, 0, 0, 0, 0, 1, 0, 2, 0] [0, 1, 2, 3, 4, 5, 6, 7, 8, 9, 10, 11, 12, 13, 14] R8 (by kernel_rfl) (by kernel_rfl) (by subst hR8; exact Le.refl _) (fun lR8 => ?_)
       have hRo : R8 r0 = some (.cells c1 56) := by rw [hR8]; exact hbo
       apply zaf rfl (zaa (by decide)) rfl
       ·intro r
        simp only [zaq, eX, ↓reduceIte, Nat.reduceEqDiff]
        exact ⟨rfl, Le.refl _⟩
       simp only [eX, ↓reduceIte, Nat.reduceEqDiff, Int.reduceToNat]
       apply zaf rfl (zaa (by decide)) rfl
       ·intro r
        simp (disch := (first | omega | decide)) only [zaI, zaM, b_gtr, zau, zaw, zat, zax, zas, zay, Bool.not_true, Bool.not_false, eX, ↓reduceIte, Nat.reduceEqDiff]
        exact ⟨rfl, Le.refl _⟩
       simp only [eX, ↓reduceIte, Nat.reduceEqDiff, Int.reduceToNat]
       apply zaf rfl (zaa (by decide)) rfl
       ·intro r
        simp only [zaq, eX, ↓reduceIte, Nat.reduceEqDiff]
        exact ⟨rfl, Le.refl _⟩
       simp only [eX, ↓reduceIte, Nat.reduceEqDiff, Int.reduceToNat]
       (first | refine TW_split (d := 66) rfl (fun g66 => ?_) (fun g66 => ?_) | skip)
       all_goals try (exfalso; exact cnA g66)
       all_goals (try simp only [decide_eq_true_eq, decide_eq_false_iff_not, Bool.not_eq_true, Bool.not_eq_false, Bool.and_eq_true, Bool.or_eq_true, Bool.or_eq_false_iff, Bool.not_eq_eq_eq_not, Bool.not_true, Bool.not_false] at g66)
       all_goals
        try simp only [eX, ↓reduceIte, Nat.reduceEqDiff, Int.reduceToNat]
        first
        |apply TW_pureG rfl (zaa (by decide)) rfl rfl
         ·intro r
          simp only [zaq, eX, ↓reduceIte, Nat.reduceEqDiff]
          exact ⟨rfl, Le.refl _⟩
         simp only [eX, ↓reduceIte, Nat.reduceEqDiff, Int.reduceToNat]
        |refine zaX rfl (zaa (by decide)) rfl ?_
         simp only [eX, ↓reduceIte, Nat.reduceEqDiff, Int.reduceToNat]
        first
        |apply TW_pureG rfl (zaa (by decide)) rfl rfl
         ·intro r
          simp only [zaq, eX, ↓reduceIte, Nat.reduceEqDiff]
          exact ⟨rfl, Le.refl _⟩
         simp only [eX, ↓reduceIte, Nat.reduceEqDiff, Int.reduceToNat]
        |refine zaX rfl (zaa (by decide)) rfl ?_
         simp only [eX, ↓reduceIte, Nat.reduceEqDiff, Int.reduceToNat]
        first
        |apply TW_pureG rfl (zaa (by decide)) rfl rfl
         ·intro r
          simp only [zav, eX, ↓reduceIte, Nat.reduceEqDiff]
          refine zaN Try.underlying53 sz56 eo ixA ixA ?_
          try simp only [Int.toNat_natCast]
          exact ⟨rfl, Le.refl _⟩
         simp only [eX, ↓reduceIte, Nat.reduceEqDiff, Int.reduceToNat]
        |refine zaX rfl (zaa (by decide)) rfl ?_
         simp only [eX, ↓reduceIte, Nat.reduceEqDiff, Int.reduceToNat]
        first
        |apply TW_lookG rfl (zaa (by decide)) rfl rfl
         ·intro r
          simp only [zar, eX, ↓reduceIte, Nat.reduceEqDiff]
          refine zaS Try.underlying56 rfl sz56 hRo (by omega) ?_
          rw [ext_at En.len ato (insX_len hjS).symm j (by rw [insX_len hjS]; omega) hso, insX_at hjS]
          exact ⟨rfl, Le.refl _⟩
         simp only [eX, ↓reduceIte, Nat.reduceEqDiff, Int.reduceToNat]
        |refine zaX rfl (zaa (by decide)) rfl ?_
         simp only [eX, ↓reduceIte, Nat.reduceEqDiff, Int.reduceToNat]
        first
        |apply TW_pureG rfl (zaa (by decide)) rfl rfl
         ·intro r
          simp only [zaq, eX, ↓reduceIte, Nat.reduceEqDiff]
          exact ⟨rfl, Le.refl _⟩
         simp only [eX, ↓reduceIte, Nat.reduceEqDiff, Int.reduceToNat]
        |refine zaX rfl (zaa (by decide)) rfl ?_
         simp only [eX, ↓reduceIte, Nat.reduceEqDiff, Int.reduceToNat]
        first
        |apply TW_pureG rfl (zaa (by decide)) rfl rfl
         ·intro r
          simp only [zaq, eX, ↓reduceIte, Nat.reduceEqDiff]
          exact ⟨rfl, Le.refl _⟩
         simp only [eX, ↓reduceIte, Nat.reduceEqDiff, Int.reduceToNat]
        |refine zaX rfl (zaa (by decide)) rfl ?_
         simp only [eX, ↓reduceIte, Nat.reduceEqDiff, Int.reduceToNat]
        first
        |apply TW_pureG rfl (zaa (by decide)) rfl rfl
         ·intro r
          simp (disch := (first | omega | decide)) only [zaI, zaM, b_sub, zaG, zaK, zaJ, zaR, eX, ↓reduceIte, Nat.reduceEqDiff]
          rw [show ((j : Int) - 1) = ((j - 1 : Nat) : Int) from by omega]
          exact ⟨rfl, Le.refl _⟩
         simp only [eX, ↓reduceIte, Nat.reduceEqDiff, Int.reduceToNat]
        |refine zaX rfl (zaa (by decide)) rfl ?_
         simp only [eX, ↓reduceIte, Nat.reduceEqDiff, Int.reduceToNat]
        first
        |apply TW_pureG rfl (zaa (by decide)) rfl rfl
         ·intro r
          simp only [zav, eX, ↓reduceIte, Nat.reduceEqDiff]
          refine zaN Try.underlying53 sz56 eo ixA ixA ?_
          try simp only [Int.toNat_natCast]
          exact ⟨rfl, Le.refl _⟩
         simp only [eX, ↓reduceIte, Nat.reduceEqDiff, Int.reduceToNat]
        |refine zaX rfl (zaa (by decide)) rfl ?_
         simp only [eX, ↓reduceIte, Nat.reduceEqDiff, Int.reduceToNat]
        first
        |apply TW_lookG rfl (zaa (by decide)) rfl rfl
         ·intro r
          simp only [zar, eX, ↓reduceIte, Nat.reduceEqDiff]
          refine zaS Try.underlying56 rfl sz56 hRo (by omega) ?_
          rw [ext_at En.len ato (insX_len hjS).symm (j - 1) (by rw [insX_len hjS]; omega) hso, insX_at1 (by omega) hjS]
          exact ⟨rfl, Le.refl _⟩
         simp only [eX, ↓reduceIte, Nat.reduceEqDiff, Int.reduceToNat]
        |refine zaX rfl (zaa (by decide)) rfl ?_
         simp only [eX, ↓reduceIte, Nat.reduceEqDiff, Int.reduceToNat]
        first
        |apply TW_pureG rfl (zaa (by decide)) rfl rfl
         ·intro r
          simp only [zaq, eX, ↓reduceIte, Nat.reduceEqDiff]
          exact ⟨rfl, Le.refl _⟩
         simp only [eX, ↓reduceIte, Nat.reduceEqDiff, Int.reduceToNat]
        |refine zaX rfl (zaa (by decide)) rfl ?_
         simp only [eX, ↓reduceIte, Nat.reduceEqDiff, Int.reduceToNat]
        first
        |refine TW_chainG rfl (zaa (by decide)) rfl rfl (fun K hK r => ?_)
         simp only [zaQ _ bd40, List.map_toArray, List.map_cons, List.map_nil, eX, ↓reduceIte, Nat.reduceEqDiff, Int.reduceToNat]
         refine (rless_ok _ (enW w) (at_ S (j - 1)) d).mono ?_
         rintro v H' ⟨rfl, hq⟩
         have hq := hq.symm
         subst hq
         try simp only [eX, ↓reduceIte, Nat.reduceEqDiff, Int.reduceToNat]
         refine hK _ _ leA ?_; clear hK K
        |refine zaX rfl (zaa (by decide)) rfl ?_
         simp only [eX, ↓reduceIte, Nat.reduceEqDiff, Int.reduceToNat]
        apply zaf rfl (zaa (by decide)) rfl
        ·intro r
         simp only [x_pick, l_asBool, HL.ite_bool, if_true, if_false, Bool.false_eq_true, eX, ↓reduceIte, Nat.reduceEqDiff]
         exact ⟨rfl, Le.refl _⟩
        simp only [eX, ↓reduceIte, Nat.reduceEqDiff, Int.reduceToNat]
        refine TW_nil ?_
        try simp only [Ex.thnH, Ex.inBlockH, ↓reduceIte, Nat.reduceEqDiff]
        refine hK13 _ _ ?_; try clear hK13 K13
        refine zaH (fun r => rfl) (fun c78 => ?_) (fun c78 => ?_)
        ·first
         |(exfalso; exact cnA c78; done)
         |skip
          have h0 : 0 < j := by first | omega | (simp at g66; omega) | (simp at c78; omega)
          have hlt : ltD d (enW w) (at_ S (j - 1)) := by simpa using c78
          have hrow1 := ho2_.rowR En.len hbo (insX_len hjS).symm (show j < S.length + 1 by omega) (at_ S (j - 1))
          have hrow2 := hrow1.rowR En.len (zap _ _ _) (by rw [List.length_set, insX_len hjS]) (show j - 1 < S.length + 1 by omega) (enW w)
          rw [upd_upd] at hrow2
          refine zaL ?_
          try simp only [Ex.thnH, Ex.inBlockH, ↓reduceIte, Nat.reduceEqDiff]
          refine hK12 _ _ ?_; try clear hK12 K12
          refine zad (fun K14 hK14 => ?_)
          refine zaP ?_
          refine CW_drawE [0, 0, 0, 0, 0, 0, 0, 0, 0, 1, 0, 0, 0, 1, 0, 3, 0, 3] [0, 1, 2, 3, 4, 5, 6, 7, 8, 9, 10, 11, 12, 13, 14, 15, 16, 17] (by kernel_rfl) (by kernel_rfl) (fun R10 hR10 => ?_)
          have hRo10 : R10 r0 = some (.cells c1 56) := by rw [hR10]; exact hbo
          apply zaf rfl (zaa (by decide)) rfl
          ·intro r
           simp only [zaq, eX, ↓reduceIte, Nat.reduceEqDiff]
           exact ⟨rfl, Le.refl _⟩
          simp only [eX, ↓reduceIte, Nat.reduceEqDiff, Int.reduceToNat]
          apply zaf rfl (zaa (by decide)) rfl
          ·intro r
           simp only [zaq, eX, ↓reduceIte, Nat.reduceEqDiff]
           exact ⟨rfl, Le.refl _⟩
          simp only [eX, ↓reduceIte, Nat.reduceEqDiff, Int.reduceToNat]
          apply zaf rfl (zaa (by decide)) rfl
          ·intro r
           simp only [zaq, eX, ↓reduceIte, Nat.reduceEqDiff]
           exact ⟨rfl, Le.refl _⟩
          simp only [eX, ↓reduceIte, Nat.reduceEqDiff, Int.reduceToNat]
          apply zaf rfl (zaa (by decide)) rfl
          ·intro r
           simp only [zaq, eX, ↓reduceIte, Nat.reduceEqDiff]
           exact ⟨rfl, Le.refl _⟩
          simp only [eX, ↓reduceIte, Nat.reduceEqDiff, Int.reduceToNat]
          apply zaf rfl (zaa (by decide)) rfl
          ·intro r
           simp (disch := (first | omega | decide)) only [zaI, zaM, b_sub, zaG, zaK, zaJ, zaR, eX, ↓reduceIte, Nat.reduceEqDiff]
           rw [show ((j : Int) - 1) = ((j - 1 : Nat) : Int) from by omega]
           exact ⟨rfl, Le.refl _⟩
          simp only [eX, ↓reduceIte, Nat.reduceEqDiff, Int.reduceToNat]
          apply zaf rfl (zaa (by decide)) rfl
          ·intro r
           simp only [zaq, eX, ↓reduceIte, Nat.reduceEqDiff]
           exact ⟨rfl, Le.refl _⟩
          simp only [eX, ↓reduceIte, Nat.reduceEqDiff, Int.reduceToNat]
          apply zaf rfl (zaa (by decide)) rfl
          ·intro r
           simp only [zaq, eX, ↓reduceIte, Nat.reduceEqDiff]
           exact ⟨rfl, Le.refl _⟩
          simp only [eX, ↓reduceIte, Nat.reduceEqDiff, Int.reduceToNat]
          apply zaf rfl (zaa (by decide)) rfl
          ·intro r
           simp (disch := (first | omega | decide)) only [zaI, zaM, b_sub, zaG, zaK, zaJ, zaR, eX, ↓reduceIte, Nat.reduceEqDiff]
           rw [show ((j : Int) - 1) = ((j - 1 : Nat) : Int) from by omega]
           exact ⟨rfl, Le.refl _⟩
          simp only [eX, ↓reduceIte, Nat.reduceEqDiff, Int.reduceToNat]
          apply zaf rfl (zaa (by decide)) rfl
          ·intro r
           simp only [zav, eX, ↓reduceIte, Nat.reduceEqDiff]
           refine zaN Try.underlying53 sz56 eo ixA ixA ?_
           try simp only [Int.toNat_natCast]
           exact ⟨rfl, Le.refl _⟩
          simp only [eX, ↓reduceIte, Nat.reduceEqDiff, Int.reduceToNat]
          apply zaW rfl (zaa (by decide)) rfl
          ·intro r
           simp only [zar, eX, ↓reduceIte, Nat.reduceEqDiff]
           refine zaS Try.underlying56 rfl sz56 hRo10 (by omega) ?_
           rw [ext_at En.len ato (insX_len hjS).symm (j - 1) (by rw [insX_len hjS]; omega) hso, insX_at1 h0 hjS]
           exact ⟨rfl, Le.refl _⟩
          simp only [eX, ↓reduceIte, Nat.reduceEqDiff, Int.reduceToNat]
          apply zaf rfl (zaa (by decide)) rfl
          ·intro r
           simp only [zaq, eX, ↓reduceIte, Nat.reduceEqDiff]
           exact ⟨rfl, Le.refl _⟩
          simp only [eX, ↓reduceIte, Nat.reduceEqDiff, Int.reduceToNat]
          apply zaf rfl (zaa (by decide)) rfl
          ·intro r
           simp only [zaq, eX, ↓reduceIte, Nat.reduceEqDiff]
           exact ⟨rfl, Le.refl _⟩
          simp only [eX, ↓reduceIte, Nat.reduceEqDiff, Int.reduceToNat]
          apply zaf rfl (zaa (by decide)) rfl
          ·intro r
           simp only [zav, eX, ↓reduceIte, Nat.reduceEqDiff]
           refine zaN Try.underlying53 sz56 eo ixA ixA ?_
           try simp only [Int.toNat_natCast]
           exact ⟨rfl, Le.refl _⟩
          simp only [eX, ↓reduceIte, Nat.reduceEqDiff, Int.reduceToNat]
          apply zaW rfl (zaa (by decide)) rfl
          ·intro r
           simp only [zar, eX, ↓reduceIte, Nat.reduceEqDiff]
           refine zaS Try.underlying56 rfl sz56 hRo10 (by omega) ?_
           rw [ext_at En.len ato (insX_len hjS).symm j (by rw [insX_len hjS]; omega) hso, insX_at hjS]
           exact ⟨rfl, Le.refl _⟩
          simp only [eX, ↓reduceIte, Nat.reduceEqDiff, Int.reduceToNat]
          apply zaf rfl (zaa (by decide)) rfl
          ·intro r
           simp only [zav, eX, ↓reduceIte, Nat.reduceEqDiff]
           refine zaN Try.underlying53 sz56 eo ixA ixA ?_
           try simp only [Int.toNat_natCast]
           exact ⟨rfl, Le.refl _⟩
          simp only [eX, ↓reduceIte, Nat.reduceEqDiff, Int.reduceToNat]
          refine TW_last rfl (lt_none) rfl (fun K hK r => ?_)
          simp only [x_store, eX, ↓reduceIte, Nat.reduceEqDiff, Int.reduceToNat]
          refine Lt_storeAtA sz56 rfl hbA (by show 0 + j * 2 + 2 ≤ _; omega) (by intro z hz; simp at hz; rcases hz with rfl | rfl <;> rfl) (by decide) ?_
          refine hK _ _ ?_; clear hK K
          apply zaf rfl (zaa (by decide)) rfl
          ·intro r
           simp only [zav, eX, ↓reduceIte, Nat.reduceEqDiff]
           refine zaN Try.underlying53 sz56 eo ixA ixA ?_
           try simp only [Int.toNat_natCast]
           exact ⟨rfl, Le.refl _⟩
          simp only [eX, ↓reduceIte, Nat.reduceEqDiff, Int.reduceToNat]
          refine TW_last rfl (lt_none) rfl (fun K hK r => ?_)
          simp only [x_store, eX, ↓reduceIte, Nat.reduceEqDiff, Int.reduceToNat]
          refine Lt_storeAtA sz56 rfl hbA (by show 0 + (j - 1) * 2 + 2 ≤ _; rw [putCells_size]; omega) (by intro z hz; simp at hz; rcases hz with rfl | rfl <;> rfl) (by decide) ?_
          rw [upd_upd]
          refine hK _ _ ?_; clear hK K
          refine TW_nil ?_
          try simp only [Ex.thnH, Ex.inBlockH, ↓reduceIte, Nat.reduceEqDiff]
          refine hK14 _ _ ?_; try clear hK14 K14
          refine zab ?_
          refine zag rfl ?_
          refine zac (fun K hK r => ?_)
          simp (disch := (first | omega | decide)) only [zaI, zaM, b_sub, zaG, zaK, zaJ, zaR, eX, ↓reduceIte, Nat.reduceEqDiff, Int.reduceToNat]
          refine hK _ _ ?_; clear hK K
          refine zao rfl ?_
          refine zae ?_
          try simp only [Ex.thnH, Ex.inBlockH, ↓reduceIte, Nat.reduceEqDiff]
          refine ⟨j - 1, by omega, j - 1, by omega, rfl, zal hl2_ hGr, ?_, fun b hb => ?_, rfl, rfl, rfl, rfl, rfl, rfl, rfl, ?_, trivial⟩
          ·have h9 := hrow2
           rw [insX_swap h0 hjS] at h9
           simp only [Nat.zero_add]
           exact h9
          ·rw [drop_at (by omega), show j - 1 + 1 = j from by omega] at hb
           rcases List.mem_cons.1 hb with rfl | hb
           ·exact hlt
           ·exact hB_ b hb
          ·show some (Value.int _ _) = some (Value.int _ _)
           congr 2; omega
        ·first
         |(exfalso; exact cnA c78; done)
         |skip
          have hA : 0 < j → ¬ ltD d (enW w) (at_ S (j - 1)) := by
           first
           |(intro _; simpa using c78; done)
           |(intro h0; exfalso; omega)
          refine CW_exit ?_
          try simp only [Ex.thnH, Ex.inBlockH, ↓reduceIte, Nat.reduceEqDiff]
          refine hK7 _ _ ?_; try clear hK7 K7
          refine zab ?_
          refine zag rfl ?_
          refine zac (fun K hK r => ?_)
          simp (disch := (first | omega | decide)) only [zaI, zaM, b_add, zaG, zaK, zaJ, zaR, eX, ↓reduceIte, Nat.reduceEqDiff, Int.reduceToNat]
          refine hK _ _ ?_; clear hK K
          refine zao rfl ?_
          refine zae ?_
          try simp only [Ex.thnH, Ex.inBlockH, ↓reduceIte, Nat.reduceEqDiff]
          first
          |(have hchk := hin
            refine ⟨M.length - (k + 1), by omega, k + 1, _, _, rs_, by omega, rfl, hl_, ho_, hr_, ?_, hSS, rfl, rfl, rfl, rfl, rfl, rfl, rfl, trivial⟩
            rw [colM_take (by omega), ← hw, if_neg (by rw [hin]; simp), List.append_nil]
            exact hSp)
          |(refine ⟨M.length - (k + 1), by omega, k + 1, insX S (enW w) j, .slice (some ⟨r0, 0, none⟩) (insX S (enW w) j).length sc60, some r0, by omega, rfl, hl2_, ?_, ?_, ?_, ?_, rfl, rfl, rfl, rfl, rfl, ?_, rfl, trivial⟩
            ·rw [insX_len hjS]; exact ho2_
            ·intro r hr; cases hr; exact hGr
            ·rw [colM_take (by omega), ← hw, if_pos hin2]
             exact (ins_perm j).trans ((hSp.cons _).trans (List.perm_append_singleton _ _).symm)
            ·exact pair_ins hSS hjS hnin hB_ hA
            ·rw [insX_len hjS]; rfl)
 ·first
  |(exfalso; exact cnA c17; done)
  |skip
   (try simp only [decide_eq_true_eq, decide_eq_false_iff_not, Bool.not_eq_true, Bool.not_eq_false, Bool.and_eq_true, Bool.or_eq_true, Bool.or_eq_false_iff, Bool.not_eq_eq_eq_not, Bool.not_true, Bool.not_false] at c17)
   obtain rfl : k = M.length := by omega
   rw [List.take_length] at hSp
   refine CW_exit ?_
   try simp only [Ex.thnH, Ex.inBlockH, ↓reduceIte, Nat.reduceEqDiff]
   refine hK3 _ _ ?_; try clear hK3 K3
   refine zad (fun K15 hK15 => ?_)
   refine zab ?_
   refine zag rfl ?_
   refine zao rfl ?_
   refine zae ?_
   try simp only [Ex.thnH, Ex.inBlockH, ↓reduceIte, Nat.reduceEqDiff]
   refine hK15 _ _ ?_; try clear hK15 K15
   refine zaV ?_
   try simp only [Ex.thnH, Ex.inBlockH, ↓reduceIte, Nat.reduceEqDiff]
   obtain ⟨N, hN1, hN2, hN3⟩ := own_new ho_
   exact ⟨[_], ⟨rfl, trivial⟩, _, Le.refl _, hl_, S, sa_, sc_, N, rfl, hN1, (fun x hx => hr_ x (hN2 x hx)), hN3.holds, hSp, hSS, ho_.capn⟩
end Go.Proofs.Ytjhohnbdhopllaa.HL
end
section
namespace Go.Proofs.Ytjhohnbdhopllaa.HL
open Go
set_option linter.unusedSimpArgs false
set_option linter.unusedVariables false
def refK (R : List WL) (k : Nat) : List Wr := (R.take k).foldl (fun M r => refM M r.l) []
theorem refK_succ {R : List WL} {k : Nat} (h : k < R.length) : refK R (k + 1) = refM (refK R k) (R.getD k default).l := by
  unfold refK
  rw [take_snocA h, List.foldl_append]; rfl
theorem refK_len {R : List WL} (hR : ∀ r ∈ R, r.l.length ≤ 20) : ∀ k, k ≤ R.length → (refK R k).length ≤ 20 * k
  | 0, _ => by unfold refK; simp
  | k + 1, h => by
    rw [refK_succ (by omega)]
    have h1 := hR _ (getD_memW (k := k) (by omega))
    have h2 := refM_len (refK R k) (R.getD k default).l
    have h3 := refK_len hR k (by omega)
    omega
theorem lnkK {R : List WL} : ∀ k, k ≤ R.length → Lnk (refK R k) (ixK R k)
  | 0, _ => by unfold refK ixK; exact Lnk.nil
  | k + 1, h => by
    rw [refK_succ (by omega), ixK_succ (by omega)]
    exact (lnkK k (by omega)).tell _
theorem filt_snocE {X : List En} {j : Nat} (h : j < X.length) (p : En → Bool) : (X.take (j + 1)).filter p = (X.take j).filter p ++ (if p (at_ X j) then [at_ X j] else []) := by
  rw [take_snocA h, List.filter_append]
  congr 1
  cases hw : p (at_ X j)
  · rw [List.filter_cons_of_neg (by rw [hw]; simp)]; rfl
  · rw [List.filter_cons_of_pos hw]; rfl
theorem filt_lenE (X : List En) (j : Nat) (p : En → Bool) : ((X.take j).filter p).length ≤ X.length := Nat.le_trans (List.length_filter_le _ _) (by rw [List.length_take]; omega)
theorem betE_one (L : List En) (v : Int) : betE L v v = L.filter (fun e => decide (e.v = v)) := by
  unfold betE
  refine List.filter_congr (fun e _ => ?_)
  rw [← Bool.decide_and]
  exact decide_eq_decide.2 (by omega)
theorem take_mm (S : List En) (n : Int) : S.take (min n.toNat S.length) = S.take n.toNat := by
  rcases Nat.le_total n.toNat S.length with h | h
  · rw [Nat.min_eq_left h]
  · rw [Nat.min_eq_right h, List.take_length, List.take_of_length_le h]
end Go.Proofs.Ytjhohnbdhopllaa.HL
end
section
namespace Go.Proofs.Ytjhohnbdhopllaa.HL
open Go Go.Proofs
set_option linter.unusedSimpArgs false
set_option linter.unusedVariables false
attribute [local irreducible] Lt Lq CW OW TW CallH
set_option maxRecDepth 100000 in
set_option maxHeartbeats 1000000 in
theorem plays_ok (G : Hp) (a : Option Addr) (cap : Nat) (R : List WL) (hv : Holds G 1 (.slice a R.length cap) R.length (R.flatMap WL.c)) (hR : ∀ r ∈ R, Holds G 4 (.slice r.a r.l.length r.cap) r.l.length (wrs r.l) ∧ ∀ w ∈ r.l, w.ok) (t lo hi n : Int) (t1 : -9223372036854775808 ≤ t) (t2 : t ≤ 9223372036854775807) (lo1 : -9223372036854775808 ≤ lo) (lo2 : lo ≤ 9223372036854775807) (hi1 : -9223372036854775808 ≤ hi) (hi2 : hi ≤ 9223372036854775807) : CallH Try.prog 4 #[.slice a R.length cap, .agg #[.int .i64 t, .int .i64 lo, .int .i64 hi, .int .i64 n]] G (fun v G' => v = .bool true ∧ Le G G') := by
 refine zaB (l := [_, _]) (rl := [.tmp 4]) (n := 149) Try.func4 rfl rfl rfl rfl rfl ?_
 simp only [envOf, Nat.reduceAdd]
 refine zad (fun K1 hK1 => ?_)
 refine zab ?_
 refine zac (fun K hK r => ?_)
 simp only [x_box, Value.cells, eX, ↓reduceIte, Nat.reduceEqDiff, Int.reduceToNat]
 intro b3 hb3
 have f3_G : G b3 = none := zaj lhA hb3
 try simp only [eX, ↓reduceIte, Nat.reduceEqDiff, Int.reduceToNat]
 refine hK _ _ ?_; clear hK K
 refine zao rfl ?_
 refine zae ?_
 try simp only [Ex.thnH, Ex.inBlockH, ↓reduceIte, Nat.reduceEqDiff]
 refine hK1 _ _ ?_; try clear hK1 K1
 refine zad (fun K2 hK2 => ?_)
 refine zad (fun K3 hK3 => ?_)
 refine zab ?_
 refine zac (fun K hK r => ?_)
 simp only [zaQ _ bd7, List.map_toArray, List.map_cons, List.map_nil, eX, ↓reduceIte, Nat.reduceEqDiff, Int.reduceToNat]
 refine (alive_ok _).mono ?_
 rintro v H' ⟨rfl, hq⟩
 have hq := hq.symm
 subst hq
 try simp only [eX, ↓reduceIte, Nat.reduceEqDiff, Int.reduceToNat]
 refine hK _ _ ?_; clear hK K
 refine zac (fun K hK r => ?_)
 simp only [x_un, u_not, eX, ↓reduceIte, Nat.reduceEqDiff, Int.reduceToNat]
 refine hK _ _ ?_; clear hK K
 refine zae ?_
 try simp only [Ex.thnH, Ex.inBlockH, ↓reduceIte, Nat.reduceEqDiff]
 refine hK3 _ _ ?_; try clear hK3 K3
 refine zaH (fun r => rfl) (fun c20 => ?_) (fun c20 => ?_)
 ·exfalso; exact cnA c20
 refine zaL ?_
 try simp only [Ex.thnH, Ex.inBlockH, ↓reduceIte, Nat.reduceEqDiff]
 refine hK2 _ _ ?_; try clear hK2 K2
 refine zad (fun K4 hK4 => ?_)
 refine zad (fun K5 hK5 => ?_)
 refine zab ?_
 refine zag rfl ?_
 refine zac (fun K hK r => ?_)
 simp only [zaQ _ bd8, List.map_toArray, List.map_cons, List.map_nil, eX, ↓reduceIte, Nat.reduceEqDiff, Int.reduceToNat]
 refine (long_ok _ a cap R (hv.le lhA)).mono ?_
 rintro v22 H' ⟨tl, rfl, hlong, hq⟩
 have hq := hq.symm
 subst hq
 try simp only [eX, ↓reduceIte, Nat.reduceEqDiff, Int.reduceToNat]
 refine hK _ _ ?_; clear hK K
 refine zae ?_
 try simp only [Ex.thnH, Ex.inBlockH, ↓reduceIte, Nat.reduceEqDiff]
 refine hK5 _ _ ?_; try clear hK5 K5
 refine zaH (fun r => rfl) (fun c22 => ?_) (fun c22 => ?_)
 ·first
  |(exfalso; exact cnA c22; done)
  |skip
   skip
   refine zad (fun K6 hK6 => ?_)
   refine zab ?_
   refine zao rfl ?_
   refine zae ?_
   try simp only [Ex.thnH, Ex.inBlockH, ↓reduceIte, Nat.reduceEqDiff]
   refine hK6 _ _ ?_; try clear hK6 K6
   refine zaV ?_
   try simp only [Ex.thnH, Ex.inBlockH, ↓reduceIte, Nat.reduceEqDiff]
   exact ⟨[_], ⟨rfl, trivial⟩, _, Le.refl _, rfl, lhA⟩
 ·first
  |(exfalso; exact cnA c22; done)
  |skip
   have hlen : ∀ r ∈ R, r.l.length ≤ 20 := all_getD (hlong (by simpa using c22)).2
   have hR31 := (hlong (by simpa using c22)).1
   refine zaL ?_
   try simp only [Ex.thnH, Ex.inBlockH, ↓reduceIte, Nat.reduceEqDiff]
   refine hK4 _ _ ?_; try clear hK4 K4
   refine zad (fun K7 hK7 => ?_)
   refine zab ?_
   refine zac (fun K hK r => ?_)
   simp only [zaQ _ bd9, List.map_toArray, List.map_cons, List.map_nil, eX, ↓reduceIte, Nat.reduceEqDiff, Int.reduceToNat]
   obtain ⟨H1, hH1⟩ : ∃ H1 : Hp, H1 = G.upd b3 (.cells #[.int .i64 t, .int .i64 lo, .int .i64 hi, .int .i64 n] 24) := ⟨_, rfl⟩
   have k1_3 : H1 b3 = some (.cells #[.int .i64 t, .int .i64 lo, .int .i64 hi, .int .i64 n] 24) := by rw [hH1]; exact hbA
   have lG1 : Le G H1 := by rw [hH1]; exact lhA
   rw [← hH1]
   refine (new_ok _).mono ?_
   rintro v23 H23 ⟨b, rfl, hS23⟩
   have lG23 := Le.trans lG1 hS23.old
   try simp only [eX, ↓reduceIte, Nat.reduceEqDiff, Int.reduceToNat]
   refine hK _ _ ?_; clear hK K
   refine zao rfl ?_
   refine zae ?_
   try simp only [Ex.thnH, Ex.inBlockH, ↓reduceIte, Nat.reduceEqDiff]
   refine hK7 _ _ ?_; try clear hK7 K7
   refine zad (fun K8 hK8 => ?_)
   refine zab ?_
   refine zac (fun K hK r => ?_)
   simp only [x_buildSlice, List.map_toArray, List.map_cons, List.map_nil, eX, ↓reduceIte, Nat.reduceEqDiff, Int.reduceToNat]
   refine Lt_buildSlice (vs := []) Try.underlying29 sz46 zr46 rfl bsA (by first | decide | (simp; done)) ?_
   simp only [List.flatMap_cons, List.flatMap_nil, Value.cells, List.append_nil, List.cons_append, List.nil_append, List.length_cons, List.length_nil, Nat.zero_add, Nat.reduceAdd]
   intro b24 hb24
   try have n24_b3 : b3 ≠ b24 := zaz hbA hb24
   have f24_H23 : H23 b24 = none := zaj lhA hb24
   have hS24 := hS23.put (b := b24) (.inl hb24) (.cells #[] 46)
   obtain ⟨G2, hG2⟩ : ∃ G2 : Hp, G2 = H1.upd b24 (.cells #[] 46) := ⟨_, rfl⟩
   have h24 := zaj hS23.old hb24
   rw [← hG2] at hS24
   have hl124 : Le H1 G2 := by rw [hG2]; exact zal (Le.refl _) h24
   have hv24 : Holds G2 4 (.slice (some ⟨b24, 0, none⟩) 0 0) 0 (wrs []) := ⟨rfl, .inr ⟨b24, 0, 0, #[], _, _, rfl, (by rw [hG2]; exact zap _ _ _), by simp, by simp⟩⟩
   try simp only [eX, ↓reduceIte, Nat.reduceEqDiff, Int.reduceToNat]
   refine hK _ _ ?_; clear hK K
   refine zao rfl ?_
   refine zae ?_
   try simp only [Ex.thnH, Ex.inBlockH, ↓reduceIte, Nat.reduceEqDiff]
   refine hK8 _ _ ?_; try clear hK8 K8
   refine zad (fun K9 hK9 => ?_)
   refine zad (fun K10 hK10 => ?_)
   refine zab ?_
   refine zag rfl ?_
   refine zac (fun K hK r => ?_)
   simp only [zaC, l_len, List.map_toArray, List.map_cons, List.map_nil, zaF _ _ Try.underlying22, eX, ↓reduceIte, Nat.reduceEqDiff, Int.reduceToNat]
   refine hK _ _ ?_; clear hK K
   refine zag rfl ?_
   refine zae ?_
   try simp only [Ex.thnH, Ex.inBlockH, ↓reduceIte, Nat.reduceEqDiff]
   refine hK10 _ _ ?_; try clear hK10 K10
   refine zaP ?_
   refine CW_loop (fun m e H_ => ∃ (k : Nat) (G2 : Hp) (ma : Option Addr) (mc : Nat), k ≤ R.length ∧ m = R.length - k ∧ StX (IX b (ixK R k)) G2 H_ ∧ Le H1 G2 ∧ Holds G2 4 (.slice ma (refK R k).length mc) (refK R k).length (wrs (refK R k)) ∧ Env.has [(3, .pointer (some ⟨b3, 0, none⟩)), (5, .pointer (some ⟨b, 0, none⟩)), (6, .slice ma (refK R k).length mc), (25, .slice a R.length cap), (26, .int .i64 R.length), (27, .int .i64 k)] e) (R.length) ?_ ?_
   ·skip
    exact ⟨0, G2, some ⟨b24, 0, none⟩, 0, by omega, by omega, hS24, hl124, hv24, rfl, rfl, rfl, rfl, rfl, rfl, trivial⟩
   intro m_ e_ H_ hI_
   obtain ⟨k, G2, ma, mc, hk, rfl, hS_, hl12, hvM, he⟩ := hI_
   have hk3 := hS_.old _ _ (hl12 _ _ k1_3)
   refine CW_env he.sub ?_; clear he e_
   refine zad (fun K11 hK11 => ?_)
   refine zab ?_
   refine zac (fun K hK r => ?_)
   simp (disch := (first | omega | decide)) only [zaI, zaM, b_lss, zau, zaw, zat, zax, zas, zay, Bool.not_true, Bool.not_false, eX, ↓reduceIte, Nat.reduceEqDiff, Int.reduceToNat]
   refine hK _ _ ?_; clear hK K
   refine zae ?_
   try simp only [Ex.thnH, Ex.inBlockH, ↓reduceIte, Nat.reduceEqDiff]
   refine hK11 _ _ ?_; try clear hK11 K11
   refine zad (fun K12 hK12 => ?_)
   refine zaH (fun r => rfl) (fun c28 => ?_) (fun c28 => ?_)
   ·first
    |(exfalso; exact cnA c28; done)
    |skip
     (try simp only [decide_eq_true_eq, decide_eq_false_iff_not, Bool.not_eq_true, Bool.not_eq_false, Bool.and_eq_true, Bool.or_eq_true, Bool.or_eq_false_iff, Bool.not_eq_eq_eq_not, Bool.not_true, Bool.not_false] at c28)
     have hkR : k < R.length := by omega
     obtain ⟨bw, ow, cw, Tw, Fw, ew, hbw, hsw, atw⟩ := ((hv.le (Le.trans lG1 hl12)).le hS_.old).at (by omega)
     obtain ⟨rr, hr⟩ : ∃ rr, rr = R.getD k default := ⟨_, rfl⟩
     have hrm : rr ∈ R := by rw [hr]; exact getD_memW hkR
     have hrl := hR rr hrm
     have hr20 := hlen rr hrm
     have hrfl := refK_len hlen k (by omega)
     refine zaL ?_
     try simp only [Ex.thnH, Ex.inBlockH, ↓reduceIte, Nat.reduceEqDiff]
     refine hK12 _ _ ?_; try clear hK12 K12
     refine zad (fun K13 hK13 => ?_)
     refine zaP ?_
     refine zad (fun K14 hK14 => ?_)
     refine zab ?_
     refine zac (fun K hK r => ?_)
     simp only [zav, eX, ↓reduceIte, Nat.reduceEqDiff, Int.reduceToNat]
     refine zaN Try.underlying22 sz29 ew ixA ixA ?_
     try simp only [Int.toNat_natCast]
     refine hK _ _ ?_; clear hK K
     refine zac (fun K hK r => ?_)
     simp only [zar, eX, ↓reduceIte, Nat.reduceEqDiff, Int.reduceToNat]
     refine zak Try.underlying29 rfl hbw (v := .slice rr.a rr.l.length rr.cap) (by rw [hr]; first | exact cell_at WL.len atw rfl k (by omega) 0 (by decide) | (rw [cell_at WL.len atw rfl k (by omega) 0 (by decide)]; rfl)) ?_
     refine hK _ _ ?_; clear hK K
     refine zao rfl ?_
     refine zae ?_
     try simp only [Ex.thnH, Ex.inBlockH, ↓reduceIte, Nat.reduceEqDiff]
     refine hK14 _ _ ?_; try clear hK14 K14
     refine zad (fun K15 hK15 => ?_)
     refine zab ?_
     refine zac (fun K hK r => ?_)
     simp only [x_buildSlice, List.map_toArray, List.map_cons, List.map_nil, eX, ↓reduceIte, Nat.reduceEqDiff, Int.reduceToNat]
     refine Lt_buildSlice (vs := []) Try.underlying29 sz46 zr46 rfl bsA (by first | decide | (simp; done)) ?_
     simp only [List.flatMap_cons, List.flatMap_nil, Value.cells, List.append_nil, List.cons_append, List.nil_append, List.length_cons, List.length_nil, Nat.zero_add, Nat.reduceAdd]
     intro b31 hb31
     try have n31_b3 : b3 ≠ b31 := zaz hbA hb31
     try simp only [eX, ↓reduceIte, Nat.reduceEqDiff, Int.reduceToNat]
     refine hK _ _ ?_; clear hK K
     refine zag rfl ?_
     refine zac (fun K hK r => ?_)
     simp only [zaC, l_append, List.map_toArray, List.map_cons, List.map_nil, eX, ↓reduceIte, Nat.reduceEqDiff, Int.reduceToNat]
     refine Lt_append Try.underlying29 Try.underlying29 (by simp) sz46 by46 (by decide) zr46 rfl _ (n := 0) (m := rr.l.length) (cs := []) (ds := wrs rr.l) (rs := some b31) ⟨rfl, .inr ⟨b31, 0, #[], rfl, hbA, Nat.le_refl _, rfl, by simp, rfl⟩⟩ (len_slice _ _ _) (fun Kx => first_slice (hrl.1.le (Le.trans (Le.trans lG1 (Le.trans hl12 hS_.old)) (zal (Le.refl _) hb31))) Kx) (wrs_len _).symm (wrs_plain rr.l) (by omega) ?_
     intro v33 H33 rs33 hg33 ho33 hr33
     have l33 : Le H_ H33 := hg33.le (H0 := H_) (zal (Le.refl _) hb31) (fun r hr => by cases hr; exact hb31)
     have hr33n : ∀ r, rs33 = some r → H_ r = none := fun r hr => by
      rcases hr33 r hr with h9 | h9
      ·cases h9; exact hb31
      ·exact zaj (zal (Le.refl _) hb31) h9
     simp only [Nat.zero_add, List.nil_append] at ho33
     obtain ⟨sa33, sc33, rfl⟩ := ho33.holds.form
     refine hK _ _ ?_; clear hK K
     refine zao rfl ?_
     refine zae ?_
     try simp only [Ex.thnH, Ex.inBlockH, ↓reduceIte, Nat.reduceEqDiff]
     refine hK15 _ _ ?_; try clear hK15 K15
     refine zad (fun K16 hK16 => ?_)
     refine zab ?_
     refine zag rfl ?_
     refine zag rfl ?_
     refine zac (fun K hK r => ?_)
     simp only [zaQ _ bd10, List.map_toArray, List.map_cons, List.map_nil, eX, ↓reduceIte, Nat.reduceEqDiff, Int.reduceToNat]
     obtain ⟨G3, hS33, hl23, hG3⟩ := hS_.wide l33
     have hc3 : Holds G3 4 (.slice sa33 rr.l.length sc33) rr.l.length (wrs rr.l) := (ho33.stay (fun x o hx ho => hG3 x o ho (hr33n x hx))).holds
     refine (tell_ok _ _ b (ixK R k) hS33 _ _ _ hc3 (20 * k) (ixK_sz hlen k (by omega)) (by omega)).mono ?_
     rintro v36 H36 ⟨rfl, hS36⟩
     rw [show tellE (ixK R k) rr.l = ixK R (k + 1) from by rw [ixK_succ hkR, hr]] at hS36
     have hc36 := hc3.le hS36.old
     have hr36 : Holds H36 4 (.slice rr.a rr.l.length rr.cap) rr.l.length (wrs rr.l) := hrl.1.le (Le.trans lG1 (Le.trans hl12 (Le.trans hl23 hS36.old)))
     try simp only [eX, ↓reduceIte, Nat.reduceEqDiff, Int.reduceToNat]
     refine hK _ _ ?_; clear hK K
     refine zao rfl ?_
     refine zae ?_
     try simp only [Ex.thnH, Ex.inBlockH, ↓reduceIte, Nat.reduceEqDiff]
     refine hK16 _ _ ?_; try clear hK16 K16
     refine zad (fun K17 hK17 => ?_)
     refine zab ?_
     refine zag rfl ?_
     refine zag rfl ?_
     refine zac (fun K hK r => ?_)
     simp only [zaQ _ bd16, List.map_toArray, List.map_cons, List.map_nil, eX, ↓reduceIte, Nat.reduceEqDiff, Int.reduceToNat]
     refine (rtell_ok G2 _ (Le.trans hl23 hS36.old) _ _ _ _ (refK R k) rr.l hvM hr36 (by omega)).mono ?_
     rintro v40 H40 ⟨hl40, ma', mc', N40, rfl, hN1, hN2, hN3⟩
     rw [show refM (refK R k) rr.l = refK R (k + 1) from by rw [refK_succ hkR, hr]] at hN3 ⊢
     obtain ⟨G4, hS40, hl34, hG4⟩ := hS36.wide hl40
     have hM4 := hN3.le (show Le N40 G4 from fun x o hx => by
      rcases hN2 x (by rw [hx]; simp) with h9 | h9
      ·cases hg : G2 x with
       |none => exact absurd hg h9
       |some o2 =>
        have h8 := hS40.old _ _ (hl34 _ _ (hl23 _ _ hg))
        rw [hN1 _ _ hx] at h8
        injection h8 with h8
        rw [h8]; exact hl34 _ _ (hl23 _ _ hg)
      ·exact hG4 x o (hN1 _ _ hx) h9)
     try simp only [eX, ↓reduceIte, Nat.reduceEqDiff, Int.reduceToNat]
     refine hK _ _ ?_; clear hK K
     refine zag rfl ?_
     refine zac (fun K hK r => ?_)
     simp only [x_extract, i_extract, List.getElem?_toArray, List.getElem?_cons_zero, List.getElem?_cons_succ, zai, eX, ↓reduceIte, Nat.reduceEqDiff, Int.reduceToNat]
     refine hK _ _ ?_; clear hK K
     refine zac (fun K hK r => ?_)
     simp only [x_extract, i_extract, List.getElem?_toArray, List.getElem?_cons_zero, List.getElem?_cons_succ, zai, eX, ↓reduceIte, Nat.reduceEqDiff, Int.reduceToNat]
     refine hK _ _ ?_; clear hK K
     refine zao rfl ?_
     refine zao rfl ?_
     refine zae ?_
     try simp only [Ex.thnH, Ex.inBlockH, ↓reduceIte, Nat.reduceEqDiff]
     refine hK17 _ _ ?_; try clear hK17 K17
     refine zad (fun K18 hK18 => ?_)
     refine zab ?_
     refine zag rfl ?_
     refine zao rfl ?_
     refine zae ?_
     try simp only [Ex.thnH, Ex.inBlockH, ↓reduceIte, Nat.reduceEqDiff]
     refine hK18 _ _ ?_; try clear hK18 K18
     refine zad (fun K19 hK19 => ?_)
     refine zab ?_
     refine zag rfl ?_
     refine zac (fun K hK r => ?_)
     simp only [zaQ _ bd17, List.map_toArray, List.map_cons, List.map_nil, eX, ↓reduceIte, Nat.reduceEqDiff, Int.reduceToNat]
     refine (num_Num _ (if rr.l.any farW then some 1 else none) (by intro k hk; split at hk <;> simp at hk; omega)).mono ?_
     rintro v H' ⟨rfl, hq⟩
     have hq := hq.symm
     subst hq
     rw [show ((if rr.l.any farW = true then some (1 : Int) else none).getD 0) = (if rr.l.any farW = true then 1 else 0) from by split <;> rfl]
     try simp only [eX, ↓reduceIte, Nat.reduceEqDiff, Int.reduceToNat]
     refine hK _ _ ?_; clear hK K
     refine zag rfl ?_
     refine zac (fun K hK r => ?_)
     simp (disch := (first | omega | decide)) only [zaI, zaM, b_neq, zau, zaw, zat, zax, zas, zay, Bool.not_true, Bool.not_false, eX, ↓reduceIte, Nat.reduceEqDiff, Int.reduceToNat]
     refine hK _ _ ?_; clear hK K
     refine zag rfl ?_
     (first | refine OW_split (d := 48) rfl (fun g48 => ?_) (fun g48 => ?_) | skip)
     all_goals try (exfalso; exact cnA g48)
     all_goals (try simp only [decide_eq_true_eq, decide_eq_false_iff_not, Bool.not_eq_true, Bool.not_eq_false, Bool.and_eq_true, Bool.or_eq_true, Bool.or_eq_false_iff, Bool.not_eq_eq_eq_not, Bool.not_true, Bool.not_false] at g48)
     all_goals
      try simp only [eX, ↓reduceIte, Nat.reduceEqDiff, Int.reduceToNat]
      first
      |refine zam rfl (zaa (by decide)) rfl (fun K hK r => ?_)
       simp only [zaq, eX, ↓reduceIte, Nat.reduceEqDiff, Int.reduceToNat]
       refine hK _ _ ?_; clear hK K
      |refine zan rfl (zaa (by decide)) rfl ?_
       simp only [eX, ↓reduceIte, Nat.reduceEqDiff, Int.reduceToNat]
      first
      |refine zam rfl (zaa (by decide)) rfl (fun K hK r => ?_)
       simp only [zaq, eX, ↓reduceIte, Nat.reduceEqDiff, Int.reduceToNat]
       refine hK _ _ ?_; clear hK K
      |refine zan rfl (zaa (by decide)) rfl ?_
       simp only [eX, ↓reduceIte, Nat.reduceEqDiff, Int.reduceToNat]
      first
      |refine zam rfl (zaa (by decide)) rfl (fun K hK r => ?_)
       simp only [zaQ _ bd18, List.map_toArray, List.map_cons, List.map_nil, eX, ↓reduceIte, Nat.reduceEqDiff, Int.reduceToNat]
       refine (num_Writes _ _ _ rr.l rr.l (hc36.le hl40) (hr36.le hl40) (by omega)).mono ?_
       rintro v H' ⟨rfl, hq⟩
       have hq := hq.symm
       subst hq
       try simp only [eX, ↓reduceIte, Nat.reduceEqDiff, Int.reduceToNat]
       refine hK _ _ ?_; clear hK K
      |refine zan rfl (zaa (by decide)) rfl ?_
       simp only [eX, ↓reduceIte, Nat.reduceEqDiff, Int.reduceToNat]
      first
      |refine zam rfl (zaa (by decide)) rfl (fun K hK r => ?_)
       simp only [x_un, u_not, eX, ↓reduceIte, Nat.reduceEqDiff, Int.reduceToNat]
       refine hK _ _ ?_; clear hK K
      |refine zan rfl (zaa (by decide)) rfl ?_
       simp only [eX, ↓reduceIte, Nat.reduceEqDiff, Int.reduceToNat]
      refine zac (fun K hK r => ?_)
      simp only [x_pick, l_asBool, HL.ite_bool, if_true, if_false, Bool.false_eq_true, eX, ↓reduceIte, Nat.reduceEqDiff, Int.reduceToNat]
      refine hK _ _ ?_; clear hK K
      refine zae ?_
      try simp only [Ex.thnH, Ex.inBlockH, ↓reduceIte, Nat.reduceEqDiff]
      refine hK19 _ _ ?_; try clear hK19 K19
      refine zaH (fun r => rfl) (fun c53 => ?_) (fun c53 => ?_)
      ·exfalso; exact cnA c53
      refine zaL ?_
      try simp only [Ex.thnH, Ex.inBlockH, ↓reduceIte, Nat.reduceEqDiff]
      refine hK13 _ _ ?_; try clear hK13 K13
      refine zab ?_
      refine zac (fun K hK r => ?_)
      simp (disch := (first | omega | decide)) only [zaI, zaM, b_add, zaG, zaK, zaJ, zaR, eX, ↓reduceIte, Nat.reduceEqDiff, Int.reduceToNat]
      refine hK _ _ ?_; clear hK K
      refine zag rfl ?_
      refine zae ?_
      try simp only [Ex.thnH, Ex.inBlockH, ↓reduceIte, Nat.reduceEqDiff]
      exact ⟨R.length - (k + 1), by omega, k + 1, G4, ma', mc', by omega, rfl, hS40, Le.trans hl12 (Le.trans hl23 hl34), hM4, rfl, rfl, rfl, rfl, rfl, rfl, trivial⟩
   ·first
    |(exfalso; exact cnA c28; done)
    |skip
     (try simp only [decide_eq_true_eq, decide_eq_false_iff_not, Bool.not_eq_true, Bool.not_eq_false, Bool.and_eq_true, Bool.or_eq_true, Bool.or_eq_false_iff, Bool.not_eq_eq_eq_not, Bool.not_true, Bool.not_false] at c28)
     obtain rfl : k = R.length := by omega
     obtain ⟨HB, hHB⟩ : ∃ HB : Hp, HB = H_ := ⟨_, rfl⟩
     subst hHB
     obtain ⟨E, hE⟩ : ∃ E, E = ixK R R.length := ⟨_, rfl⟩
     obtain ⟨M, hM⟩ : ∃ M, M = refK R R.length := ⟨_, rfl⟩
     have hlnk : Lnk M E := by rw [hM, hE]; exact lnkK _ (Nat.le_refl _)
     have hMl : M.length ≤ 620 := by rw [hM]; have := refK_len hlen R.length (Nat.le_refl _); omega
     have hgE : OkG E := by rw [hE]; exact ixK_ok (fun r hr => (hR r hr).2) _ (Nat.le_refl _)
     have hsE : SzE E 620 := by rw [hE]; exact (ixK_sz hlen _ (Nat.le_refl _)).up (by omega)
     rw [← hE] at hS_
     rw [← hM] at hvM ⊢
     obtain ⟨L, hL⟩ : ∃ L, L = tabE E t := ⟨_, rfl⟩
     have hgo := hgE.tab t
     have hLn : (tabE E t).length ≤ 100000 := by have := hsE.tab t; omega
     have hLn' : L.length ≤ 100000 := by rw [hL]; exact hLn
     have hrise : Rise L := by rw [hL]; exact hgo.1.rise
     have hok : OkE L := by rw [hL]; exact hgo.2
     have hXB := xv_of hS_
     have hvB := hvM.le hS_.old
     have kB3 := hk3
     have lB1 := hS_.old
     have lGB : Le G HB := Le.trans lG1 (Le.trans hl12 lB1)
     refine CW_exit ?_
     try simp only [Ex.thnH, Ex.inBlockH, ↓reduceIte, Nat.reduceEqDiff]
     refine hK9 _ _ ?_; try clear hK9 K9
     refine zad (fun K20 hK20 => ?_)
     refine zad (fun K21 hK21 => ?_)
     obtain ⟨R17, hR17⟩ : ∃ R : Hp, R = emptyHp.upd b3 (.cells #[.int .i64 t, .int .i64 lo, .int .i64 hi, .int .i64 n] 24) := ⟨_, rfl⟩
     refine CW_drawR [0, 0, 1, 0, 1, 0, 1, 2, 0, 0, 1, 0, 1, 0, 1, 2, 2, 0] [0, 1, 2, 3, 4, 5, 6, 7, 8, 9, 10, 11, 12, 13, 14, 15, 16, 17] R17 (by kernel_rfl) (by kernel_rfl) (by subst hR17; exact le_put (le_empty _) hbA) (fun lR17 => ?_)
     apply zaf rfl (zaa (by decide)) rfl
     ·intro r
      simp only [zaq, eX, ↓reduceIte, Nat.reduceEqDiff]
      exact ⟨rfl, Le.refl _⟩
     simp only [eX, ↓reduceIte, Nat.reduceEqDiff, Int.reduceToNat]
     apply zaf rfl (zaa (by decide)) rfl
     ·intro r
      simp only [zah, fa24_0, zaA, Nat.reduceAdd, Nat.zero_add, eX, ↓reduceIte, Nat.reduceEqDiff]
      exact ⟨rfl, Le.refl _⟩
     simp only [eX, ↓reduceIte, Nat.reduceEqDiff, Int.reduceToNat]
     apply zaW rfl (zaa (by decide)) rfl
     ·intro r
      simp only [zar, eX, ↓reduceIte, Nat.reduceEqDiff]
      refine zak Try.underlying3 rfl hbA ldA ?_
      exact ⟨rfl, Le.refl _⟩
     simp only [eX, ↓reduceIte, Nat.reduceEqDiff, Int.reduceToNat]
     apply zaf rfl (zaa (by decide)) rfl
     ·intro r
      simp only [zah, fa24_1, zaA, Nat.reduceAdd, Nat.zero_add, eX, ↓reduceIte, Nat.reduceEqDiff]
      exact ⟨rfl, Le.refl _⟩
     simp only [eX, ↓reduceIte, Nat.reduceEqDiff, Int.reduceToNat]
     apply zaW rfl (zaa (by decide)) rfl
     ·intro r
      simp only [zar, eX, ↓reduceIte, Nat.reduceEqDiff]
      refine zak Try.underlying3 rfl hbA ldA ?_
      exact ⟨rfl, Le.refl _⟩
     simp only [eX, ↓reduceIte, Nat.reduceEqDiff, Int.reduceToNat]
     apply zaf rfl (zaa (by decide)) rfl
     ·intro r
      simp only [zah, fa24_2, zaA, Nat.reduceAdd, Nat.zero_add, eX, ↓reduceIte, Nat.reduceEqDiff]
      exact ⟨rfl, Le.refl _⟩
     simp only [eX, ↓reduceIte, Nat.reduceEqDiff, Int.reduceToNat]
     apply zaW rfl (zaa (by decide)) rfl
     ·intro r
      simp only [zar, eX, ↓reduceIte, Nat.reduceEqDiff]
      refine zak Try.underlying3 rfl hbA ldA ?_
      exact ⟨rfl, Le.refl _⟩
     simp only [eX, ↓reduceIte, Nat.reduceEqDiff, Int.reduceToNat]
     refine TW_chain rfl (zaa (by decide)) rfl (fun K hK r => ?_)
     simp only [zaQ _ bd11, List.map_toArray, List.map_cons, List.map_nil, eX, ↓reduceIte, Nat.reduceEqDiff, Int.reduceToNat]
     refine (list_ok _ _ E hXB t lo hi hi1 hi2 hLn hgo.2).mono ?_
     rintro v62 H62 ⟨hl62, rs62, ho62, hr62⟩
     rw [← hL] at ho62
     obtain ⟨wa1, wc1, rfl⟩ := ho62.holds.form
     have lR62 : Le R17 H62 := by rw [hR17]; exact le_put (le_empty _) (hl62 _ _ kB3)
     try simp only [eX, ↓reduceIte, Nat.reduceEqDiff, Int.reduceToNat]
     refine hK _ _ leA ?_; clear hK K
     apply zaf rfl (zaa (by decide)) rfl
     ·intro r
      simp only [zaq, eX, ↓reduceIte, Nat.reduceEqDiff]
      exact ⟨rfl, Le.refl _⟩
     simp only [eX, ↓reduceIte, Nat.reduceEqDiff, Int.reduceToNat]
     apply zaf rfl (zaa (by decide)) rfl
     ·intro r
      simp only [zah, fa24_0, zaA, Nat.reduceAdd, Nat.zero_add, eX, ↓reduceIte, Nat.reduceEqDiff]
      exact ⟨rfl, Le.refl _⟩
     simp only [eX, ↓reduceIte, Nat.reduceEqDiff, Int.reduceToNat]
     apply zaW rfl (zaa (by decide)) rfl
     ·intro r
      simp only [zar, eX, ↓reduceIte, Nat.reduceEqDiff]
      refine zak Try.underlying3 rfl hbA ldA ?_
      exact ⟨rfl, Le.refl _⟩
     simp only [eX, ↓reduceIte, Nat.reduceEqDiff, Int.reduceToNat]
     apply zaf rfl (zaa (by decide)) rfl
     ·intro r
      simp only [zah, fa24_1, zaA, Nat.reduceAdd, Nat.zero_add, eX, ↓reduceIte, Nat.reduceEqDiff]
      exact ⟨rfl, Le.refl _⟩
     simp only [eX, ↓reduceIte, Nat.reduceEqDiff, Int.reduceToNat]
     apply zaW rfl (zaa (by decide)) rfl
     ·intro r
      simp only [zar, eX, ↓reduceIte, Nat.reduceEqDiff]
      refine zak Try.underlying3 rfl hbA ldA ?_
      exact ⟨rfl, Le.refl _⟩
     simp only [eX, ↓reduceIte, Nat.reduceEqDiff, Int.reduceToNat]
     apply zaf rfl (zaa (by decide)) rfl
     ·intro r
      simp only [zah, fa24_2, zaA, Nat.reduceAdd, Nat.zero_add, eX, ↓reduceIte, Nat.reduceEqDiff]
      exact ⟨rfl, Le.refl _⟩
     simp only [eX, ↓reduceIte, Nat.reduceEqDiff, Int.reduceToNat]
     apply zaW rfl (zaa (by decide)) rfl
     ·intro r
      simp only [zar, eX, ↓reduceIte, Nat.reduceEqDiff]
      refine zak Try.underlying3 rfl hbA ldA ?_
      exact ⟨rfl, Le.refl _⟩
     simp only [eX, ↓reduceIte, Nat.reduceEqDiff, Int.reduceToNat]
     refine TW_chain rfl (zaa (by decide)) rfl (fun K hK r => ?_)
     simp only [zaQ _ bd20, List.map_toArray, List.map_cons, List.map_nil, eX, ↓reduceIte, Nat.reduceEqDiff, Int.reduceToNat]
     refine (rorder_ok _ ma mc M (hvB.le hl62) t lo hi false (hlnk.nodup _ _ _) (by omega)).mono ?_
     rintro v70 H70 ⟨hl70, S, sa, sc, N70, rfl, hN71, hN72, hN73, hSp, hSS, hSc⟩
     have hSe : S = betE L lo hi := by rw [hL]; exact hlnk.up hgE hSp hSS
     have lR70 : Le R17 H70 := Le.trans lR62 hl70
     try simp only [eX, ↓reduceIte, Nat.reduceEqDiff, Int.reduceToNat]
     refine hK _ _ leA ?_; clear hK K
     refine TW_chain rfl (zaa (by decide)) rfl (fun K hK r => ?_)
     simp only [zaQ _ bd19, List.map_toArray, List.map_cons, List.map_nil, eX, ↓reduceIte, Nat.reduceEqDiff, Int.reduceToNat]
     refine (entries_ok _ _ _ _ _ (betE L lo hi) S (ho62.holds.le hl70) (hN73.le hN71) (by have := betE_len L lo hi; omega) hSe.symm).mono ?_
     rintro v71 H71 ⟨rfl, hl71⟩
     have hlB71 := Le.trans hl62 (Le.trans hl70 hl71)
     have k71_3 := hlB71 _ _ kB3
     have lR71 : Le R17 H71 := Le.trans lR70 hl71
     try simp only [eX, ↓reduceIte, Nat.reduceEqDiff, Int.reduceToNat]
     refine hK _ _ leA ?_; clear hK K
     apply zaf rfl (zaa (by decide)) rfl
     ·intro r
      simp only [x_un, u_not, eX, ↓reduceIte, Nat.reduceEqDiff]
      exact ⟨rfl, Le.refl _⟩
     simp only [eX, ↓reduceIte, Nat.reduceEqDiff, Int.reduceToNat]
     refine TW_nil ?_
     try simp only [Ex.thnH, Ex.inBlockH, ↓reduceIte, Nat.reduceEqDiff]
     refine hK21 _ _ ?_; try clear hK21 K21
     refine zaH (fun r => rfl) (fun c72 => ?_) (fun c72 => ?_)
     ·exfalso; exact cnA c72
     refine zaL ?_
     try simp only [Ex.thnH, Ex.inBlockH, ↓reduceIte, Nat.reduceEqDiff]
     refine hK20 _ _ ?_; try clear hK20 K20
     refine zad (fun K22 hK22 => ?_)
     refine zab ?_
     refine zag rfl ?_
     refine zac (fun K hK r => ?_)
     simp only [zah, fa24_0, zaA, Nat.reduceAdd, Nat.zero_add, eX, ↓reduceIte, Nat.reduceEqDiff, Int.reduceToNat]
     refine hK _ _ ?_; clear hK K
     refine zac (fun K hK r => ?_)
     simp only [zar, eX, ↓reduceIte, Nat.reduceEqDiff, Int.reduceToNat]
     refine zak Try.underlying3 rfl hbA ldA ?_
     try simp only [eX, ↓reduceIte, Nat.reduceEqDiff, Int.reduceToNat]
     refine hK _ _ ?_; clear hK K
     refine zac (fun K hK r => ?_)
     simp only [zaQ _ bd20, List.map_toArray, List.map_cons, List.map_nil, eX, ↓reduceIte, Nat.reduceEqDiff, Int.reduceToNat]
     refine (rorder_ok _ ma mc M (hvB.le hlB71) t (-9223372036854775808) 9223372036854775807 true (hlnk.nodup _ _ _) (by omega)).mono ?_
     rintro v76 H76 ⟨hl76, T, ta, tc, N76, rfl, hN77, hN78, hN79, hTp, hTT, hTc⟩
     obtain ⟨hTp2, hTT2⟩ := hlnk.down hgE hTp hTT
     have hTl : T.length = L.length := by rw [hL]; exact hTp2.length_eq
     have hlB76 := Le.trans hlB71 hl76
     have k76_3 := hlB76 _ _ kB3
     try simp only [eX, ↓reduceIte, Nat.reduceEqDiff, Int.reduceToNat]
     refine hK _ _ ?_; clear hK K
     refine zao rfl ?_
     refine zae ?_
     try simp only [Ex.thnH, Ex.inBlockH, ↓reduceIte, Nat.reduceEqDiff]
     refine hK22 _ _ ?_; try clear hK22 K22
     refine zad (fun K23 hK23 => ?_)
     refine zab ?_
     refine zac (fun K hK r => ?_)
     simp only [zah, fa24_3, zaA, Nat.reduceAdd, Nat.zero_add, eX, ↓reduceIte, Nat.reduceEqDiff, Int.reduceToNat]
     refine hK _ _ ?_; clear hK K
     refine zac (fun K hK r => ?_)
     simp only [zar, eX, ↓reduceIte, Nat.reduceEqDiff, Int.reduceToNat]
     refine zak Try.underlying3 rfl hbA ldA ?_
     try simp only [eX, ↓reduceIte, Nat.reduceEqDiff, Int.reduceToNat]
     refine hK _ _ ?_; clear hK K
     refine zag rfl ?_
     refine zac (fun K hK r => ?_)
     simp only [zaC, l_len, List.map_toArray, List.map_cons, List.map_nil, zaF _ _ Try.underlying53, eX, ↓reduceIte, Nat.reduceEqDiff, Int.reduceToNat]
     refine hK _ _ ?_; clear hK K
     refine zac (fun K hK r => ?_)
     simp only [zaC, l_min, List.map_toArray, List.map_cons, List.map_nil, i_min2, eX, ↓reduceIte, Nat.reduceEqDiff, Int.reduceToNat]
     refine hK _ _ ?_; clear hK K
     refine zac (fun K hK r => ?_)
     simp only [zaC, l_max, List.map_toArray, List.map_cons, List.map_nil, i_max2, eX, ↓reduceIte, Nat.reduceEqDiff, Int.reduceToNat]
     have htl : (T.take n.toNat).length = min n.toNat T.length := List.length_take
     rw [show (if (if ((T.length : Nat) : Int) < n then ((T.length : Nat) : Int) else n) > 0 then (if ((T.length : Nat) : Int) < n then ((T.length : Nat) : Int) else n) else 0) = (((T.take n.toNat).length : Nat) : Int) from by rw [htl]; split <;> split <;> omega]
     refine hK _ _ ?_; clear hK K
     refine zao rfl ?_
     refine zae ?_
     try simp only [Ex.thnH, Ex.inBlockH, ↓reduceIte, Nat.reduceEqDiff]
     refine hK23 _ _ ?_; try clear hK23 K23
     refine zad (fun K24 hK24 => ?_)
     refine zad (fun K25 hK25 => ?_)
     obtain ⟨R21, hR21⟩ : ∃ R : Hp, R = emptyHp.upd b3 (.cells #[.int .i64 t, .int .i64 lo, .int .i64 hi, .int .i64 n] 24) := ⟨_, rfl⟩
     refine CW_drawR [0, 0, 1, 0, 1, 5, 0, 0, 0, 5, 0, 0, 0, 0, 1, 2, 0, 0, 0, 0] [0, 1, 2, 3, 4, 5, 6, 7, 8, 9, 10, 11, 12, 13, 14, 15, 16, 17, 18, 19] R21 (by kernel_rfl) (by kernel_rfl) (by subst hR21; exact le_put (le_empty _) hbA) (fun lR21 => ?_)
     apply zaf rfl (zaa (by decide)) rfl
     ·intro r
      simp only [zaq, eX, ↓reduceIte, Nat.reduceEqDiff]
      exact ⟨rfl, Le.refl _⟩
     simp only [eX, ↓reduceIte, Nat.reduceEqDiff, Int.reduceToNat]
     apply zaf rfl (zaa (by decide)) rfl
     ·intro r
      simp only [zah, fa24_0, zaA, Nat.reduceAdd, Nat.zero_add, eX, ↓reduceIte, Nat.reduceEqDiff]
      exact ⟨rfl, Le.refl _⟩
     simp only [eX, ↓reduceIte, Nat.reduceEqDiff, Int.reduceToNat]
     apply zaW rfl (zaa (by decide)) rfl
     ·intro r
      simp only [zar, eX, ↓reduceIte, Nat.reduceEqDiff]
      refine zak Try.underlying3 rfl hbA ldA ?_
      exact ⟨rfl, Le.refl _⟩
     simp only [eX, ↓reduceIte, Nat.reduceEqDiff, Int.reduceToNat]
     apply zaf rfl (zaa (by decide)) rfl
     ·intro r
      simp only [zah, fa24_3, zaA, Nat.reduceAdd, Nat.zero_add, eX, ↓reduceIte, Nat.reduceEqDiff]
      exact ⟨rfl, Le.refl _⟩
     simp only [eX, ↓reduceIte, Nat.reduceEqDiff, Int.reduceToNat]
     apply zaW rfl (zaa (by decide)) rfl
     ·intro r
      simp only [zar, eX, ↓reduceIte, Nat.reduceEqDiff]
      refine zak Try.underlying3 rfl hbA ldA ?_
      exact ⟨rfl, Le.refl _⟩
     simp only [eX, ↓reduceIte, Nat.reduceEqDiff, Int.reduceToNat]
     refine TW_fence rfl (zaa (by decide)) rfl (fun K hK r => ?_)
     simp only [zaQ _ bd12, List.map_toArray, List.map_cons, List.map_nil, eX, ↓reduceIte, Nat.reduceEqDiff, Int.reduceToNat]
     refine (top_ok _ _ E (hXB.le hlB76) t n hLn T hTp2 hTT2).mono ?_
     rintro v88 H88 ⟨hl88, rs88, ho88, hr88⟩
     obtain ⟨wa2, wc2, rfl⟩ := ho88.holds.form
     have lR88 : Le R21 H88 := by rw [hR21]; exact le_put (le_empty _) (hl88 _ _ k76_3)
     try simp only [eX, ↓reduceIte, Nat.reduceEqDiff, Int.reduceToNat]
     refine hK _ _ (fun R88_ hR88_ => ?_); clear hK K
     apply zaf rfl (zaa (by decide)) rfl
     ·intro r
      simp only [zaq, eX, ↓reduceIte, Nat.reduceEqDiff]
      exact ⟨rfl, Le.refl _⟩
     simp only [eX, ↓reduceIte, Nat.reduceEqDiff, Int.reduceToNat]
     apply zaf rfl (zaa (by decide)) rfl
     ·intro r
      simp only [zaq, eX, ↓reduceIte, Nat.reduceEqDiff]
      exact ⟨rfl, Le.refl _⟩
     simp only [eX, ↓reduceIte, Nat.reduceEqDiff, Int.reduceToNat]
     apply zaf rfl (zaa (by decide)) rfl
     ·intro r
      simp only [x_slice, Option.map_some, Option.map_none, eX, ↓reduceIte, Nat.reduceEqDiff]
      refine Lt_sliceS Try.underlying53 sz56 zaU (bound_some (by omega)) zaU (by omega) (by simp only [Int.toNat_natCast]; omega) (Nat.le_refl _) (by simp) ?_
      simp only [Int.toNat_natCast, Nat.sub_zero, Nat.zero_mul]
      exact ⟨rfl, Le.refl _⟩
     simp only [eX, ↓reduceIte, Nat.reduceEqDiff, Int.reduceToNat]
     refine TW_fence rfl (zaa (by decide)) rfl (fun K hK r => ?_)
     simp only [zaQ _ bd19, List.map_toArray, List.map_cons, List.map_nil, eX, ↓reduceIte, Nat.reduceEqDiff, Int.reduceToNat]
     have hT91 := (hN79.le (Le.trans hN77 hl88)).slice (l := 0) (h := (T.take n.toNat).length) (m := tc) (by omega) (by omega) (by omega)
     simp only [Nat.sub_zero, Nat.zero_mul, List.drop_zero] at hT91
     rw [ens_take, show T.take (T.take n.toNat).length = T.take n.toNat from by rw [List.length_take, take_mm]] at hT91
     refine (entries_ok _ _ _ _ _ (T.take n.toNat) (T.take n.toNat) ho88.holds hT91 (by rw [List.length_take]; omega) rfl).mono ?_
     rintro v92 H92 ⟨rfl, hl92⟩
     have lR92 : Le R21 H92 := Le.trans lR88 hl92
     have hlB92 := Le.trans hlB76 (Le.trans hl88 hl92)
     have k92_3 := hlB92 _ _ kB3
     try simp only [eX, ↓reduceIte, Nat.reduceEqDiff, Int.reduceToNat]
     refine hK _ _ (fun R92_ hR92_ => ?_); clear hK K
     apply zaf rfl (zaa (by decide)) rfl
     ·intro r
      simp only [x_un, u_not, eX, ↓reduceIte, Nat.reduceEqDiff]
      exact ⟨rfl, Le.refl _⟩
     simp only [eX, ↓reduceIte, Nat.reduceEqDiff, Int.reduceToNat]
     apply zaf rfl (zaa (by decide)) rfl
     ·intro r
      simp only [zaq, eX, ↓reduceIte, Nat.reduceEqDiff]
      exact ⟨rfl, Le.refl _⟩
     simp only [eX, ↓reduceIte, Nat.reduceEqDiff, Int.reduceToNat]
     (first | refine TW_split (d := 94) rfl (fun g94 => ?_) (fun g94 => ?_) | skip)
     all_goals try (exfalso; exact cnA g94)
     all_goals (try simp only [decide_eq_true_eq, decide_eq_false_iff_not, Bool.not_eq_true, Bool.not_eq_false, Bool.and_eq_true, Bool.or_eq_true, Bool.or_eq_false_iff, Bool.not_eq_eq_eq_not, Bool.not_true, Bool.not_false] at g94)
     all_goals
      try simp only [eX, ↓reduceIte, Nat.reduceEqDiff, Int.reduceToNat]
      first
      |apply TW_pureG rfl (zaa (by decide)) rfl rfl
       ·intro r
        simp only [zaq, eX, ↓reduceIte, Nat.reduceEqDiff]
        exact ⟨rfl, Le.refl _⟩
       simp only [eX, ↓reduceIte, Nat.reduceEqDiff, Int.reduceToNat]
      |refine zaX rfl (zaa (by decide)) rfl ?_
       simp only [eX, ↓reduceIte, Nat.reduceEqDiff, Int.reduceToNat]
      first
      |apply TW_pureG rfl (zaa (by decide)) rfl rfl
       ·intro r
        simp only [zah, fa24_0, zaA, Nat.reduceAdd, Nat.zero_add, eX, ↓reduceIte, Nat.reduceEqDiff]
        exact ⟨rfl, Le.refl _⟩
       simp only [eX, ↓reduceIte, Nat.reduceEqDiff, Int.reduceToNat]
      |refine zaX rfl (zaa (by decide)) rfl ?_
       simp only [eX, ↓reduceIte, Nat.reduceEqDiff, Int.reduceToNat]
      first
      |apply TW_lookG rfl (zaa (by decide)) rfl rfl
       ·intro r
        simp only [zar, eX, ↓reduceIte, Nat.reduceEqDiff]
        refine zak Try.underlying3 rfl hbA ldA ?_
        exact ⟨rfl, Le.refl _⟩
       simp only [eX, ↓reduceIte, Nat.reduceEqDiff, Int.reduceToNat]
      |refine zaX rfl (zaa (by decide)) rfl ?_
       simp only [eX, ↓reduceIte, Nat.reduceEqDiff, Int.reduceToNat]
      first
      |refine TW_chainG rfl (zaa (by decide)) rfl rfl (fun K hK r => ?_)
       simp only [zaQ _ bd13, List.map_toArray, List.map_cons, List.map_nil, eX, ↓reduceIte, Nat.reduceEqDiff, Int.reduceToNat]
       refine (ixLen _ _ E (hXB.le hlB92) t).mono ?_
       rintro v98 H98 ⟨rfl, hl98⟩
       rw [← hL]
       have hlB98 := Le.trans hlB92 hl98
       have k98_3 := hlB98 _ _ kB3
       have lR98 : Le R21 H98 := Le.trans lR92 hl98
       try simp only [eX, ↓reduceIte, Nat.reduceEqDiff, Int.reduceToNat]
       refine hK _ _ leA ?_; clear hK K
      |refine zaX rfl (zaa (by decide)) rfl ?_
       simp only [eX, ↓reduceIte, Nat.reduceEqDiff, Int.reduceToNat]
      first
      |apply TW_pureG rfl (zaa (by decide)) rfl rfl
       ·intro r
        simp only [zaq, eX, ↓reduceIte, Nat.reduceEqDiff]
        exact ⟨rfl, Le.refl _⟩
       simp only [eX, ↓reduceIte, Nat.reduceEqDiff, Int.reduceToNat]
      |refine zaX rfl (zaa (by decide)) rfl ?_
       simp only [eX, ↓reduceIte, Nat.reduceEqDiff, Int.reduceToNat]
      first
      |apply TW_pureG rfl (zaa (by decide)) rfl rfl
       ·intro r
        simp only [zaC, l_len, List.map_toArray, List.map_cons, List.map_nil, zaF _ _ Try.underlying53, eX, ↓reduceIte, Nat.reduceEqDiff]
        exact ⟨rfl, Le.refl _⟩
       simp only [eX, ↓reduceIte, Nat.reduceEqDiff, Int.reduceToNat]
      |refine zaX rfl (zaa (by decide)) rfl ?_
       simp only [eX, ↓reduceIte, Nat.reduceEqDiff, Int.reduceToNat]
      first
      |apply TW_pureG rfl (zaa (by decide)) rfl rfl
       ·intro r
        simp (disch := (first | omega | decide)) only [zaI, zaM, b_neq, zau, zaw, zat, zax, zas, zay, Bool.not_true, Bool.not_false, eX, ↓reduceIte, Nat.reduceEqDiff]
        exact ⟨rfl, Le.refl _⟩
       simp only [eX, ↓reduceIte, Nat.reduceEqDiff, Int.reduceToNat]
      |refine zaX rfl (zaa (by decide)) rfl ?_
       simp only [eX, ↓reduceIte, Nat.reduceEqDiff, Int.reduceToNat]
      apply zaf rfl (zaa (by decide)) rfl
      ·intro r
       simp only [x_pick, l_asBool, HL.ite_bool, if_true, if_false, Bool.false_eq_true, eX, ↓reduceIte, Nat.reduceEqDiff]
       exact ⟨rfl, Le.refl _⟩
      simp only [eX, ↓reduceIte, Nat.reduceEqDiff, Int.reduceToNat]
      refine TW_nil ?_
      try simp only [Ex.thnH, Ex.inBlockH, ↓reduceIte, Nat.reduceEqDiff]
      refine hK25 _ _ ?_; try clear hK25 K25
      refine zaH (fun r => rfl) (fun c102 => ?_) (fun c102 => ?_)
      ·exfalso; exact cnA c102
      refine zaL ?_
      try simp only [Ex.thnH, Ex.inBlockH, ↓reduceIte, Nat.reduceEqDiff]
      refine hK24 _ _ ?_; try clear hK24 K24
      refine zad (fun K26 hK26 => ?_)
      refine zab ?_
      refine zac (fun K hK r => ?_)
      simp only [x_buildSlice, List.map_toArray, List.map_cons, List.map_nil, eX, ↓reduceIte, Nat.reduceEqDiff, Int.reduceToNat]
      refine Lt_buildSlice (vs := []) Try.underlying55 sz3 zr3 rfl bsA (by first | decide | (simp; done)) ?_
      simp only [List.flatMap_cons, List.flatMap_nil, Value.cells, List.append_nil, List.cons_append, List.nil_append, List.length_cons, List.length_nil, Nat.zero_add, Nat.reduceAdd]
      intro b103 hb103
      try have n103_b3 : b3 ≠ b103 := zaz hbA hb103
      have f103_H98 : H98 b103 = none := zaj lhA hb103
      try simp only [eX, ↓reduceIte, Nat.reduceEqDiff, Int.reduceToNat]
      refine hK _ _ ?_; clear hK K
      refine zao rfl ?_
      refine zao rfl ?_
      refine zae ?_
      try simp only [Ex.thnH, Ex.inBlockH, ↓reduceIte, Nat.reduceEqDiff]
      refine hK26 _ _ ?_; try clear hK26 K26
      refine zad (fun K27 hK27 => ?_)
      refine zad (fun K28 hK28 => ?_)
      refine zab ?_
      refine zag rfl ?_
      refine zac (fun K hK r => ?_)
      simp only [zah, fa24_0, zaA, Nat.reduceAdd, Nat.zero_add, eX, ↓reduceIte, Nat.reduceEqDiff, Int.reduceToNat]
      refine hK _ _ ?_; clear hK K
      refine zac (fun K hK r => ?_)
      simp only [zar, eX, ↓reduceIte, Nat.reduceEqDiff, Int.reduceToNat]
      refine zak Try.underlying3 rfl hbA ldA ?_
      try simp only [eX, ↓reduceIte, Nat.reduceEqDiff, Int.reduceToNat]
      refine hK _ _ ?_; clear hK K
      refine zac (fun K hK r => ?_)
      simp only [zaQ _ bd20, List.map_toArray, List.map_cons, List.map_nil, eX, ↓reduceIte, Nat.reduceEqDiff, Int.reduceToNat]
      refine (rorder_ok _ ma mc M (hvB.le (Le.trans hlB98 lhA)) t (-9223372036854775808) 9223372036854775807 false (hlnk.nodup _ _ _) (by omega)).mono ?_
      rintro v107 H107 ⟨hl107, U, ua, uc, N107, rfl, hN108, hN109, hN110, hUp, hUU, hUc⟩
      have hUe : U = L := by rw [hlnk.up hgE hUp hUU, betE_all hgo.2, hL]
      rw [hUe] at hN110 ⊢
      have k107_103 := hl107 _ _ (zap _ _ _)
      have hn103 : N107 b103 = none := by
       cases hc : N107 b103 with
       |none => rfl
       |some o => have := hN109 b103 (by rw [hc]; simp); rw [zap] at this; cases this
      have l98_107 : Le H98 H107 := Le.trans lhA hl107
      try simp only [eX, ↓reduceIte, Nat.reduceEqDiff, Int.reduceToNat]
      refine hK _ _ ?_; clear hK K
      refine zac (fun K hK r => ?_)
      simp only [zaC, l_len, List.map_toArray, List.map_cons, List.map_nil, zaF _ _ Try.underlying53, eX, ↓reduceIte, Nat.reduceEqDiff, Int.reduceToNat]
      refine hK _ _ ?_; clear hK K
      refine zag rfl ?_
      refine zae ?_
      try simp only [Ex.thnH, Ex.inBlockH, ↓reduceIte, Nat.reduceEqDiff]
      refine hK28 _ _ ?_; try clear hK28 K28
      refine zaP ?_
      refine CW_loop (fun m e H_ => ∃ (k : Nat) (kv : Value) (rs : Option Nat), k ≤ L.length ∧ m = L.length - k ∧ Le H98 H_ ∧ Le N107 H_ ∧ OwnS H_ 3 1 kv ((L.take k).filter (fun e => decide (e.v = lo))).length (i64s (((L.take k).filter (fun e => decide (e.v = lo))).map En.k)) rs ∧ (∀ r, rs = some r → H98 r = none ∧ N107 r = none) ∧ Env.has [(3, .pointer (some ⟨b3, 0, none⟩)), (5, .pointer (some ⟨b, 0, none⟩)), (15, kv), (16, .int .i64 ((L.take k).filter (fun e => decide (e.v < lo))).length), (107, .slice ua L.length uc), (108, .int .i64 L.length), (109, .int .i64 k)] e) (L.length) ?_ ?_
      ·skip
       exact ⟨0, _, some b103, by omega, by omega, l98_107, hN108, ⟨rfl, .inr ⟨b103, 0, _, rfl, k107_103, Nat.le_refl _, rfl, rfl, rfl⟩⟩, (fun r hr => by cases hr; exact ⟨hb103, hn103⟩), rfl, rfl, rfl, rfl, rfl, rfl, rfl, trivial⟩
      intro m_ e_ H_ hI_
      obtain ⟨k, kv, rs_, hk, rfl, hl_, hlN_, ho_, hr_, he⟩ := hI_
      have hk3 := hl_ _ _ k98_3
      have hkl := filt_lenE L k (fun e => decide (e.v = lo))
      have hkl2 := filt_lenE L k (fun e => decide (e.v < lo))
      obtain ⟨sa_, sc_, rfl⟩ := ho_.holds.form
      refine CW_env he.sub ?_; clear he e_
      refine zad (fun K29 hK29 => ?_)
      refine zab ?_
      refine zac (fun K hK r => ?_)
      simp (disch := (first | omega | decide)) only [zaI, zaM, b_lss, zau, zaw, zat, zax, zas, zay, Bool.not_true, Bool.not_false, eX, ↓reduceIte, Nat.reduceEqDiff, Int.reduceToNat]
      refine hK _ _ ?_; clear hK K
      refine zae ?_
      try simp only [Ex.thnH, Ex.inBlockH, ↓reduceIte, Nat.reduceEqDiff]
      refine hK29 _ _ ?_; try clear hK29 K29
      refine zad (fun K30 hK30 => ?_)
      refine zaH (fun r => rfl) (fun c110 => ?_) (fun c110 => ?_)
      ·first
       |(exfalso; exact cnA c110; done)
       |skip
        (try simp only [decide_eq_true_eq, decide_eq_false_iff_not, Bool.not_eq_true, Bool.not_eq_false, Bool.and_eq_true, Bool.or_eq_true, Bool.or_eq_false_iff, Bool.not_eq_eq_eq_not, Bool.not_true, Bool.not_false] at c110)
        have hkL : k < L.length := by omega
        obtain ⟨bw, ow, cw, Tw, Fw, ew, hbw, hsw, atw⟩ := (hN110.le hlN_).at (by omega)
        refine zaL ?_
        try simp only [Ex.thnH, Ex.inBlockH, ↓reduceIte, Nat.reduceEqDiff]
        refine hK30 _ _ ?_; try clear hK30 K30
        refine zad (fun K31 hK31 => ?_)
        refine zaP ?_
        refine zad (fun K32 hK32 => ?_)
        refine zab ?_
        refine zac (fun K hK r => ?_)
        simp only [zav, eX, ↓reduceIte, Nat.reduceEqDiff, Int.reduceToNat]
        refine zaN Try.underlying53 sz56 ew ixA ixA ?_
        try simp only [Int.toNat_natCast]
        refine hK _ _ ?_; clear hK K
        refine zac (fun K hK r => ?_)
        simp only [zar, eX, ↓reduceIte, Nat.reduceEqDiff, Int.reduceToNat]
        refine zaS Try.underlying56 rfl sz56 hbA (by omega) ?_
        rw [ext_at En.len atw rfl k (by omega) hsw]
        refine hK _ _ ?_; clear hK K
        refine zac (fun K hK r => ?_)
        simp only [x_alloc, zr56, zai, Value.cells, eX, ↓reduceIte, Nat.reduceEqDiff, Int.reduceToNat]
        intro b18 hb18
        try have n18_b3 : b3 ≠ b18 := zaz hbA hb18
        try have n18_bw : bw ≠ b18 := zaz hbA hb18
        try simp only [eX, ↓reduceIte, Nat.reduceEqDiff, Int.reduceToNat]
        refine hK _ _ ?_; clear hK K
        refine OW_op rfl (lt_none) (fun K hK r => ?_)
        simp only [x_store, eX, ↓reduceIte, Nat.reduceEqDiff, Int.reduceToNat]
        first | refine Lt_storeAll sz56 bdA hbA bdA plA (by decide) ?_ | refine Lt_storeAtA sz56 bdA hbA bdA plA (by decide) ?_
        try simp only [eX, ↓reduceIte, Nat.reduceEqDiff, Int.reduceToNat]
        refine hK _ _ ?_; clear hK K
        refine zae ?_
        try simp only [Ex.thnH, Ex.inBlockH, ↓reduceIte, Nat.reduceEqDiff]
        refine hK32 _ _ ?_; try clear hK32 K32
        refine zad (fun K33 hK33 => ?_)
        refine zad (fun K34 hK34 => ?_)
        refine zab ?_
        refine zac (fun K hK r => ?_)
        simp only [zah, fa56_0, zaA, Nat.reduceAdd, Nat.zero_add, eX, ↓reduceIte, Nat.reduceEqDiff, Int.reduceToNat]
        refine hK _ _ ?_; clear hK K
        refine zac (fun K hK r => ?_)
        simp only [zar, eX, ↓reduceIte, Nat.reduceEqDiff, Int.reduceToNat]
        refine zak Try.underlying3 rfl hbA ldA ?_
        try simp only [eX, ↓reduceIte, Nat.reduceEqDiff, Int.reduceToNat]
        refine hK _ _ ?_; clear hK K
        refine zac (fun K hK r => ?_)
        simp only [zah, fa24_1, zaA, Nat.reduceAdd, Nat.zero_add, eX, ↓reduceIte, Nat.reduceEqDiff, Int.reduceToNat]
        refine hK _ _ ?_; clear hK K
        refine zac (fun K hK r => ?_)
        simp only [zar, eX, ↓reduceIte, Nat.reduceEqDiff, Int.reduceToNat]
        refine zak Try.underlying3 rfl hbA ldA ?_
        try simp only [eX, ↓reduceIte, Nat.reduceEqDiff, Int.reduceToNat]
        refine hK _ _ ?_; clear hK K
        refine zac (fun K hK r => ?_)
        simp (disch := (first | omega | decide)) only [zaI, zaM, b_eql, zau, zaw, zat, zax, zas, zay, Bool.not_true, Bool.not_false, eX, ↓reduceIte, Nat.reduceEqDiff, Int.reduceToNat]
        refine hK _ _ ?_; clear hK K
        refine zae ?_
        try simp only [Ex.thnH, Ex.inBlockH, ↓reduceIte, Nat.reduceEqDiff]
        refine hK34 _ _ ?_; try clear hK34 K34
        refine zaH (fun r => rfl) (fun c117 => ?_) (fun c117 => ?_)
        ·first
         |(exfalso; exact cnA c117; done)
         |skip
          have hkv : (at_ L k).v = lo := by simpa using c117
          refine zab ?_
          refine zag rfl ?_
          refine zac (fun K hK r => ?_)
          simp only [zah, fa56_1, zaA, Nat.reduceAdd, Nat.zero_add, eX, ↓reduceIte, Nat.reduceEqDiff, Int.reduceToNat]
          refine hK _ _ ?_; clear hK K
          refine zac (fun K hK r => ?_)
          simp only [zar, eX, ↓reduceIte, Nat.reduceEqDiff, Int.reduceToNat]
          refine zak Try.underlying3 rfl hbA ldA ?_
          try simp only [eX, ↓reduceIte, Nat.reduceEqDiff, Int.reduceToNat]
          refine hK _ _ ?_; clear hK K
          refine zac (fun K hK r => ?_)
          simp only [x_buildSlice, List.map_toArray, List.map_cons, List.map_nil, eX, ↓reduceIte, Nat.reduceEqDiff, Int.reduceToNat]
          refine Lt_buildSlice (vs := [_]) Try.underlying55 sz3 zr3 rfl bsA (by first | decide | (simp; done)) ?_
          simp only [List.flatMap_cons, List.flatMap_nil, Value.cells, List.append_nil, List.cons_append, List.nil_append, List.length_cons, List.length_nil, Nat.zero_add, Nat.reduceAdd]
          intro b121 hb121
          try have n121_b3 : b3 ≠ b121 := zaz hbA hb121
          try have n121_bw : bw ≠ b121 := zaz hbA hb121
          try have n121_b18 : b18 ≠ b121 := zaz hbA hb121
          try simp only [eX, ↓reduceIte, Nat.reduceEqDiff, Int.reduceToNat]
          refine hK _ _ ?_; clear hK K
          refine zac (fun K hK r => ?_)
          simp only [zaC, l_append, List.map_toArray, List.map_cons, List.map_nil, eX, ↓reduceIte, Nat.reduceEqDiff, Int.reduceToNat]
          refine Lt_append Try.underlying55 Try.underlying55 (by simp) sz3 by3 (by decide) zr3 rfl _ (n := ((L.take k).filter (fun e => decide (e.v = lo))).length) (m := 1) (cs := i64s (((L.take k).filter (fun e => decide (e.v = lo))).map En.k)) (ds := [.int .i64 (at_ L k).k]) (rs := rs_) (OwnS.make (OwnS.make ho_ hb18) hb121) (len_slice _ _ _) (fun Kx => first_slice (w := 1) (n := 1) (cs := [.int .i64 (at_ L k).k]) ⟨rfl, .inr ⟨b121, 0, 1, _, _, _, rfl, hbA, by simp, by simp⟩⟩ Kx) rfl (by intro z hz; simp at hz; subst hz; rfl) (by omega) ?_
          intro v122 H122 rs122 hg122 ho122 hr122
          have f18 := zaj hl_ hb18
          have f121 : H98 b121 = none := zaj (zal hl_ f18) hb121
          have g18 := zaj hlN_ hb18
          have g121 : N107 b121 = none := zaj (zal hlN_ g18) hb121
          have l122 : Le H98 H122 := hg122.le (H0 := H98) (zal (zal hl_ f18) f121) (fun r hr => (hr_ r hr).1)
          have lN122 : Le N107 H122 := hg122.le (H0 := N107) (zal (zal hlN_ g18) g121) (fun r hr => (hr_ r hr).2)
          have hr122n : ∀ r, rs122 = some r → H98 r = none ∧ N107 r = none := fun r hr => by
           rcases hr122 r hr with h9 | h9
           ·exact hr_ r h9
           ·exact ⟨zaj (zal (zal hl_ f18) f121) h9, zaj (zal (zal hlN_ g18) g121) h9⟩
          have k122 : H122 b18 = some (.cells (at_ L k).c.toArray 56) := hg122.known b18 _ hbA (ho_.ne_fresh hb18)
          have k122_3 := l122 _ _ k98_3
          obtain ⟨sa122, sc122, rfl⟩ := ho122.holds.form
          refine hK _ _ ?_; clear hK K
          refine zao rfl ?_
          refine zae ?_
          try simp only [Ex.thnH, Ex.inBlockH, ↓reduceIte, Nat.reduceEqDiff]
          refine hK33 _ _ ?_; try clear hK33 K33
          refine zad (fun K35 hK35 => ?_)
          refine zab ?_
          refine zac (fun K hK r => ?_)
          simp only [zah, fa56_0, zaA, Nat.reduceAdd, Nat.zero_add, eX, ↓reduceIte, Nat.reduceEqDiff, Int.reduceToNat]
          refine hK _ _ ?_; clear hK K
          refine zac (fun K hK r => ?_)
          simp only [zar, eX, ↓reduceIte, Nat.reduceEqDiff, Int.reduceToNat]
          refine zak Try.underlying3 rfl hbA ldA ?_
          try simp only [eX, ↓reduceIte, Nat.reduceEqDiff, Int.reduceToNat]
          refine hK _ _ ?_; clear hK K
          refine zac (fun K hK r => ?_)
          simp only [zah, fa24_1, zaA, Nat.reduceAdd, Nat.zero_add, eX, ↓reduceIte, Nat.reduceEqDiff, Int.reduceToNat]
          refine hK _ _ ?_; clear hK K
          refine zac (fun K hK r => ?_)
          simp only [zar, eX, ↓reduceIte, Nat.reduceEqDiff, Int.reduceToNat]
          refine zak Try.underlying3 rfl hbA ldA ?_
          try simp only [eX, ↓reduceIte, Nat.reduceEqDiff, Int.reduceToNat]
          refine hK _ _ ?_; clear hK K
          refine zac (fun K hK r => ?_)
          simp (disch := (first | omega | decide)) only [zaI, zaM, b_lss, zau, zaw, zat, zax, zas, zay, Bool.not_true, Bool.not_false, eX, ↓reduceIte, Nat.reduceEqDiff, Int.reduceToNat]
          refine hK _ _ ?_; clear hK K
          refine zae ?_
          try simp only [Ex.thnH, Ex.inBlockH, ↓reduceIte, Nat.reduceEqDiff]
          refine hK35 _ _ ?_; try clear hK35 K35
          refine zaH (fun r => rfl) (fun c127 => ?_) (fun c127 => ?_)
          ·first
           |(exfalso; exact cnA c127; done)
           |skip
            have hlv : (at_ L k).v < lo := by simpa using c127
            refine zab ?_
            refine zag rfl ?_
            refine zac (fun K hK r => ?_)
            simp (disch := (first | omega | decide)) only [zaI, zaM, b_add, zaG, zaK, zaJ, zaR, eX, ↓reduceIte, Nat.reduceEqDiff, Int.reduceToNat]
            refine hK _ _ ?_; clear hK K
            refine zao rfl ?_
            refine zae ?_
            try simp only [Ex.thnH, Ex.inBlockH, ↓reduceIte, Nat.reduceEqDiff]
            refine hK31 _ _ ?_; try clear hK31 K31
            refine zab ?_
            refine zac (fun K hK r => ?_)
            simp (disch := (first | omega | decide)) only [zaI, zaM, b_add, zaG, zaK, zaJ, zaR, eX, ↓reduceIte, Nat.reduceEqDiff, Int.reduceToNat]
            refine hK _ _ ?_; clear hK K
            refine zag rfl ?_
            refine zae ?_
            try simp only [Ex.thnH, Ex.inBlockH, ↓reduceIte, Nat.reduceEqDiff]
            first
            |(exfalso; omega)
            |(have hchk := l122
              rw [show i64s (((L.take k).filter (fun e => decide (e.v = lo))).map En.k) ++ [.int .i64 (at_ L k).k] = i64s ((((L.take k).filter (fun e => decide (e.v = lo))) ++ [at_ L k]).map En.k) from by simp] at ho122
              refine ⟨L.length - (k + 1), by omega, k + 1, .slice sa122 (((L.take k).filter (fun e => decide (e.v = lo))).length + 1) sc122, rs122, by omega, rfl, l122, lN122, ?_, hr122n, rfl, rfl, ?_, ?_, rfl, rfl, rfl, trivial⟩
              ·rw [filt_snocE (by omega), if_pos (by simpa using hkv), List.length_append]; exact ho122
              ·rfl
              ·rw [filt_snocE (by omega), if_neg (by simpa using hlv), List.append_nil]; rfl)
            |(refine ⟨L.length - (k + 1), by omega, k + 1, .slice sa_ ((L.take k).filter (fun e => decide (e.v = lo))).length sc_, rs_, by omega, rfl, zal hl_ (zaj hl_ hb18), zal hlN_ (zaj hlN_ hb18), ?_, hr_, rfl, rfl, ?_, ?_, rfl, rfl, rfl, trivial⟩
              ·rw [filt_snocE (by omega), if_neg (by simpa using hkv), List.append_nil]; exact ho_.make hb18
              ·rfl
              ·first
               |(rw [filt_snocE (by omega), if_neg (by simpa using hlv), List.append_nil]; rfl)
               |(rw [filt_snocE (by omega), if_pos (by simpa using hlv), List.length_append]; rfl))
          ·first
           |(exfalso; exact cnA c127; done)
           |skip
            have hlv : ¬ (at_ L k).v < lo := by first | (simpa using c127; done) | omega
            refine zaL ?_
            try simp only [Ex.thnH, Ex.inBlockH, ↓reduceIte, Nat.reduceEqDiff]
            refine hK31 _ _ ?_; try clear hK31 K31
            refine zab ?_
            refine zac (fun K hK r => ?_)
            simp (disch := (first | omega | decide)) only [zaI, zaM, b_add, zaG, zaK, zaJ, zaR, eX, ↓reduceIte, Nat.reduceEqDiff, Int.reduceToNat]
            refine hK _ _ ?_; clear hK K
            refine zag rfl ?_
            refine zae ?_
            try simp only [Ex.thnH, Ex.inBlockH, ↓reduceIte, Nat.reduceEqDiff]
            first
            |(exfalso; omega)
            |(have hchk := l122
              rw [show i64s (((L.take k).filter (fun e => decide (e.v = lo))).map En.k) ++ [.int .i64 (at_ L k).k] = i64s ((((L.take k).filter (fun e => decide (e.v = lo))) ++ [at_ L k]).map En.k) from by simp] at ho122
              refine ⟨L.length - (k + 1), by omega, k + 1, .slice sa122 (((L.take k).filter (fun e => decide (e.v = lo))).length + 1) sc122, rs122, by omega, rfl, l122, lN122, ?_, hr122n, rfl, rfl, ?_, ?_, rfl, rfl, rfl, trivial⟩
              ·rw [filt_snocE (by omega), if_pos (by simpa using hkv), List.length_append]; exact ho122
              ·rfl
              ·rw [filt_snocE (by omega), if_neg (by simpa using hlv), List.append_nil]; rfl)
            |(refine ⟨L.length - (k + 1), by omega, k + 1, .slice sa_ ((L.take k).filter (fun e => decide (e.v = lo))).length sc_, rs_, by omega, rfl, zal hl_ (zaj hl_ hb18), zal hlN_ (zaj hlN_ hb18), ?_, hr_, rfl, rfl, ?_, ?_, rfl, rfl, rfl, trivial⟩
              ·rw [filt_snocE (by omega), if_neg (by simpa using hkv), List.append_nil]; exact ho_.make hb18
              ·rfl
              ·first
               |(rw [filt_snocE (by omega), if_neg (by simpa using hlv), List.append_nil]; rfl)
               |(rw [filt_snocE (by omega), if_pos (by simpa using hlv), List.length_append]; rfl))
        ·first
         |(exfalso; exact cnA c117; done)
         |skip
          have hkv : (at_ L k).v ≠ lo := by simpa using c117
          refine zaL ?_
          try simp only [Ex.thnH, Ex.inBlockH, ↓reduceIte, Nat.reduceEqDiff]
          refine hK33 _ _ ?_; try clear hK33 K33
          refine zad (fun K36 hK36 => ?_)
          refine zab ?_
          refine zac (fun K hK r => ?_)
          simp only [zah, fa56_0, zaA, Nat.reduceAdd, Nat.zero_add, eX, ↓reduceIte, Nat.reduceEqDiff, Int.reduceToNat]
          refine hK _ _ ?_; clear hK K
          refine zac (fun K hK r => ?_)
          simp only [zar, eX, ↓reduceIte, Nat.reduceEqDiff, Int.reduceToNat]
          refine zak Try.underlying3 rfl hbA ldA ?_
          try simp only [eX, ↓reduceIte, Nat.reduceEqDiff, Int.reduceToNat]
          refine hK _ _ ?_; clear hK K
          refine zac (fun K hK r => ?_)
          simp only [zah, fa24_1, zaA, Nat.reduceAdd, Nat.zero_add, eX, ↓reduceIte, Nat.reduceEqDiff, Int.reduceToNat]
          refine hK _ _ ?_; clear hK K
          refine zac (fun K hK r => ?_)
          simp only [zar, eX, ↓reduceIte, Nat.reduceEqDiff, Int.reduceToNat]
          refine zak Try.underlying3 rfl hbA ldA ?_
          try simp only [eX, ↓reduceIte, Nat.reduceEqDiff, Int.reduceToNat]
          refine hK _ _ ?_; clear hK K
          refine zac (fun K hK r => ?_)
          simp (disch := (first | omega | decide)) only [zaI, zaM, b_lss, zau, zaw, zat, zax, zas, zay, Bool.not_true, Bool.not_false, eX, ↓reduceIte, Nat.reduceEqDiff, Int.reduceToNat]
          refine hK _ _ ?_; clear hK K
          refine zae ?_
          try simp only [Ex.thnH, Ex.inBlockH, ↓reduceIte, Nat.reduceEqDiff]
          refine hK36 _ _ ?_; try clear hK36 K36
          refine zaH (fun r => rfl) (fun c127 => ?_) (fun c127 => ?_)
          ·first
           |(exfalso; exact cnA c127; done)
           |skip
            have hlv : (at_ L k).v < lo := by simpa using c127
            refine zab ?_
            refine zag rfl ?_
            refine zac (fun K hK r => ?_)
            simp (disch := (first | omega | decide)) only [zaI, zaM, b_add, zaG, zaK, zaJ, zaR, eX, ↓reduceIte, Nat.reduceEqDiff, Int.reduceToNat]
            refine hK _ _ ?_; clear hK K
            refine zao rfl ?_
            refine zae ?_
            try simp only [Ex.thnH, Ex.inBlockH, ↓reduceIte, Nat.reduceEqDiff]
            refine hK31 _ _ ?_; try clear hK31 K31
            refine zab ?_
            refine zac (fun K hK r => ?_)
            simp (disch := (first | omega | decide)) only [zaI, zaM, b_add, zaG, zaK, zaJ, zaR, eX, ↓reduceIte, Nat.reduceEqDiff, Int.reduceToNat]
            refine hK _ _ ?_; clear hK K
            refine zag rfl ?_
            refine zae ?_
            try simp only [Ex.thnH, Ex.inBlockH, ↓reduceIte, Nat.reduceEqDiff]
            first
            |(exfalso; omega)
            |(have hchk := l122
              rw [show i64s (((L.take k).filter (fun e => decide (e.v = lo))).map En.k) ++ [.int .i64 (at_ L k).k] = i64s ((((L.take k).filter (fun e => decide (e.v = lo))) ++ [at_ L k]).map En.k) from by simp] at ho122
              refine ⟨L.length - (k + 1), by omega, k + 1, .slice sa122 (((L.take k).filter (fun e => decide (e.v = lo))).length + 1) sc122, rs122, by omega, rfl, l122, lN122, ?_, hr122n, rfl, rfl, ?_, ?_, rfl, rfl, rfl, trivial⟩
              ·rw [filt_snocE (by omega), if_pos (by simpa using hkv), List.length_append]; exact ho122
              ·rfl
              ·rw [filt_snocE (by omega), if_neg (by simpa using hlv), List.append_nil]; rfl)
            |(refine ⟨L.length - (k + 1), by omega, k + 1, .slice sa_ ((L.take k).filter (fun e => decide (e.v = lo))).length sc_, rs_, by omega, rfl, zal hl_ (zaj hl_ hb18), zal hlN_ (zaj hlN_ hb18), ?_, hr_, rfl, rfl, ?_, ?_, rfl, rfl, rfl, trivial⟩
              ·rw [filt_snocE (by omega), if_neg (by simpa using hkv), List.append_nil]; exact ho_.make hb18
              ·rfl
              ·first
               |(rw [filt_snocE (by omega), if_neg (by simpa using hlv), List.append_nil]; rfl)
               |(rw [filt_snocE (by omega), if_pos (by simpa using hlv), List.length_append]; rfl))
          ·first
           |(exfalso; exact cnA c127; done)
           |skip
            have hlv : ¬ (at_ L k).v < lo := by first | (simpa using c127; done) | omega
            refine zaL ?_
            try simp only [Ex.thnH, Ex.inBlockH, ↓reduceIte, Nat.reduceEqDiff]
            refine hK31 _ _ ?_; try clear hK31 K31
            refine zab ?_
            refine zac (fun K hK r => ?_)
            simp (disch := (first | omega | decide)) only [zaI, zaM, b_add, zaG, zaK, zaJ, zaR, eX, ↓reduceIte, Nat.reduceEqDiff, Int.reduceToNat]
            refine hK _ _ ?_; clear hK K
            refine zag rfl ?_
            refine zae ?_
            try simp only [Ex.thnH, Ex.inBlockH, ↓reduceIte, Nat.reduceEqDiff]
            first
            |(exfalso; omega)
            |(have hchk := l122
              rw [show i64s (((L.take k).filter (fun e => decide (e.v = lo))).map En.k) ++ [.int .i64 (at_ L k).k] = i64s ((((L.take k).filter (fun e => decide (e.v = lo))) ++ [at_ L k]).map En.k) from by simp] at ho122
              refine ⟨L.length - (k + 1), by omega, k + 1, .slice sa122 (((L.take k).filter (fun e => decide (e.v = lo))).length + 1) sc122, rs122, by omega, rfl, l122, lN122, ?_, hr122n, rfl, rfl, ?_, ?_, rfl, rfl, rfl, trivial⟩
              ·rw [filt_snocE (by omega), if_pos (by simpa using hkv), List.length_append]; exact ho122
              ·rfl
              ·rw [filt_snocE (by omega), if_neg (by simpa using hlv), List.append_nil]; rfl)
            |(refine ⟨L.length - (k + 1), by omega, k + 1, .slice sa_ ((L.take k).filter (fun e => decide (e.v = lo))).length sc_, rs_, by omega, rfl, zal hl_ (zaj hl_ hb18), zal hlN_ (zaj hlN_ hb18), ?_, hr_, rfl, rfl, ?_, ?_, rfl, rfl, rfl, trivial⟩
              ·rw [filt_snocE (by omega), if_neg (by simpa using hkv), List.append_nil]; exact ho_.make hb18
              ·rfl
              ·first
               |(rw [filt_snocE (by omega), if_neg (by simpa using hlv), List.append_nil]; rfl)
               |(rw [filt_snocE (by omega), if_pos (by simpa using hlv), List.length_append]; rfl))
      ·first
       |(exfalso; exact cnA c110; done)
       |skip
        (try simp only [decide_eq_true_eq, decide_eq_false_iff_not, Bool.not_eq_true, Bool.not_eq_false, Bool.and_eq_true, Bool.or_eq_true, Bool.or_eq_false_iff, Bool.not_eq_eq_eq_not, Bool.not_true, Bool.not_false] at c110)
        obtain rfl : k = L.length := by omega
        rw [List.take_length] at ho_ ⊢
        refine CW_exit ?_
        try simp only [Ex.thnH, Ex.inBlockH, ↓reduceIte, Nat.reduceEqDiff]
        refine hK27 _ _ ?_; try clear hK27 K27
        refine zad (fun K37 hK37 => ?_)
        refine zab ?_
        refine zag rfl ?_
        refine zac (fun K hK r => ?_)
        simp only [zah, fa24_0, zaA, Nat.reduceAdd, Nat.zero_add, eX, ↓reduceIte, Nat.reduceEqDiff, Int.reduceToNat]
        refine hK _ _ ?_; clear hK K
        refine zac (fun K hK r => ?_)
        simp only [zar, eX, ↓reduceIte, Nat.reduceEqDiff, Int.reduceToNat]
        refine zak Try.underlying3 rfl hbA ldA ?_
        try simp only [eX, ↓reduceIte, Nat.reduceEqDiff, Int.reduceToNat]
        refine hK _ _ ?_; clear hK K
        refine zac (fun K hK r => ?_)
        simp only [zah, fa24_1, zaA, Nat.reduceAdd, Nat.zero_add, eX, ↓reduceIte, Nat.reduceEqDiff, Int.reduceToNat]
        refine hK _ _ ?_; clear hK K
        refine zac (fun K hK r => ?_)
        simp only [zar, eX, ↓reduceIte, Nat.reduceEqDiff, Int.reduceToNat]
        refine zak Try.underlying3 rfl hbA ldA ?_
        try simp only [eX, ↓reduceIte, Nat.reduceEqDiff, Int.reduceToNat]
        refine hK _ _ ?_; clear hK K
        refine zac (fun K hK r => ?_)
        simp only [zaQ _ bd22, List.map_toArray, List.map_cons, List.map_nil, eX, ↓reduceIte, Nat.reduceEqDiff, Int.reduceToNat]
        refine (keys_ok _ _ E (hXB.le (Le.trans hlB98 hl_)) t lo lo1 lo2 hLn hgo.2).mono ?_
        rintro v136 H136 ⟨hl136, rs136, ho136, hr136⟩
        rw [← hL, betE_one] at ho136
        have k136_3 := hl136 _ _ hk3
        try simp only [eX, ↓reduceIte, Nat.reduceEqDiff, Int.reduceToNat]
        refine hK _ _ ?_; clear hK K
        refine zag rfl ?_
        refine zac (fun K hK r => ?_)
        simp only [zaQ _ bd21, List.map_toArray, List.map_cons, List.map_nil, eX, ↓reduceIte, Nat.reduceEqDiff, Int.reduceToNat]
        refine (num_Ints _ _ _ ((L.filter (fun e => decide (e.v = lo))).map En.k) ((L.filter (fun e => decide (e.v = lo))).map En.k) (by rw [List.length_map]; exact ho136.holds) (by rw [List.length_map]; exact (ho_.le hl136).holds) (by rw [List.length_map]; have := List.length_filter_le (fun e : En => decide (e.v = lo)) L; omega)).mono ?_
        rintro v H' ⟨rfl, hq⟩
        have hq := hq.symm
        subst hq
        try simp only [eX, ↓reduceIte, Nat.reduceEqDiff, Int.reduceToNat]
        refine hK _ _ ?_; clear hK K
        refine zag rfl ?_
        (first | refine OW_split (d := 139) rfl (fun g139 => ?_) (fun g139 => ?_) | skip)
        all_goals try (exfalso; exact cnA g139)
        all_goals (try simp only [decide_eq_true_eq, decide_eq_false_iff_not, Bool.not_eq_true, Bool.not_eq_false, Bool.and_eq_true, Bool.or_eq_true, Bool.or_eq_false_iff, Bool.not_eq_eq_eq_not, Bool.not_true, Bool.not_false] at g139)
        all_goals
         try simp only [eX, ↓reduceIte, Nat.reduceEqDiff, Int.reduceToNat]
         first
         |refine zam rfl (zaa (by decide)) rfl (fun K hK r => ?_)
          simp only [zaq, eX, ↓reduceIte, Nat.reduceEqDiff, Int.reduceToNat]
          refine hK _ _ ?_; clear hK K
         |refine zan rfl (zaa (by decide)) rfl ?_
          simp only [eX, ↓reduceIte, Nat.reduceEqDiff, Int.reduceToNat]
         first
         |refine zam rfl (zaa (by decide)) rfl (fun K hK r => ?_)
          simp only [zah, fa24_0, zaA, Nat.reduceAdd, Nat.zero_add, eX, ↓reduceIte, Nat.reduceEqDiff, Int.reduceToNat]
          refine hK _ _ ?_; clear hK K
         |refine zan rfl (zaa (by decide)) rfl ?_
          simp only [eX, ↓reduceIte, Nat.reduceEqDiff, Int.reduceToNat]
         first
         |refine zam rfl (zaa (by decide)) rfl (fun K hK r => ?_)
          simp only [zar, eX, ↓reduceIte, Nat.reduceEqDiff, Int.reduceToNat]
          refine zak Try.underlying3 rfl hbA ldA ?_
          try simp only [eX, ↓reduceIte, Nat.reduceEqDiff, Int.reduceToNat]
          refine hK _ _ ?_; clear hK K
         |refine zan rfl (zaa (by decide)) rfl ?_
          simp only [eX, ↓reduceIte, Nat.reduceEqDiff, Int.reduceToNat]
         first
         |refine zam rfl (zaa (by decide)) rfl (fun K hK r => ?_)
          simp only [zah, fa24_1, zaA, Nat.reduceAdd, Nat.zero_add, eX, ↓reduceIte, Nat.reduceEqDiff, Int.reduceToNat]
          refine hK _ _ ?_; clear hK K
         |refine zan rfl (zaa (by decide)) rfl ?_
          simp only [eX, ↓reduceIte, Nat.reduceEqDiff, Int.reduceToNat]
         first
         |refine zam rfl (zaa (by decide)) rfl (fun K hK r => ?_)
          simp only [zar, eX, ↓reduceIte, Nat.reduceEqDiff, Int.reduceToNat]
          refine zak Try.underlying3 rfl hbA ldA ?_
          try simp only [eX, ↓reduceIte, Nat.reduceEqDiff, Int.reduceToNat]
          refine hK _ _ ?_; clear hK K
         |refine zan rfl (zaa (by decide)) rfl ?_
          simp only [eX, ↓reduceIte, Nat.reduceEqDiff, Int.reduceToNat]
         first
         |refine zam rfl (zaa (by decide)) rfl (fun K hK r => ?_)
          simp only [zaQ _ bd14, List.map_toArray, List.map_cons, List.map_nil, eX, ↓reduceIte, Nat.reduceEqDiff, Int.reduceToNat]
          refine (ixRank _ _ E (hXB.le (Le.trans hlB98 (Le.trans hl_ hl136))) t lo hLn).mono ?_
          rintro v145 H145 ⟨rfl, hl145⟩
          rw [← hL, fromN_count hrise hok]
          try simp only [eX, ↓reduceIte, Nat.reduceEqDiff, Int.reduceToNat]
          refine hK _ _ ?_; clear hK K
         |refine zan rfl (zaa (by decide)) rfl ?_
          simp only [eX, ↓reduceIte, Nat.reduceEqDiff, Int.reduceToNat]
         first
         |refine zam rfl (zaa (by decide)) rfl (fun K hK r => ?_)
          simp only [zaq, eX, ↓reduceIte, Nat.reduceEqDiff, Int.reduceToNat]
          refine hK _ _ ?_; clear hK K
         |refine zan rfl (zaa (by decide)) rfl ?_
          simp only [eX, ↓reduceIte, Nat.reduceEqDiff, Int.reduceToNat]
         first
         |refine zam rfl (zaa (by decide)) rfl (fun K hK r => ?_)
          simp (disch := (first | omega | decide)) only [zaI, zaM, b_eql, zau, zaw, zat, zax, zas, zay, Bool.not_true, Bool.not_false, eX, ↓reduceIte, Nat.reduceEqDiff, Int.reduceToNat]
          refine hK _ _ ?_; clear hK K
         |refine zan rfl (zaa (by decide)) rfl ?_
          simp only [eX, ↓reduceIte, Nat.reduceEqDiff, Int.reduceToNat]
         refine zac (fun K hK r => ?_)
         simp only [x_pick, l_asBool, HL.ite_bool, if_true, if_false, Bool.false_eq_true, eX, ↓reduceIte, Nat.reduceEqDiff, Int.reduceToNat]
         refine hK _ _ ?_; clear hK K
         refine zao rfl ?_
         refine zae ?_
         try simp only [Ex.thnH, Ex.inBlockH, ↓reduceIte, Nat.reduceEqDiff]
         refine hK37 _ _ ?_; try clear hK37 K37
         refine zaV ?_
         try simp only [Ex.thnH, Ex.inBlockH, ↓reduceIte, Nat.reduceEqDiff]
         refine ⟨[_], ⟨rfl, trivial⟩, _, Le.refl _, ?_, Le.trans lGB (Le.trans hlB98 (Le.trans hl_ (Le.trans hl136 hl145)))⟩
         first | rfl | (show Value.bool _ = _; simp)
end Go.Proofs.Ytjhohnbdhopllaa.HL
end
section
namespace Go.Proofs.Ytjhohnbdhopllaa.HL
open Go
variable {P : Program} {H : Hp}
end Go.Proofs.Ytjhohnbdhopllaa.HL
end
