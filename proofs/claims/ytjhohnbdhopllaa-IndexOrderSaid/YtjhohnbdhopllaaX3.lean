/- Parts of the proof, one behind the other: U10, U11, U15, U16, U18, U19, U17, U20, U21, HLStY, U25, U22. -/
import Derived.Test.YtjhohnbdhopllaaX2
set_option linter.unusedSimpArgs false
set_option linter.unusedVariables false
section
namespace Go.Proofs.Ytjhohnbdhopllaa.HL
open Go Go.Proofs
set_option linter.unusedSimpArgs false
set_option linter.unusedVariables false
attribute [local irreducible] Lt Lq CW OW TW CallH
set_option maxRecDepth 100000 in
set_option maxHeartbeats 4000000 in
theorem insE_ok (H : Hp) (v : Value) (n : Nat) (cs : List Value) (rs : Option Nat) (ho : OwnS H 38 2 v n cs rs) (i : Nat) (hi : i ≤ n) (hn : n ≤ 1000000) (vb : Nat) (xs : List Value) (hvb : H vb = some (.cells xs.toArray 38)) (hx : xs.length = 2) (hxp : PlainL xs) (hcp : PlainL cs) (hne : rs ≠ some vb) : CallH Try.prog 51 #[v, .int .i64 i, .slice (some ⟨vb, 0, none⟩) 1 1] H (fun v' H' => ∃ rs', OwnS H' 38 2 v' (n + 1) (cs.take (i * 2) ++ xs ++ cs.drop (i * 2)) rs' ∧ (∀ r, rs' = some r → rs = some r ∨ H r = none) ∧ (∀ b o, H b = some o → rs ≠ some b → H' b = some o)) := by
 refine zaD (l := [_, _, _]) (rl := [.tmp 6]) (n := 95) Try.func51 rfl rfl rfl rfl rfl ?_
 simp only [envOf, Nat.reduceAdd]
 obtain ⟨a, cap, rfl⟩ := ho.holds.form
 have hnc := ho.capn
 have hcl := ho.1
 have hX : Holds H 2 (.slice (some ⟨vb, 0, none⟩) 1 1) 1 xs := ⟨by rw [hx], .inr ⟨vb, 0, 1, _, _, _, rfl, hvb, by simp [hx], by simp [hx]; rw [← hx]; simp⟩⟩
 refine zad (fun K1 hK1 => ?_)
 refine zab ?_
 refine zaE rfl ?_
 refine zae ?_
 try simp only [Ex.thnH, Ex.inBlockH, ↓reduceIte, Nat.reduceEqDiff]
 refine hK1 _ _ ?_; try clear hK1 K1
 refine zad (fun K2 hK2 => ?_)
 refine zab ?_
 refine zaj rfl ?_
 refine zaj rfl ?_
 refine zac (fun K hK r => ?_)
 simp only [x_slice, Option.map_some, Option.map_none, eX, ↓reduceIte, Nat.reduceEqDiff, Int.reduceToNat]
 refine Lt_sliceS Try.underlying33 sz38 zaO zaO (bound_some ixA) bxA bxA bxA (by simp) ?_
 try simp only [zaC, Nat.mul_one, Nat.zero_add, Int.reduceToNat, Nat.reduceSub, Nat.reduceEqDiff, ↓reduceIte]
 try simp only [eX, ↓reduceIte, Nat.reduceEqDiff, Int.reduceToNat]
 refine hK _ _ ?_; clear hK K
 refine zae ?_
 try simp only [Ex.thnH, Ex.inBlockH, ↓reduceIte, Nat.reduceEqDiff]
 refine hK2 _ _ ?_; try clear hK2 K2
 refine zad (fun K3 hK3 => ?_)
 refine zab ?_
 refine zaj rfl ?_
 refine zac (fun K hK r => ?_)
 simp only [zaG, l_len, List.map_toArray, List.map_cons, List.map_nil, zaH _ _ Try.underlying33, eX, ↓reduceIte, Nat.reduceEqDiff, Int.reduceToNat]
 rw [show ((1 : Nat) : Int) = 1 from rfl]
 refine hK _ _ ?_; clear hK K
 refine zaE rfl ?_
 refine zae ?_
 try simp only [Ex.thnH, Ex.inBlockH, ↓reduceIte, Nat.reduceEqDiff]
 refine hK3 _ _ ?_; try clear hK3 K3
 refine zad (fun K4 hK4 => ?_)
 refine zad (fun K5 hK5 => ?_)
 refine zab ?_
 refine zaj rfl ?_
 refine zac (fun K hK r => ?_)
 simp (disch := (first | omega | decide)) only [zaM, zaN, b_eql, zat, zau, zav, zax, zaz, zay, Bool.not_true, Bool.not_false, eX, ↓reduceIte, Nat.reduceEqDiff, Int.reduceToNat]
 refine hK _ _ ?_; clear hK K
 refine zae ?_
 try simp only [Ex.thnH, Ex.inBlockH, ↓reduceIte, Nat.reduceEqDiff]
 refine hK5 _ _ ?_; try clear hK5 K5
 refine CW_cond (fun r => rfl) (fun c16 => ?_) (fun c16 => ?_)
 ·exfalso; exact cnA c16
 refine CW_skip ?_
 try simp only [Ex.thnH, Ex.inBlockH, ↓reduceIte, Nat.reduceEqDiff]
 refine hK4 _ _ ?_; try clear hK4 K4
 refine zad (fun K6 hK6 => ?_)
 refine zab ?_
 refine zaj rfl ?_
 refine zac (fun K hK r => ?_)
 simp only [zaG, l_len, List.map_toArray, List.map_cons, List.map_nil, zaH _ _ Try.underlying33, eX, ↓reduceIte, Nat.reduceEqDiff, Int.reduceToNat]
 refine hK _ _ ?_; clear hK K
 refine zaE rfl ?_
 refine zae ?_
 try simp only [Ex.thnH, Ex.inBlockH, ↓reduceIte, Nat.reduceEqDiff]
 refine hK6 _ _ ?_; try clear hK6 K6
 refine zad (fun K7 hK7 => ?_)
 refine zad (fun K8 hK8 => ?_)
 refine zab ?_
 refine zaj rfl ?_
 refine zaj rfl ?_
 refine zac (fun K hK r => ?_)
 simp (disch := (first | omega | decide)) only [zaM, zaN, b_eql, zat, zau, zav, zax, zaz, zay, Bool.not_true, Bool.not_false, eX, ↓reduceIte, Nat.reduceEqDiff, Int.reduceToNat]
 refine hK _ _ ?_; clear hK K
 refine zae ?_
 try simp only [Ex.thnH, Ex.inBlockH, ↓reduceIte, Nat.reduceEqDiff]
 refine hK8 _ _ ?_; try clear hK8 K8
 refine CW_cond (fun r => rfl) (fun c22 => ?_) (fun c22 => ?_)
 ·first
  |(exfalso; exact cnA c22; done)
  |skip
   (try simp only [decide_eq_true_eq, decide_eq_false_iff_not, Bool.not_eq_true, Bool.not_eq_false, Bool.and_eq_true, Bool.or_eq_true, Bool.or_eq_false_iff, Bool.not_eq_eq_eq_not, Bool.not_true, Bool.not_false] at c22)
   have hin : i = n := by omega
   refine zad (fun K9 hK9 => ?_)
   refine zab ?_
   refine zaj rfl ?_
   refine zaj rfl ?_
   refine zac (fun K hK r => ?_)
   simp only [zaG, l_append, List.map_toArray, List.map_cons, List.map_nil, eX, ↓reduceIte, Nat.reduceEqDiff, Int.reduceToNat]
   refine Lt_append Try.underlying33 Try.underlying33 (by simp) sz38 by38 (by decide) zr38 rfl _ (n := n) (m := 1) (cs := cs) (ds := xs) ho (len_slice _ _ _) (fun Kx => first_slice hX Kx) (by rw [hx]) hxp (by omega) ?_
   intro v25 H25 rs25 hg25 ho25 hr25
   refine hK _ _ ?_; clear hK K
   refine zaE rfl ?_
   refine zae ?_
   try simp only [Ex.thnH, Ex.inBlockH, ↓reduceIte, Nat.reduceEqDiff]
   refine hK9 _ _ ?_; try clear hK9 K9
   refine CW_ret ?_
   try simp only [Ex.thnH, Ex.inBlockH, ↓reduceIte, Nat.reduceEqDiff]
   subst hin
   refine ⟨[_], ⟨rfl, trivial⟩, _, Le.refl _, rs25, ?_, hr25, fun b o hb hnb => hg25.known b o hb hnb⟩
   rw [List.take_of_length_le (by omega), List.drop_eq_nil_of_le (by omega), List.append_nil]
   exact ho25
 ·first
  |(exfalso; exact cnA c22; done)
  |skip
   (try simp only [decide_eq_true_eq, decide_eq_false_iff_not, Bool.not_eq_true, Bool.not_eq_false, Bool.and_eq_true, Bool.or_eq_true, Bool.or_eq_false_iff, Bool.not_eq_eq_eq_not, Bool.not_true, Bool.not_false] at c22)
   obtain ⟨r0, c0, rfl, hr0, hc0, hx0, hrs0⟩ := ho.blk (by omega)
   refine CW_skip ?_
   try simp only [Ex.thnH, Ex.inBlockH, ↓reduceIte, Nat.reduceEqDiff]
   refine hK7 _ _ ?_; try clear hK7 K7
   refine zad (fun K10 hK10 => ?_)
   refine zad (fun K11 hK11 => ?_)
   refine zab ?_
   refine zaj rfl ?_
   refine zaj rfl ?_
   refine zac (fun K hK r => ?_)
   simp (disch := (first | omega | decide)) only [zaM, zaN, b_add, zaI, zaL, zaK, wrap_u8, eX, ↓reduceIte, Nat.reduceEqDiff, Int.reduceToNat]
   refine hK _ _ ?_; clear hK K
   refine zaj rfl ?_
   refine zac (fun K hK r => ?_)
   simp only [zaG, l_cap, List.map_toArray, List.map_cons, List.map_nil, i_cap_slice _ _ Try.underlying33, eX, ↓reduceIte, Nat.reduceEqDiff, Int.reduceToNat]
   refine hK _ _ ?_; clear hK K
   refine zac (fun K hK r => ?_)
   simp (disch := (first | omega | decide)) only [zaM, zaN, b_gtr, zat, zau, zav, zax, zaz, zay, Bool.not_true, Bool.not_false, eX, ↓reduceIte, Nat.reduceEqDiff, Int.reduceToNat]
   refine hK _ _ ?_; clear hK K
   refine zae ?_
   try simp only [Ex.thnH, Ex.inBlockH, ↓reduceIte, Nat.reduceEqDiff]
   refine hK11 _ _ ?_; try clear hK11 K11
   refine CW_cond (fun r => rfl) (fun c31 => ?_) (fun c31 => ?_)
   ·first
    |(exfalso; exact cnA c31; done)
    |skip
     (try simp only [decide_eq_true_eq, decide_eq_false_iff_not, Bool.not_eq_true, Bool.not_eq_false, Bool.and_eq_true, Bool.or_eq_true, Bool.or_eq_false_iff, Bool.not_eq_eq_eq_not, Bool.not_true, Bool.not_false] at c31)
     refine zad (fun K12 hK12 => ?_)
     refine zab ?_
     refine zaj rfl ?_
     refine zaj rfl ?_
     refine zac (fun K hK r => ?_)
     simp only [x_slice, Option.map_some, Option.map_none, eX, ↓reduceIte, Nat.reduceEqDiff, Int.reduceToNat]
     refine Lt_sliceS Try.underlying33 sz38 zaO (bound_some ixA) zaO bxA bxA bxA (by simp) ?_
     try simp only [zaC, Nat.mul_one, Nat.zero_add, Int.reduceToNat, Nat.reduceSub, Nat.reduceEqDiff, ↓reduceIte]
     rw [if_neg (show ¬ cap = 0 by omega)]
     simp only [Option.map_some, zaC, Nat.zero_mul, Nat.add_zero, Nat.sub_zero, Int.toNat_natCast]
     try simp only [eX, ↓reduceIte, Nat.reduceEqDiff, Int.reduceToNat]
     refine hK _ _ ?_; clear hK K
     refine zaj rfl ?_
     refine zaj rfl ?_
     refine zac (fun K hK r => ?_)
     simp (disch := (first | omega | decide)) only [zaM, zaN, b_add, zaI, zaL, zaK, wrap_u8, eX, ↓reduceIte, Nat.reduceEqDiff, Int.reduceToNat]
     refine hK _ _ ?_; clear hK K
     refine zaj rfl ?_
     refine zac (fun K hK r => ?_)
     simp (disch := (first | omega | decide)) only [zaM, zaN, b_sub, zaI, zaL, zaK, wrap_u8, eX, ↓reduceIte, Nat.reduceEqDiff, Int.reduceToNat]
     refine hK _ _ ?_; clear hK K
     refine zac (fun K hK r => ?_)
     simp only [zaG, l_append, List.map_toArray, List.map_cons, List.map_nil, eX, ↓reduceIte, Nat.reduceEqDiff, Int.reduceToNat]
     rw [show (n : Int) + 1 - i = ((n + 1 - i : Nat) : Int) from by omega]
     refine Lt_appendZ Try.underlying33 Try.underlying3 sz38 by38 (by decide) zr38 rfl _ (base := some ⟨r0, 0, none⟩) (sLen := i) (sCap := cap) (m := n + 1 - i) (cs := cs.take (i * 2)) ⟨by rw [List.length_take]; omega, .inr ⟨r0, 0, cap, c0, _, _, rfl, hr0, by omega, by rw [← hx0]; simp only [Array.toList_extract, List.extract_eq_take_drop, List.drop_zero, Nat.sub_zero, Nat.zero_add, List.take_take]; congr 1; omega⟩⟩ (by omega) (by omega) (by omega) ?_
     intro r40 cap40 c40 hr40 hcp40 hsz40 hex40
     have hAl : (cs.take (i * 2)).length = i * 2 := by rw [List.length_take]; omega
     have hBl : (cs.drop (i * 2)).length = (n - i) * 2 := by rw [List.length_drop, Nat.sub_mul]; omega
     have hA40 : (c40.extract 0 (cs.take (i * 2)).length).toList = cs.take (i * 2) := by
      have h9 : (c40.extract 0 ((i + (n + 1 - i)) * 2)).toList.take (i * 2) = cs.take (i * 2) := by
       rw [hex40, List.take_append_of_le_length (by omega), List.take_take, Nat.min_self]
      rw [hAl, ← h9]
      simp only [Array.toList_extract, List.extract_eq_take_drop, List.drop_zero, Nat.sub_zero, List.take_take]
      congr 1; omega
     rw [show i + (n + 1 - i) = n + 1 from by omega] at hcp40 ⊢
     refine hK _ _ ?_; clear hK K
     refine zaE rfl ?_
     refine zae ?_
     try simp only [Ex.thnH, Ex.inBlockH, ↓reduceIte, Nat.reduceEqDiff]
     refine hK12 _ _ ?_; try clear hK12 K12
     refine zad (fun K13 hK13 => ?_)
     refine zab ?_
     refine zaj rfl ?_
     refine zaj rfl ?_
     refine zac (fun K hK r => ?_)
     simp only [x_slice, Option.map_some, Option.map_none, eX, ↓reduceIte, Nat.reduceEqDiff, Int.reduceToNat]
     refine Lt_sliceS Try.underlying33 sz38 zaO zaO (bound_some ixA) bxA bxA bxA (by simp) ?_
     try simp only [zaC, Nat.mul_one, Nat.zero_add, Int.reduceToNat, Nat.reduceSub, Nat.reduceEqDiff, ↓reduceIte]
     simp only [Int.toNat_natCast]
     rw [if_neg (show ¬ cap40 = i by omega)]
     simp only [Option.map_some, zaC, Nat.zero_add]
     try simp only [eX, ↓reduceIte, Nat.reduceEqDiff, Int.reduceToNat]
     refine hK _ _ ?_; clear hK K
     refine zaj rfl ?_
     refine zac (fun K hK r => ?_)
     simp only [zaG, l_copy, List.map_toArray, List.map_cons, List.map_nil, eX, ↓reduceIte, Nat.reduceEqDiff, Int.reduceToNat]
     have hmn : Nat.min 1 (n + 1 - i) = 1 := Nat.min_eq_left (by omega)
     refine Lt_copy (w := 2) (b := r40) (o := i * 2) (dLen := n + 1 - i) (n := 1) (cs := xs) Try.underlying33 sz38 _ (zan _ _ _) (by rw [hsz40]; omega) (len_slice _ _ _) (fun Kx => ?_) (by rw [hmn, hx]) hxp (by decide) ?_
     ·rw [hmn]; exact first_slice (hX.le (le_upd _ _ _ hr40)) Kx
     rw [upd_upd]
     refine hK _ _ ?_; clear hK K
     refine zae ?_
     try simp only [Ex.thnH, Ex.inBlockH, ↓reduceIte, Nat.reduceEqDiff]
     refine hK13 _ _ ?_; try clear hK13 K13
     refine zad (fun K14 hK14 => ?_)
     refine CW_drawO [0, 0, 0, 0, 0, 0, 0, 0, 3] [0, 1, 2, 3, 4, 5, 6, 7, 8] emptyHp (by kernel_rfl) (by kernel_rfl) (le_empty _) ?_
     apply zah rfl (zaa (by decide)) rfl
     ·intro r
      simp only [zaA, eX, ↓reduceIte, Nat.reduceEqDiff]
      exact ⟨rfl, Le.refl _⟩
     simp only [eX, ↓reduceIte, Nat.reduceEqDiff, Int.reduceToNat]
     apply zah rfl (zaa (by decide)) rfl
     ·intro r
      simp only [zaA, eX, ↓reduceIte, Nat.reduceEqDiff]
      exact ⟨rfl, Le.refl _⟩
     simp only [eX, ↓reduceIte, Nat.reduceEqDiff, Int.reduceToNat]
     apply zah rfl (zaa (by decide)) rfl
     ·intro r
      simp only [zaA, eX, ↓reduceIte, Nat.reduceEqDiff]
      exact ⟨rfl, Le.refl _⟩
     simp only [eX, ↓reduceIte, Nat.reduceEqDiff, Int.reduceToNat]
     apply zah rfl (zaa (by decide)) rfl
     ·intro r
      simp (disch := (first | omega | decide)) only [zaM, zaN, b_add, zaI, zaL, zaK, wrap_u8, eX, ↓reduceIte, Nat.reduceEqDiff]
      exact ⟨rfl, Le.refl _⟩
     simp only [eX, ↓reduceIte, Nat.reduceEqDiff, Int.reduceToNat]
     apply zah rfl (zaa (by decide)) rfl
     ·intro r
      simp only [x_slice, Option.map_some, Option.map_none, eX, ↓reduceIte, Nat.reduceEqDiff]
      refine Lt_sliceS Try.underlying33 sz38 zaO zaO (bound_some ixA) bxA bxA bxA (by simp) ?_
      try simp only [zaC, Nat.mul_one, Nat.zero_add, Int.reduceToNat, Nat.reduceSub, Nat.reduceEqDiff, ↓reduceIte]
      exact ⟨rfl, Le.refl _⟩
     simp only [eX, ↓reduceIte, Nat.reduceEqDiff, Int.reduceToNat]
     apply zah rfl (zaa (by decide)) rfl
     ·intro r
      simp only [zaA, eX, ↓reduceIte, Nat.reduceEqDiff]
      exact ⟨rfl, Le.refl _⟩
     simp only [eX, ↓reduceIte, Nat.reduceEqDiff, Int.reduceToNat]
     apply zah rfl (zaa (by decide)) rfl
     ·intro r
      simp only [zaA, eX, ↓reduceIte, Nat.reduceEqDiff]
      exact ⟨rfl, Le.refl _⟩
     simp only [eX, ↓reduceIte, Nat.reduceEqDiff, Int.reduceToNat]
     apply zah rfl (zaa (by decide)) rfl
     ·intro r
      simp only [x_slice, Option.map_some, Option.map_none, eX, ↓reduceIte, Nat.reduceEqDiff]
      refine Lt_sliceS Try.underlying33 sz38 zaO zaO (bound_some ixA) bxA bxA bxA (by simp) ?_
      try simp only [zaC, Nat.mul_one, Nat.zero_add, Int.reduceToNat, Nat.reduceSub, Nat.reduceEqDiff, ↓reduceIte]
      exact ⟨rfl, Le.refl _⟩
     simp only [eX, ↓reduceIte, Nat.reduceEqDiff, Int.reduceToNat]
     refine TW_last rfl (zaa (by decide)) rfl (fun K hK r => ?_)
     simp only [zaG, l_copy, List.map_toArray, List.map_cons, List.map_nil, eX, ↓reduceIte, Nat.reduceEqDiff, Int.reduceToNat]
     simp only [show ((i : Int) + 1).toNat = i + 1 from by omega, Int.toNat_natCast]
     rw [if_neg (show ¬ cap40 = i + 1 by omega), if_neg (show ¬ cap = i by omega)]
     simp only [Option.map_some, zaC, Nat.zero_add]
     have hmn : Nat.min (n - i) (n + 1 - (i + 1)) = n - i := Nat.min_eq_left (by omega)
     have n040 : r0 ≠ r40 := zal hr0 hr40
     refine Lt_copy (w := 2) (b := r40) (o := (i + 1) * 2) (dLen := n + 1 - (i + 1)) (n := n - i) (cs := cs.drop (i * 2)) Try.underlying33 sz38 _ (zan _ _ _) (by rw [putCells_size, hsz40]; omega) (len_slice _ _ _) (fun Kx => ?_) (by rw [hmn, hBl]) (fun z hz => hcp z (List.mem_of_mem_drop hz)) (by decide) ?_
     ·rw [hmn]
      refine first_slice (w := 2) (n := n - i) (cs := cs.drop (i * 2)) ⟨hBl.symm, .inr ⟨r0, i * 2, _, c0, _, _, rfl, (zap _ _ n040).trans hr0, by rw [hc0]; omega, ?_⟩⟩ Kx
      rw [← hx0]
      simp only [Array.toList_extract, List.extract_eq_take_drop, List.drop_zero, Nat.sub_zero, List.drop_take]
      congr 1; omega
     rw [upd_upd]
     refine hK _ _ ?_; clear hK K
     refine TW_nil ?_
     try simp only [Ex.thnH, Ex.inBlockH, ↓reduceIte, Nat.reduceEqDiff]
     refine hK14 _ _ ?_; try clear hK14 K14
     refine zad (fun K15 hK15 => ?_)
     refine zab ?_
     refine zaj rfl ?_
     refine zaE rfl ?_
     refine zae ?_
     try simp only [Ex.thnH, Ex.inBlockH, ↓reduceIte, Nat.reduceEqDiff]
     refine hK15 _ _ ?_; try clear hK15 K15
     refine CW_ret ?_
     try simp only [Ex.thnH, Ex.inBlockH, ↓reduceIte, Nat.reduceEqDiff]
     refine ⟨[_], ⟨rfl, trivial⟩, _, Le.refl _, some r40, ⟨?_, .inr ⟨r40, cap40, _, rfl, zan _ _ _, hcp40, by rw [putCells_size, putCells_size, hsz40], ?_, rfl⟩⟩, fun r hr => by cases hr; exact .inr hr40, fun b o hb _ => (zap _ _ (zal hb hr40)).trans hb⟩
     ·rw [List.length_append, List.length_append, hAl, hBl, hx]; omega
     ·have hp := put_two c40 (cs.take (i * 2)) xs (cs.drop (i * 2)) hA40 (by rw [hAl, hBl, hx, hsz40]; omega)
      rw [hAl, hBl, hx, show i * 2 + 2 = (i + 1) * 2 from by omega, show (i + 1) * 2 + (n - i) * 2 = (n + 1) * 2 from by omega] at hp
      exact hp
   ·first
    |(exfalso; exact cnA c31; done)
    |skip
     (try simp only [decide_eq_true_eq, decide_eq_false_iff_not, Bool.not_eq_true, Bool.not_eq_false, Bool.and_eq_true, Bool.or_eq_true, Bool.or_eq_false_iff, Bool.not_eq_eq_eq_not, Bool.not_true, Bool.not_false] at c31)
     refine CW_skip ?_
     try simp only [Ex.thnH, Ex.inBlockH, ↓reduceIte, Nat.reduceEqDiff]
     refine hK10 _ _ ?_; try clear hK10 K10
     refine zad (fun K16 hK16 => ?_)
     refine zab ?_
     refine zaj rfl ?_
     refine zaj rfl ?_
     refine zaj rfl ?_
     refine zac (fun K hK r => ?_)
     simp (disch := (first | omega | decide)) only [zaM, zaN, b_add, zaI, zaL, zaK, wrap_u8, eX, ↓reduceIte, Nat.reduceEqDiff, Int.reduceToNat]
     refine hK _ _ ?_; clear hK K
     refine zac (fun K hK r => ?_)
     simp only [x_slice, Option.map_some, Option.map_none, eX, ↓reduceIte, Nat.reduceEqDiff, Int.reduceToNat]
     refine Lt_sliceS Try.underlying33 sz38 zaO (bound_some ixA) zaO bxA bxA bxA (by simp) ?_
     try simp only [zaC, Nat.mul_one, Nat.zero_add, Int.reduceToNat, Nat.reduceSub, Nat.reduceEqDiff, ↓reduceIte]
     rw [if_neg (show ¬ cap = 0 by omega)]
     simp only [Nat.zero_mul, Nat.sub_zero, show ((n : Int) + 1).toNat = n + 1 from by omega]
     try simp only [eX, ↓reduceIte, Nat.reduceEqDiff, Int.reduceToNat]
     refine hK _ _ ?_; clear hK K
     refine zaE rfl ?_
     refine zae ?_
     try simp only [Ex.thnH, Ex.inBlockH, ↓reduceIte, Nat.reduceEqDiff]
     refine hK16 _ _ ?_; try clear hK16 K16
     refine zad (fun K17 hK17 => ?_)
     refine zad (fun K18 hK18 => ?_)
     refine zab ?_
     refine zaj rfl ?_
     refine zaj rfl ?_
     refine zaj rfl ?_
     refine zaj rfl ?_
     refine zac (fun K hK r => ?_)
     simp (disch := (first | omega | decide)) only [zaM, zaN, b_add, zaI, zaL, zaK, wrap_u8, eX, ↓reduceIte, Nat.reduceEqDiff, Int.reduceToNat]
     refine hK _ _ ?_; clear hK K
     refine zac (fun K hK r => ?_)
     simp only [x_slice, Option.map_some, Option.map_none, eX, ↓reduceIte, Nat.reduceEqDiff, Int.reduceToNat]
     refine Lt_sliceS Try.underlying33 sz38 zaO zaO (bound_some ixA) bxA bxA bxA (by simp) ?_
     try simp only [zaC, Nat.mul_one, Nat.zero_add, Int.reduceToNat, Nat.reduceSub, Nat.reduceEqDiff, ↓reduceIte]
     try simp only [eX, ↓reduceIte, Nat.reduceEqDiff, Int.reduceToNat]
     refine hK _ _ ?_; clear hK K
     refine zac (fun K hK r => ?_)
     simp only [xc62, List.map_toArray, List.map_cons, List.map_nil, eX, ↓reduceIte, Nat.reduceEqDiff, Int.reduceToNat]
     simp only [show ((i : Int) + 1).toNat = i + 1 from by omega]
     rw [if_neg (show ¬ cap = i + 1 by omega)]
     simp only [Option.map_some, zaC, Nat.zero_add]
     refine Lt_overlaps Try.underlying33 sz38 (fun e => hne (by rw [hrs0]; exact congrArg some e.symm)) hvb hr0 (by rw [hc0]; omega) ?_
     refine hK _ _ ?_; clear hK K
     refine zac (fun K hK r => ?_)
     simp only [x_un, u_not, eX, ↓reduceIte, Nat.reduceEqDiff, Int.reduceToNat]
     refine hK _ _ ?_; clear hK K
     refine zae ?_
     try simp only [Ex.thnH, Ex.inBlockH, ↓reduceIte, Nat.reduceEqDiff]
     refine hK18 _ _ ?_; try clear hK18 K18
     refine CW_cond (fun r => rfl) (fun c68 => ?_) (fun c68 => ?_)
     ·first
      |(exfalso; exact cnA c68; done)
      |skip
       skip
       refine zad (fun K19 hK19 => ?_)
       refine CW_drawO [0, 0, 0, 0, 0, 0, 0, 0, 3] [0, 1, 2, 3, 4, 5, 6, 7, 8] emptyHp (by kernel_rfl) (by kernel_rfl) (le_empty _) ?_
       apply zah rfl (zaa (by decide)) rfl
       ·intro r
        simp only [zaA, eX, ↓reduceIte, Nat.reduceEqDiff]
        exact ⟨rfl, Le.refl _⟩
       simp only [eX, ↓reduceIte, Nat.reduceEqDiff, Int.reduceToNat]
       apply zah rfl (zaa (by decide)) rfl
       ·intro r
        simp only [zaA, eX, ↓reduceIte, Nat.reduceEqDiff]
        exact ⟨rfl, Le.refl _⟩
       simp only [eX, ↓reduceIte, Nat.reduceEqDiff, Int.reduceToNat]
       apply zah rfl (zaa (by decide)) rfl
       ·intro r
        simp only [zaA, eX, ↓reduceIte, Nat.reduceEqDiff]
        exact ⟨rfl, Le.refl _⟩
       simp only [eX, ↓reduceIte, Nat.reduceEqDiff, Int.reduceToNat]
       apply zah rfl (zaa (by decide)) rfl
       ·intro r
        simp (disch := (first | omega | decide)) only [zaM, zaN, b_add, zaI, zaL, zaK, wrap_u8, eX, ↓reduceIte, Nat.reduceEqDiff]
        exact ⟨rfl, Le.refl _⟩
       simp only [eX, ↓reduceIte, Nat.reduceEqDiff, Int.reduceToNat]
       apply zah rfl (zaa (by decide)) rfl
       ·intro r
        simp only [x_slice, Option.map_some, Option.map_none, eX, ↓reduceIte, Nat.reduceEqDiff]
        refine Lt_sliceS Try.underlying33 sz38 zaO zaO (bound_some ixA) bxA bxA bxA (by simp) ?_
        try simp only [zaC, Nat.mul_one, Nat.zero_add, Int.reduceToNat, Nat.reduceSub, Nat.reduceEqDiff, ↓reduceIte]
        exact ⟨rfl, Le.refl _⟩
       simp only [eX, ↓reduceIte, Nat.reduceEqDiff, Int.reduceToNat]
       apply zah rfl (zaa (by decide)) rfl
       ·intro r
        simp only [zaA, eX, ↓reduceIte, Nat.reduceEqDiff]
        exact ⟨rfl, Le.refl _⟩
       simp only [eX, ↓reduceIte, Nat.reduceEqDiff, Int.reduceToNat]
       apply zah rfl (zaa (by decide)) rfl
       ·intro r
        simp only [zaA, eX, ↓reduceIte, Nat.reduceEqDiff]
        exact ⟨rfl, Le.refl _⟩
       simp only [eX, ↓reduceIte, Nat.reduceEqDiff, Int.reduceToNat]
       apply zah rfl (zaa (by decide)) rfl
       ·intro r
        simp only [x_slice, Option.map_some, Option.map_none, eX, ↓reduceIte, Nat.reduceEqDiff]
        refine Lt_sliceS Try.underlying33 sz38 zaO zaO (bound_some ixA) bxA bxA bxA (by simp) ?_
        try simp only [zaC, Nat.mul_one, Nat.zero_add, Int.reduceToNat, Nat.reduceSub, Nat.reduceEqDiff, ↓reduceIte]
        exact ⟨rfl, Le.refl _⟩
       simp only [eX, ↓reduceIte, Nat.reduceEqDiff, Int.reduceToNat]
       refine TW_last rfl (zaa (by decide)) rfl (fun K hK r => ?_)
       simp only [zaG, l_copy, List.map_toArray, List.map_cons, List.map_nil, eX, ↓reduceIte, Nat.reduceEqDiff, Int.reduceToNat]
       simp only [show ((i : Int) + 1).toNat = i + 1 from by omega, Int.toNat_natCast]
       rw [if_neg (show ¬ cap = i + 1 by omega), if_neg (show ¬ cap = i by omega)]
       simp only [Option.map_some, zaC, Nat.zero_add]
       have hmn : Nat.min (n + 1 - i) (n + 1 - (i + 1)) = n - i := by rw [show n + 1 - (i + 1) = n - i from by omega]; exact Nat.min_eq_right (by omega)
       have hAl : (cs.take (i * 2)).length = i * 2 := by rw [List.length_take]; omega
       have hBl : (cs.drop (i * 2)).length = (n - i) * 2 := by rw [List.length_drop, Nat.sub_mul]; omega
       have hcsz : cap * 2 = c0.size := hc0.symm
       refine Lt_copy (w := 2) (b := r0) (o := (i + 1) * 2) (dLen := n + 1 - (i + 1)) (n := n + 1 - i) (cs := cs.drop (i * 2)) Try.underlying33 sz38 _ hr0 (by omega) (len_slice _ _ _) (fun Kx => ?_) (by rw [hmn, hBl]) (fun z hz => hcp z (List.mem_of_mem_drop hz)) (by decide) ?_
       ·rw [hmn]
        refine (first_holds (w := 2) (n := n + 1 - i) (m := n - i) (cs := (c0.extract (i * 2) (i * 2 + (n + 1 - i) * 2)).toList) ⟨by simp only [Array.length_toList, Array.size_extract]; omega, .inr ⟨r0, i * 2, _, c0, _, _, rfl, hr0, by omega, rfl⟩⟩ (by omega) Kx).trans ?_
        congr 2
        rw [← hx0]
        simp only [Array.toList_extract, List.extract_eq_take_drop, List.drop_zero, Nat.sub_zero, List.drop_take, List.take_take]
        congr 1; omega
       refine hK _ _ ?_; clear hK K
       refine TW_nil ?_
       try simp only [Ex.thnH, Ex.inBlockH, ↓reduceIte, Nat.reduceEqDiff]
       refine hK19 _ _ ?_; try clear hK19 K19
       refine zad (fun K20 hK20 => ?_)
       refine zab ?_
       refine zaj rfl ?_
       refine zaj rfl ?_
       refine zac (fun K hK r => ?_)
       simp only [x_slice, Option.map_some, Option.map_none, eX, ↓reduceIte, Nat.reduceEqDiff, Int.reduceToNat]
       refine Lt_sliceS Try.underlying33 sz38 zaO zaO (bound_some ixA) bxA bxA bxA (by simp) ?_
       try simp only [zaC, Nat.mul_one, Nat.zero_add, Int.reduceToNat, Nat.reduceSub, Nat.reduceEqDiff, ↓reduceIte]
       try simp only [eX, ↓reduceIte, Nat.reduceEqDiff, Int.reduceToNat]
       refine hK _ _ ?_; clear hK K
       refine zaj rfl ?_
       refine zac (fun K hK r => ?_)
       simp only [zaG, l_copy, List.map_toArray, List.map_cons, List.map_nil, eX, ↓reduceIte, Nat.reduceEqDiff, Int.reduceToNat]
       simp only [Int.toNat_natCast]
       rw [if_neg (show ¬ cap = i by omega)]
       simp only [Option.map_some, zaC, Nat.zero_add]
       have hmn : Nat.min 1 (n + 1 - i) = 1 := Nat.min_eq_left (by omega)
       have nv0 : vb ≠ r0 := fun e => hne (by rw [hrs0]; exact congrArg some e.symm)
       refine Lt_copy (w := 2) (b := r0) (o := i * 2) (dLen := n + 1 - i) (n := 1) (cs := xs) Try.underlying33 sz38 _ (zan _ _ _) (by rw [putCells_size]; omega) (len_slice _ _ _) (fun Kx => ?_) (by rw [hmn, hx]) hxp (by decide) ?_
       ·rw [hmn]
        exact first_slice (w := 2) (n := 1) (cs := xs) ⟨by rw [hx], .inr ⟨vb, 0, 1, _, _, _, rfl, (zap _ _ nv0).trans hvb, by simp [hx], by simp [hx]; rw [← hx]; simp⟩⟩ Kx
       rw [upd_upd]
       refine hK _ _ ?_; clear hK K
       refine zae ?_
       try simp only [Ex.thnH, Ex.inBlockH, ↓reduceIte, Nat.reduceEqDiff]
       refine hK20 _ _ ?_; try clear hK20 K20
       refine zad (fun K21 hK21 => ?_)
       refine zab ?_
       refine zaj rfl ?_
       refine zaE rfl ?_
       refine zae ?_
       try simp only [Ex.thnH, Ex.inBlockH, ↓reduceIte, Nat.reduceEqDiff]
       refine hK21 _ _ ?_; try clear hK21 K21
       refine CW_ret ?_
       try simp only [Ex.thnH, Ex.inBlockH, ↓reduceIte, Nat.reduceEqDiff]
       refine ⟨[_], ⟨rfl, trivial⟩, _, Le.refl _, some r0, ⟨?_, .inr ⟨r0, cap, _, ?_, zan _ _ _, by omega, by rw [putCells_size, putCells_size, hc0], ?_, rfl⟩⟩, fun r hr => by cases hr; exact .inl hrs0, fun b o hb hb2 => (zap _ _ (fun e => hb2 (by rw [hrs0, e]))).trans hb⟩
       ·rw [List.length_append, List.length_append, hAl, hBl, hx]; omega
       ·rfl
       ·have hA0 : (c0.extract 0 (cs.take (i * 2)).length).toList = cs.take (i * 2) := by
         rw [hAl]
         conv => rhs; rw [← hx0]
         simp only [Array.toList_extract, List.extract_eq_take_drop, List.drop_zero, Nat.sub_zero, List.take_take]
         congr 1; omega
        have hp := put_back c0 (cs.take (i * 2)) xs (cs.drop (i * 2)) hA0 (by rw [hAl, hBl, hx]; omega)
        rw [hAl, hBl, hx, show i * 2 + 2 = (i + 1) * 2 from by omega, show (i + 1) * 2 + (n - i) * 2 = (n + 1) * 2 from by omega] at hp
        exact hp
     ·first
      |(exfalso; exact cnA c68; done)
      |skip
       exfalso
       exact cnA c68
       refine CW_skip ?_
       try simp only [Ex.thnH, Ex.inBlockH, ↓reduceIte, Nat.reduceEqDiff]
       refine hK17 _ _ ?_; try clear hK17 K17
       refine zad (fun K22 hK22 => ?_)
       refine zab ?_
       refine zaj rfl ?_
       refine zaj rfl ?_
       refine zac (fun K hK r => ?_)
       simp only [x_slice, Option.map_some, Option.map_none, eX, ↓reduceIte, Nat.reduceEqDiff, Int.reduceToNat]
       refine Lt_sliceS Try.underlying33 sz38 zaO zaO (bound_some ixA) bxA bxA bxA (by simp) ?_
       try simp only [zaC, Nat.mul_one, Nat.zero_add, Int.reduceToNat, Nat.reduceSub, Nat.reduceEqDiff, ↓reduceIte]
       try simp only [eX, ↓reduceIte, Nat.reduceEqDiff, Int.reduceToNat]
       refine hK _ _ ?_; clear hK K
       refine zaj rfl ?_
       refine zac (fun K hK r => ?_)
       simp only [zaG, l_copy, List.map_toArray, List.map_cons, List.map_nil, eX, ↓reduceIte, Nat.reduceEqDiff, Int.reduceToNat]
       fail "left out: BUILTIN copy 33 slot 88"
end Go.Proofs.Ytjhohnbdhopllaa.HL
end
section
namespace Go.Proofs.Ytjhohnbdhopllaa.HL
open Go Go.Proofs
set_option linter.unusedSimpArgs false
set_option linter.unusedVariables false
attribute [local irreducible] Lt Lq CW OW TW CallH
set_option maxRecDepth 100000 in
set_option maxHeartbeats 4000000 in
theorem delE_ok (H : Hp) (v : Value) (n : Nat) (cs : List Value) (rs : Option Nat) (ho : OwnS H 38 2 v n cs rs) (i : Nat) (hi : i < n) (hn : n ≤ 1000000) (hcp : PlainL cs) : CallH Try.prog 50 #[v, .int .i64 i, .int .i64 ((i : Int) + 1)] H (fun v' H' => OwnS H' 38 2 v' (n - 1) (cs.take (i * 2) ++ cs.drop ((i + 1) * 2)) rs ∧ (∀ b o, H b = some o → rs ≠ some b → H' b = some o)) := by
 refine zaD (l := [_, _, _]) (rl := [.tmp 6]) (n := 33) Try.func50 rfl rfl rfl rfl rfl ?_
 simp only [envOf, Nat.reduceAdd]
 obtain ⟨a, cap, rfl⟩ := ho.holds.form
 have hnc := ho.capn
 have hcl := ho.1
 obtain ⟨r0, c0, rfl, hr0, hc0, hx0, hrs0⟩ := ho.blk (by omega)
 have hAl : (cs.take (i * 2)).length = i * 2 := by rw [List.length_take]; omega
 have hBl : (cs.drop ((i + 1) * 2)).length = (n - (i + 1)) * 2 := by rw [List.length_drop, Nat.sub_mul]; omega
 refine zad (fun K1 hK1 => ?_)
 refine zab ?_
 refine zaE rfl ?_
 refine zae ?_
 try simp only [Ex.thnH, Ex.inBlockH, ↓reduceIte, Nat.reduceEqDiff]
 refine hK1 _ _ ?_; try clear hK1 K1
 refine zad (fun K2 hK2 => ?_)
 refine zab ?_
 refine zaj rfl ?_
 refine zaj rfl ?_
 refine zaj rfl ?_
 refine zaj rfl ?_
 refine zac (fun K hK r => ?_)
 simp only [zaG, l_len, List.map_toArray, List.map_cons, List.map_nil, zaH _ _ Try.underlying33, eX, ↓reduceIte, Nat.reduceEqDiff, Int.reduceToNat]
 refine hK _ _ ?_; clear hK K
 refine zac (fun K hK r => ?_)
 simp only [x_slice, Option.map_some, Option.map_none, eX, ↓reduceIte, Nat.reduceEqDiff, Int.reduceToNat]
 refine Lt_sliceS Try.underlying33 sz38 (bound_some ixA) (bound_some ixA) (bound_some ixA) bxA bxA bxA (by simp) ?_
 try simp only [zaC, Nat.mul_one, Nat.zero_add, Int.reduceToNat, Nat.reduceSub, Nat.reduceEqDiff, ↓reduceIte]
 try simp only [eX, ↓reduceIte, Nat.reduceEqDiff, Int.reduceToNat]
 refine hK _ _ ?_; clear hK K
 refine zae ?_
 try simp only [Ex.thnH, Ex.inBlockH, ↓reduceIte, Nat.reduceEqDiff]
 refine hK2 _ _ ?_; try clear hK2 K2
 refine zad (fun K3 hK3 => ?_)
 refine zad (fun K4 hK4 => ?_)
 refine zab ?_
 refine zaj rfl ?_
 refine zaj rfl ?_
 refine zac (fun K hK r => ?_)
 simp (disch := (first | omega | decide)) only [zaM, zaN, b_eql, zat, zau, zav, zax, zaz, zay, Bool.not_true, Bool.not_false, eX, ↓reduceIte, Nat.reduceEqDiff, Int.reduceToNat]
 refine hK _ _ ?_; clear hK K
 refine zae ?_
 try simp only [Ex.thnH, Ex.inBlockH, ↓reduceIte, Nat.reduceEqDiff]
 refine hK4 _ _ ?_; try clear hK4 K4
 refine CW_cond (fun r => rfl) (fun c16 => ?_) (fun c16 => ?_)
 ·exfalso; exact cnA c16
 refine CW_skip ?_
 try simp only [Ex.thnH, Ex.inBlockH, ↓reduceIte, Nat.reduceEqDiff]
 refine hK3 _ _ ?_; try clear hK3 K3
 refine zad (fun K5 hK5 => ?_)
 refine zab ?_
 refine zaj rfl ?_
 refine zac (fun K hK r => ?_)
 simp only [zaG, l_len, List.map_toArray, List.map_cons, List.map_nil, zaH _ _ Try.underlying33, eX, ↓reduceIte, Nat.reduceEqDiff, Int.reduceToNat]
 refine hK _ _ ?_; clear hK K
 refine zaE rfl ?_
 refine zae ?_
 try simp only [Ex.thnH, Ex.inBlockH, ↓reduceIte, Nat.reduceEqDiff]
 refine hK5 _ _ ?_; try clear hK5 K5
 refine zad (fun K6 hK6 => ?_)
 refine CW_drawO [0, 0, 0, 0, 0, 0, 3, 0] [0, 1, 2, 3, 4, 5, 6, 7] emptyHp (by kernel_rfl) (by kernel_rfl) (le_empty _) ?_
 apply zah rfl (zaa (by decide)) rfl
 ·intro r
  simp only [zaA, eX, ↓reduceIte, Nat.reduceEqDiff]
  exact ⟨rfl, Le.refl _⟩
 simp only [eX, ↓reduceIte, Nat.reduceEqDiff, Int.reduceToNat]
 apply zah rfl (zaa (by decide)) rfl
 ·intro r
  simp only [zaA, eX, ↓reduceIte, Nat.reduceEqDiff]
  exact ⟨rfl, Le.refl _⟩
 simp only [eX, ↓reduceIte, Nat.reduceEqDiff, Int.reduceToNat]
 apply zah rfl (zaa (by decide)) rfl
 ·intro r
  simp only [x_slice, Option.map_some, Option.map_none, eX, ↓reduceIte, Nat.reduceEqDiff]
  refine Lt_sliceS Try.underlying33 sz38 zaO (bound_some ixA) zaO bxA bxA bxA (by simp) ?_
  try simp only [zaC, Nat.mul_one, Nat.zero_add, Int.reduceToNat, Nat.reduceSub, Nat.reduceEqDiff, ↓reduceIte]
  exact ⟨rfl, Le.refl _⟩
 simp only [eX, ↓reduceIte, Nat.reduceEqDiff, Int.reduceToNat]
 apply zah rfl (zaa (by decide)) rfl
 ·intro r
  simp only [zaA, eX, ↓reduceIte, Nat.reduceEqDiff]
  exact ⟨rfl, Le.refl _⟩
 simp only [eX, ↓reduceIte, Nat.reduceEqDiff, Int.reduceToNat]
 apply zah rfl (zaa (by decide)) rfl
 ·intro r
  simp only [zaA, eX, ↓reduceIte, Nat.reduceEqDiff]
  exact ⟨rfl, Le.refl _⟩
 simp only [eX, ↓reduceIte, Nat.reduceEqDiff, Int.reduceToNat]
 apply zah rfl (zaa (by decide)) rfl
 ·intro r
  simp only [x_slice, Option.map_some, Option.map_none, eX, ↓reduceIte, Nat.reduceEqDiff]
  refine Lt_sliceS Try.underlying33 sz38 zaO zaO (bound_some ixA) bxA bxA bxA (by simp) ?_
  try simp only [zaC, Nat.mul_one, Nat.zero_add, Int.reduceToNat, Nat.reduceSub, Nat.reduceEqDiff, ↓reduceIte]
  exact ⟨rfl, Le.refl _⟩
 simp only [eX, ↓reduceIte, Nat.reduceEqDiff, Int.reduceToNat]
 refine TW_last rfl (zaa (by decide)) rfl (fun K hK r => ?_)
 simp only [zaG, l_append, List.map_toArray, List.map_cons, List.map_nil, eX, ↓reduceIte, Nat.reduceEqDiff, Int.reduceToNat]
 simp only [show ((i : Int) + 1).toNat = i + 1 from by omega, Int.toNat_natCast]
 rw [if_neg (show ¬ cap = 0 by omega)]
 simp only [Option.map_some, zaC, Nat.zero_mul, Nat.add_zero, Nat.sub_zero, Nat.zero_add]
 have hS : Holds H 2 (.slice (if cap = i + 1 then some ⟨r0, 0, none⟩ else some ⟨r0, (i + 1) * 2, none⟩) (n - (i + 1)) (cap - (i + 1))) (n - (i + 1)) (cs.drop ((i + 1) * 2)) := by
  by_cases hci : cap = i + 1
  ·rw [if_pos hci]
   have h0 : n - (i + 1) = 0 := by omega
   rw [h0] at hBl ⊢
   exact ⟨hBl.symm, .inl ⟨_, _, rfl, rfl⟩⟩
  ·rw [if_neg hci]
   refine ⟨hBl.symm, .inr ⟨r0, (i + 1) * 2, _, c0, _, _, rfl, hr0, by rw [hc0]; omega, ?_⟩⟩
   rw [← hx0]
   simp only [Array.toList_extract, List.extract_eq_take_drop, List.drop_zero, Nat.sub_zero, List.drop_take]
   congr 1; omega
 refine Lt_appendRoom (w := 2) (b := r0) (o := 0) (n := i) (cap := cap) (m := n - (i + 1)) (ds := cs.drop ((i + 1) * 2)) Try.underlying33 Try.underlying33 (by simp) sz38 _ hr0 (by rw [hc0]; omega) (len_slice _ _ _) (fun Kx => first_slice hS Kx) hBl.symm (fun z hz => hcp z (List.mem_of_mem_drop hz)) (by decide) (by omega) ?_
 rw [Nat.zero_add]
 refine hK _ _ ?_; clear hK K
 apply zah rfl (zaa (by decide)) rfl
 ·intro r
  simp only [x_assign, eX, ↓reduceIte, Nat.reduceEqDiff]
  exact ⟨rfl, Le.refl _⟩
 simp only [eX, ↓reduceIte, Nat.reduceEqDiff, Int.reduceToNat]
 refine TW_nil ?_
 try simp only [Ex.thnH, Ex.inBlockH, ↓reduceIte, Nat.reduceEqDiff]
 refine hK6 _ _ ?_; try clear hK6 K6
 refine zad (fun K7 hK7 => ?_)
 refine zab ?_
 refine zaj rfl ?_
 refine zaj rfl ?_
 refine zac (fun K hK r => ?_)
 simp only [zaG, l_len, List.map_toArray, List.map_cons, List.map_nil, zaH _ _ Try.underlying33, eX, ↓reduceIte, Nat.reduceEqDiff, Int.reduceToNat]
 refine hK _ _ ?_; clear hK K
 refine zaj rfl ?_
 refine zac (fun K hK r => ?_)
 simp only [x_slice, Option.map_some, Option.map_none, eX, ↓reduceIte, Nat.reduceEqDiff, Int.reduceToNat]
 refine Lt_sliceS Try.underlying33 sz38 zaO (bound_some ixA) (bound_some ixA) bxA bxA bxA (by simp) ?_
 try simp only [zaC, Nat.mul_one, Nat.zero_add, Int.reduceToNat, Nat.reduceSub, Nat.reduceEqDiff, ↓reduceIte]
 simp only [Int.toNat_natCast]
 rw [if_neg (show ¬ cap = i + (n - (i + 1)) by omega)]
 simp only [Option.map_some, zaC, Nat.zero_add]
 try simp only [eX, ↓reduceIte, Nat.reduceEqDiff, Int.reduceToNat]
 refine hK _ _ ?_; clear hK K
 refine OW_op rfl (lt_none) (fun K hK r => ?_)
 simp only [zaG, l_clear, List.map_toArray, List.map_cons, List.map_nil, eX, ↓reduceIte, Nat.reduceEqDiff, Int.reduceToNat]
 rw [show n - (i + (n - (i + 1))) = 1 from by omega]
 refine Lt_clear Try.underlying33 zr38 (by intro v hv; simp [Value.cells] at hv; first | (subst hv; rfl) | (rcases hv with rfl | rfl <;> rfl) | (rcases hv with rfl | rfl | rfl <;> rfl)) _ (zan _ _ _) (by omega) (by rw [putCells_size, hc0]; show _ + 1 * 2 ≤ _; omega) ?_
 rw [upd_upd]
 refine hK _ _ ?_; clear hK K
 refine zae ?_
 try simp only [Ex.thnH, Ex.inBlockH, ↓reduceIte, Nat.reduceEqDiff]
 refine hK7 _ _ ?_; try clear hK7 K7
 refine zad (fun K8 hK8 => ?_)
 refine zab ?_
 refine zaj rfl ?_
 refine zaE rfl ?_
 refine zae ?_
 try simp only [Ex.thnH, Ex.inBlockH, ↓reduceIte, Nat.reduceEqDiff]
 refine hK8 _ _ ?_; try clear hK8 K8
 refine CW_ret ?_
 try simp only [Ex.thnH, Ex.inBlockH, ↓reduceIte, Nat.reduceEqDiff]
 have hA0 : (c0.extract 0 (cs.take (i * 2)).length).toList = cs.take (i * 2) := by
  rw [hAl]
  conv => rhs; rw [← hx0]
  simp only [Array.toList_extract, List.extract_eq_take_drop, List.drop_zero, Nat.sub_zero, List.take_take]
  congr 1; omega
 refine ⟨[_], ⟨rfl, trivial⟩, _, Le.refl _, ⟨?_, .inr ⟨r0, cap, _, ?_, zan _ _ _, by omega, by rw [putCells_size, putCells_size, hc0], ?_, hrs0⟩⟩, fun b o hb hb2 => (zap _ _ (fun e => hb2 (by rw [hrs0, e]))).trans hb⟩
 ·rw [List.length_append, hAl, hBl]; omega
 ·show Value.slice _ _ _ = _
  rw [show i + (n - (i + 1)) = n - 1 from by omega]
 ·rw [show (i + (n - (i + 1))) * 2 = i * 2 + (n - (i + 1)) * 2 from by omega]
  generalize hZ : (Builtin.zeroCells _ 1).toList = Z
  have hZl : Z.length = 2 := by rw [← hZ, Array.length_toList, zeroCells_size]; rfl
  have hp := put_out c0 (cs.take (i * 2)) (cs.drop ((i + 1) * 2)) Z hA0 (by rw [hAl, hBl, hc0, hZl]; omega)
  rw [hAl, hBl, show i * 2 + (n - (i + 1)) * 2 = (n - 1) * 2 from by omega] at hp
  rw [show i * 2 + (n - (i + 1)) * 2 = (n - 1) * 2 from by omega]
  exact hp
end Go.Proofs.Ytjhohnbdhopllaa.HL
end
section
namespace Go.Proofs.Ytjhohnbdhopllaa.HL
open Go Go.Proofs
set_option linter.unusedSimpArgs false
set_option linter.unusedVariables false
attribute [local irreducible] Lt Lq CW OW TW CallH
structure PS where
  s : Value
  m : Nat
  rs : Option Nat
  l : List En
def PtOk (H : Hp) (p : PS) : Prop := OwnS H 38 2 p.s p.l.length (ens p.l) p.rs ∧ (∃ es cc, H p.m = some (.map es cc) ∧ IntKeys es.toList ∧ KeysU es.toList ∧ ∀ k, getE es.toList k = lookE p.l k) ∧ GoodE p.l
theorem PtOk.ne {H : Hp} {p : PS} (h : PtOk H p) : p.rs ≠ some p.m := by
  obtain ⟨⟨_, ⟨_, _, h1⟩ | ⟨r, _, c, _, h1, _, _, _, h2⟩⟩, ⟨es, cc, h3, _⟩, _⟩ := h
  · rw [h1]; intro e; cases e
  · rw [h2]; intro e; cases e; rw [h1] at h3; cases h3
theorem PtOk.stay {H H' : Hp} {p : PS} (h : PtOk H p) (hk : ∀ x ob, H x = some ob → x = p.m ∨ p.rs = some x → H' x = some ob) : PtOk H' p := by
  obtain ⟨h1, ⟨es, cc, h2, h3⟩, h4⟩ := h
  exact ⟨h1.stay (fun b o hb ho => hk b o ho (.inr hb)), ⟨es, cc, hk _ _ h2 (.inl rfl), h3⟩, h4⟩
def PtStep (H H' : Hp) (b o : Nat) (c : Array Value) (T : TypeId) (p : PS) (l' : List En) : Prop := ∃ s' rs', H' b = some (.cells (c.setIfInBounds o s') T) ∧ PtOk H' ⟨s', p.m, rs', l'⟩ ∧ (∀ r, rs' = some r → p.rs = some r ∨ H r = none) ∧ ∀ x ob, H x = some ob → x ≠ b → x ≠ p.m → p.rs ≠ some x → H' x = some ob
theorem posE_mem {l : List En} {e : En} (hr : Rise l) : (posE l e < l.length ∧ cmpE (l.getD (posE l e) default) e = 0) ↔ e ∈ l := by
  constructor
  · rintro ⟨h1, h2⟩
    have := cmpE_zero.1 h2
    rw [← this, List.getD_eq_getElem?_getD, List.getElem?_eq_getElem h1]; exact List.getElem_mem h1
  · intro he
    obtain ⟨h1, h2⟩ := posE_in hr he
    exact ⟨h1, by rw [h2]; exact cmpE_zero.2 rfl⟩
theorem find_ok (H : Hp) (s : Value) (l : List En) (hv : Holds H 2 s l.length (ens l)) (hr : Rise l) (hn : l.length ≤ 1000000) (e : En) : CallH Try.prog 48 #[s, .agg #[.int .i64 e.v, .int .i64 e.k], .func (.func 49) #[] #[]] H (fun v H' => v = .tuple #[.int .i64 (posE l e), .bool (decide (e ∈ l))] ∧ H' = H) := by
  obtain ⟨a, cap, rfl⟩ := hv.form
  refine (bsfE_ok H a cap l.length (ens l) hv hn e (.func 49) #[] #[] (fun i => cmpE (l.getD i default) e) (posE l e) (posE_le l e) (fun k hk => cmpE_neg.2 (posE_below hk)) (fun k h1 h2 h3 => posE_above hr h1 h2 (cmpE_neg.1 h3)) (fun i hi K => ?_)).mono ?_
  · rw [ens_row hi]
    refine ValH_func bd49 ?_
    exact byValue_ok K (l.getD i default) e
  · rintro v H' ⟨rfl, rfl⟩
    refine ⟨?_, rfl⟩
    congr 4
    show Value.bool _ = Value.bool _
    congr 1
    exact decide_eq_decide.2 (posE_mem hr)
theorem setI_same {c : Array Value} {o : Nat} {v : Value} (h : c[o]? = some v) : c.setIfInBounds o v = c := by
  apply Array.ext_getElem?
  intro i
  rw [Array.getElem?_setIfInBounds]
  split
  · rename_i e; subst e
    rw [h]
    obtain ⟨hl, _⟩ := Array.getElem?_eq_some_iff.1 h
    rw [if_pos hl]
  · rfl
theorem lt_of_at {c : Array Value} {o : Nat} {v : Value} (h : c[o]? = some v) : o < c.size := by obtain ⟨hl, _⟩ := Array.getElem?_eq_some_iff.1 h; exact hl
theorem set_ne_at {c : Array Value} {o q : Nat} {v w : Value} (h : c[q]? = some w) (hne : o ≠ q) : (c.setIfInBounds o v)[q]? = some w := by rw [Array.getElem?_setIfInBounds, if_neg hne]; exact h
set_option maxRecDepth 100000 in
set_option maxHeartbeats 1000000 in
theorem drop_ok (H : Hp) (b o : Nat) (c : Array Value) (T : TypeId) (p : PS) (hb : H b = some (.cells c T)) (hs : c[o]? = some p.s) (hm : c[o + 1]? = some (.map (some p.m))) (hp : PtOk H p) (hnb : p.m ≠ b) (hnr : p.rs ≠ some b) (hn : p.l.length ≤ 100000) (k : Int) : CallH Try.prog 32 #[.pointer (some ⟨b, o, none⟩), .int .i64 k] H (fun v H' => v = .tuple #[] ∧ PtStep H H' b o c T p (outK p.l k)) := by
 refine zaD (l := [_, _]) (rl := []) (n := 46) Try.func32 rfl rfl rfl rfl rfl ?_
 simp only [envOf, Nat.reduceAdd]
 have hso := lt_of_at hs
 have hsm := lt_of_at hm
 obtain ⟨hO, ⟨es, cc, hE, hI, hU, hG⟩, hW⟩ := hp
 have hs0 : c[o + 0]? = some p.s := hs
 obtain ⟨lv, hlv⟩ : ∃ lv, lv = lookV p.l k := ⟨_, rfl⟩
 refine zad (fun K1 hK1 => ?_)
 refine zab ?_
 refine zaj rfl ?_
 refine zac (fun K hK r => ?_)
 rw [zaQ _ _ rfl]
 simp only [eX, ↓reduceIte, Nat.reduceEqDiff, Int.reduceToNat]
 refine hK _ _ ?_; clear hK K
 refine zac (fun K hK r => ?_)
 simp only [zai, fa71_1, zaC, Nat.reduceAdd, Nat.zero_add, eX, ↓reduceIte, Nat.reduceEqDiff, Int.reduceToNat]
 refine hK _ _ ?_; clear hK K
 refine zac (fun K hK r => ?_)
 simp only [zas, eX, ↓reduceIte, Nat.reduceEqDiff, Int.reduceToNat]
 refine zag Try.underlying69 rfl hbA ldA ?_
 try simp only [eX, ↓reduceIte, Nat.reduceEqDiff, Int.reduceToNat]
 refine hK _ _ ?_; clear hK K
 refine zaj rfl ?_
 refine zac (fun K hK r => ?_)
 simp only [x_lookup, eX, ↓reduceIte, Nat.reduceEqDiff, Int.reduceToNat]
 refine Lt_lookup2 Try.underlying69 Try.underlying3 zr3 hbA hI ?_
 rw [hG]
 have hlk : lookE p.l k = lv.map (fun v => Value.int .i64 v) := by rw [hlv]; rfl
 rw [hlk]
 refine hK _ _ ?_; clear hK K
 refine zaj rfl ?_
 refine zac (fun K hK r => ?_)
 simp only [x_extract, i_extract, List.getElem?_toArray, List.getElem?_cons_zero, List.getElem?_cons_succ, zaf, eX, ↓reduceIte, Nat.reduceEqDiff, Int.reduceToNat]
 refine hK _ _ ?_; clear hK K
 refine zac (fun K hK r => ?_)
 simp only [x_extract, i_extract, List.getElem?_toArray, List.getElem?_cons_zero, List.getElem?_cons_succ, zaf, eX, ↓reduceIte, Nat.reduceEqDiff, Int.reduceToNat]
 refine hK _ _ ?_; clear hK K
 refine zaE rfl ?_
 refine zaE rfl ?_
 refine zae ?_
 try simp only [Ex.thnH, Ex.inBlockH, ↓reduceIte, Nat.reduceEqDiff]
 refine hK1 _ _ ?_; try clear hK1 K1
 refine zad (fun K2 hK2 => ?_)
 refine zad (fun K3 hK3 => ?_)
 refine zab ?_
 refine zaj rfl ?_
 refine zac (fun K hK r => ?_)
 simp only [x_un, u_not, eX, ↓reduceIte, Nat.reduceEqDiff, Int.reduceToNat]
 refine hK _ _ ?_; clear hK K
 refine zae ?_
 try simp only [Ex.thnH, Ex.inBlockH, ↓reduceIte, Nat.reduceEqDiff]
 refine hK3 _ _ ?_; try clear hK3 K3
 refine CW_cond (fun r => rfl) (fun c18 => ?_) (fun c18 => ?_)
 ·first
  |(exfalso; exact cnA c18; done)
  |skip
   have hv : lv = none := by rcases lv with _ | w <;> first | rfl | (simp at c18; done)
   subst hv
   refine CW_ret ?_
   try simp only [Ex.thnH, Ex.inBlockH, ↓reduceIte, Nat.reduceEqDiff]
   refine ⟨[], trivial, _, Le.refl _, rfl, p.s, p.rs, by rw [setI_same hs]; exact hb, ?_, fun r hr => .inl hr, fun x ob hx _ _ _ => hx⟩
   rw [outK_none hlv.symm]
   exact ⟨hO, ⟨es, cc, hE, hI, hU, hG⟩, hW⟩
 ·first
  |(exfalso; exact cnA c18; done)
  |skip
   obtain ⟨w, rfl⟩ : ∃ w, lv = some w := by rcases lv with _ | w <;> first | exact ⟨_, rfl⟩ | (simp at c18; done)
   have hmem : (⟨w, k⟩ : En) ∈ p.l := lookV_some hlv.symm
   obtain ⟨hpi, hpe⟩ := posE_in hW.rise hmem
   refine CW_skip ?_
   try simp only [Ex.thnH, Ex.inBlockH, ↓reduceIte, Nat.reduceEqDiff]
   refine hK2 _ _ ?_; try clear hK2 K2
   refine zad (fun K4 hK4 => ?_)
   refine zab ?_
   refine zaj rfl ?_
   refine zac (fun K hK r => ?_)
   rw [zaQ _ _ rfl]
   simp only [eX, ↓reduceIte, Nat.reduceEqDiff, Int.reduceToNat]
   refine hK _ _ ?_; clear hK K
   refine zac (fun K hK r => ?_)
   simp only [zai, fa71_0, zaC, Nat.reduceAdd, Nat.zero_add, eX, ↓reduceIte, Nat.reduceEqDiff, Int.reduceToNat]
   refine hK _ _ ?_; clear hK K
   refine zac (fun K hK r => ?_)
   simp only [zas, eX, ↓reduceIte, Nat.reduceEqDiff, Int.reduceToNat]
   refine zag Try.underlying33 rfl hbA ldA ?_
   try simp only [eX, ↓reduceIte, Nat.reduceEqDiff, Int.reduceToNat]
   refine hK _ _ ?_; clear hK K
   refine zaj rfl ?_
   refine zaj rfl ?_
   refine zac (fun K hK r => ?_)
   simp only [x_build, bp38, List.map_toArray, List.map_cons, List.map_nil, eX, ↓reduceIte, Nat.reduceEqDiff, Int.reduceToNat]
   rw [fill_one rfl clA bdA]
   rw [fill_one rfl clA bdA]
   simp only [fill_nil, zaf, List.setIfInBounds_toArray, List.set_cons_zero, List.set_cons_succ]
   try simp only [eX, ↓reduceIte, Nat.reduceEqDiff, Int.reduceToNat]
   refine hK _ _ ?_; clear hK K
   refine zac (fun K hK r => ?_)
   simp only [zaP _ bd48, List.map_toArray, List.map_cons, List.map_nil, eX, ↓reduceIte, Nat.reduceEqDiff, Int.reduceToNat]
   refine (find_ok _ p.s p.l hO.holds hW.rise (by omega) ⟨w, k⟩).mono ?_
   rintro v H' ⟨rfl, hq⟩
   have hq := hq.symm
   subst hq
   try simp only [eX, ↓reduceIte, Nat.reduceEqDiff, Int.reduceToNat]
   refine hK _ _ ?_; clear hK K
   refine zaj rfl ?_
   refine zac (fun K hK r => ?_)
   simp only [x_extract, i_extract, List.getElem?_toArray, List.getElem?_cons_zero, List.getElem?_cons_succ, zaf, eX, ↓reduceIte, Nat.reduceEqDiff, Int.reduceToNat]
   refine hK _ _ ?_; clear hK K
   refine zac (fun K hK r => ?_)
   simp only [x_extract, i_extract, List.getElem?_toArray, List.getElem?_cons_zero, List.getElem?_cons_succ, zaf, eX, ↓reduceIte, Nat.reduceEqDiff, Int.reduceToNat]
   refine hK _ _ ?_; clear hK K
   refine zaE rfl ?_
   refine zaE rfl ?_
   refine zae ?_
   try simp only [Ex.thnH, Ex.inBlockH, ↓reduceIte, Nat.reduceEqDiff]
   refine hK4 _ _ ?_; try clear hK4 K4
   refine zad (fun K5 hK5 => ?_)
   refine zab ?_
   refine zaj rfl ?_
   refine zaj rfl ?_
   refine zac (fun K hK r => ?_)
   rw [zaQ _ _ rfl]
   simp only [eX, ↓reduceIte, Nat.reduceEqDiff, Int.reduceToNat]
   refine hK _ _ ?_; clear hK K
   refine zac (fun K hK r => ?_)
   simp only [zai, fa71_0, zaC, Nat.reduceAdd, Nat.zero_add, eX, ↓reduceIte, Nat.reduceEqDiff, Int.reduceToNat]
   refine hK _ _ ?_; clear hK K
   refine zac (fun K hK r => ?_)
   simp only [zas, eX, ↓reduceIte, Nat.reduceEqDiff, Int.reduceToNat]
   refine zag Try.underlying33 rfl hbA ldA ?_
   try simp only [eX, ↓reduceIte, Nat.reduceEqDiff, Int.reduceToNat]
   refine hK _ _ ?_; clear hK K
   refine zaj rfl ?_
   refine zaj rfl ?_
   refine zac (fun K hK r => ?_)
   simp (disch := (first | omega | decide)) only [zaM, zaN, b_add, zaI, zaL, zaK, wrap_u8, eX, ↓reduceIte, Nat.reduceEqDiff, Int.reduceToNat]
   refine hK _ _ ?_; clear hK K
   refine zac (fun K hK r => ?_)
   simp only [zaP _ bd50, List.map_toArray, List.map_cons, List.map_nil, eX, ↓reduceIte, Nat.reduceEqDiff, Int.reduceToNat]
   refine (delE_ok _ p.s p.l.length (ens p.l) p.rs hO (posE p.l ⟨w, k⟩) hpi (by omega) (ens_plain _)).mono ?_
   rintro s3 H3 ⟨ho3, hk3⟩
   have hb3 := hk3 _ _ hb hnr
   have hm3 := hk3 _ _ hE (PtOk.ne ⟨hO, ⟨es, cc, hE, hI, hU, hG⟩, hW⟩)
   rw [ens_take, ens_drop, ← ens_app] at ho3
   have hps3 : plainCell s3 = true := by obtain ⟨_, _, e⟩ := ho3.holds.form; rw [e]; rfl
   try simp only [eX, ↓reduceIte, Nat.reduceEqDiff, Int.reduceToNat]
   refine hK _ _ ?_; clear hK K
   refine zac (fun K hK r => ?_)
   rw [zaQ _ _ rfl]
   simp only [eX, ↓reduceIte, Nat.reduceEqDiff, Int.reduceToNat]
   refine hK _ _ ?_; clear hK K
   refine zac (fun K hK r => ?_)
   simp only [zai, fa71_0, zaC, Nat.reduceAdd, Nat.zero_add, eX, ↓reduceIte, Nat.reduceEqDiff, Int.reduceToNat]
   refine hK _ _ ?_; clear hK K
   refine OW_op rfl (lt_none) (fun K hK r => ?_)
   simp only [x_store, eX, ↓reduceIte, Nat.reduceEqDiff, Int.reduceToNat]
   refine Lt_storeAt1 sz33 hbA bdA plA fzA ?_
   try simp only [setL0, setL1, setL2, setL3, setL4, setL5, setL6, setL7, setL8, setL9]
   try simp only [eX, ↓reduceIte, Nat.reduceEqDiff, Int.reduceToNat]
   refine hK _ _ ?_; clear hK K
   refine zae ?_
   try simp only [Ex.thnH, Ex.inBlockH, ↓reduceIte, Nat.reduceEqDiff]
   refine hK5 _ _ ?_; try clear hK5 K5
   refine zab ?_
   refine zaj rfl ?_
   refine zac (fun K hK r => ?_)
   rw [zaQ _ _ rfl]
   simp only [eX, ↓reduceIte, Nat.reduceEqDiff, Int.reduceToNat]
   refine hK _ _ ?_; clear hK K
   refine zac (fun K hK r => ?_)
   simp only [zai, fa71_1, zaC, Nat.reduceAdd, Nat.zero_add, eX, ↓reduceIte, Nat.reduceEqDiff, Int.reduceToNat]
   refine hK _ _ ?_; clear hK K
   refine zac (fun K hK r => ?_)
   simp only [zas, eX, ↓reduceIte, Nat.reduceEqDiff, Int.reduceToNat]
   refine zag Try.underlying69 rfl (zan _ _ _) (set_ne_at hm (by omega)) ?_
   refine hK _ _ ?_; clear hK K
   refine zaj rfl ?_
   refine OW_op rfl (lt_none) (fun K hK r => ?_)
   simp only [zaG, l_delete, List.map_toArray, List.map_cons, List.map_nil, eX, ↓reduceIte, Nat.reduceEqDiff, Int.reduceToNat]
   refine Lt_deleteI Try.underlying69 Try.underlying3 _ _ rfl (by rw [zap _ _ hnb]; exact hm3) hI hU ?_
   intro es9 hi9 hu9 hg9
   refine hK _ _ ?_; clear hK K
   refine zae ?_
   try simp only [Ex.thnH, Ex.inBlockH, ↓reduceIte, Nat.reduceEqDiff]
   have hol : outE p.l (posE p.l ⟨w, k⟩) = outK p.l k := outE_eq hW hmem
   have hsl := outE_sub p.l (posE p.l ⟨w, k⟩)
   have hle : (outE p.l (posE p.l ⟨w, k⟩)).length = p.l.length - 1 := by unfold outE; rw [List.length_append, List.length_take, List.length_drop]; omega
   refine ⟨[], trivial, _, Le.refl _, rfl, s3, p.rs, ?_, ⟨?_, ⟨es9, cc, zan _ _ _, hi9, hu9, fun x => ?_⟩, hW.outK k⟩, fun r hr => .inl hr, fun x ob hx h1 h2 h3 => ?_⟩
   ·rw [zap _ _ (Ne.symm hnb), zan]; rfl
   ·refine OwnS.upd (OwnS.upd ?_ hnr) (PtOk.ne ⟨hO, ⟨es, cc, hE, hI, hU, hG⟩, hW⟩)
    show OwnS _ _ 2 s3 (outK p.l k).length (ens (outK p.l k)) p.rs
    rw [← hol, hle]
    exact ho3
   ·rw [hg9, hG]
    unfold lookE
    rw [look_outK hW]
    split <;> rfl
   ·rw [zap _ _ h2, zap _ _ h1]
    exact hk3 _ _ hx h3
set_option maxRecDepth 100000 in
set_option maxHeartbeats 1000000 in
theorem put_ok (H : Hp) (b o : Nat) (c : Array Value) (T : TypeId) (p : PS) (hb : H b = some (.cells c T)) (hs : c[o]? = some p.s) (hm : c[o + 1]? = some (.map (some p.m))) (hp : PtOk H p) (hnb : p.m ≠ b) (hnr : p.rs ≠ some b) (hn : p.l.length ≤ 100000) (e : En) (hne : ∀ x ∈ p.l, x.k ≠ e.k) : CallH Try.prog 33 #[.pointer (some ⟨b, o, none⟩), .agg #[.int .i64 e.v, .int .i64 e.k]] H (fun v H' => v = .tuple #[] ∧ PtStep H H' b o c T p (putE p.l e)) := by
 refine zaD (l := [_, _]) (rl := []) (n := 34) Try.func33 rfl rfl rfl rfl rfl ?_
 simp only [envOf, Nat.reduceAdd]
 have hso := lt_of_at hs
 have hsm := lt_of_at hm
 obtain ⟨hO, ⟨es, cc, hE, hI, hU, hG⟩, hW⟩ := hp
 have hs0 : c[o + 0]? = some p.s := hs
 refine zad (fun K1 hK1 => ?_)
 refine zab ?_
 refine zac (fun K hK r => ?_)
 simp only [x_box, Value.cells, eX, ↓reduceIte, Nat.reduceEqDiff, Int.reduceToNat]
 intro b3 hb3
 have f3_H : H b3 = none := zam lhA hb3
 try simp only [eX, ↓reduceIte, Nat.reduceEqDiff, Int.reduceToNat]
 refine hK _ _ ?_; clear hK K
 refine zae ?_
 try simp only [Ex.thnH, Ex.inBlockH, ↓reduceIte, Nat.reduceEqDiff]
 refine hK1 _ _ ?_; try clear hK1 K1
 refine zad (fun K2 hK2 => ?_)
 obtain ⟨R1, hR1⟩ : ∃ R : Hp, R = H.upd b3 (.cells #[.int .i64 e.v, .int .i64 e.k] 38) := ⟨_, rfl⟩
 refine CW_drawR [0, 0, 0, 1, 1, 3, 0, 0, 0, 0, 0] [0, 1, 2, 3, 4, 5, 6, 7, 8, 9, 10] R1 (by kernel_rfl) (by kernel_rfl) (by subst hR1; exact Le.refl _) (fun lR1 => ?_)
 have hRb1 : R1 b = some (.cells c T) := by rw [hR1, zap _ _ (zal hb f3_H)]; exact hb
 have hR31 : R1 b3 = some (.cells #[.int .i64 e.v, .int .i64 e.k] 38) := by rw [hR1]; exact zan _ _ _
 apply zah rfl (zaa (by decide)) rfl
 ·intro r
  simp only [zaA, eX, ↓reduceIte, Nat.reduceEqDiff]
  exact ⟨rfl, Le.refl _⟩
 simp only [eX, ↓reduceIte, Nat.reduceEqDiff, Int.reduceToNat]
 apply zah rfl (zaa (by decide)) rfl
 ·intro r
  rw [zaQ _ _ rfl]
  exact ⟨rfl, Le.refl _⟩
 simp only [eX, ↓reduceIte, Nat.reduceEqDiff, Int.reduceToNat]
 apply zah rfl (zaa (by decide)) rfl
 ·intro r
  simp only [zai, fa71_0, zaC, Nat.reduceAdd, Nat.zero_add, eX, ↓reduceIte, Nat.reduceEqDiff]
  exact ⟨rfl, Le.refl _⟩
 simp only [eX, ↓reduceIte, Nat.reduceEqDiff, Int.reduceToNat]
 apply TW_look rfl (zaa (by decide)) rfl
 ·intro r
  simp only [zas, eX, ↓reduceIte, Nat.reduceEqDiff]
  refine zag Try.underlying33 rfl hbA ldA ?_
  exact ⟨rfl, Le.refl _⟩
 simp only [eX, ↓reduceIte, Nat.reduceEqDiff, Int.reduceToNat]
 apply TW_look rfl (zaa (by decide)) rfl
 ·intro r
  simp only [zas, eX, ↓reduceIte, Nat.reduceEqDiff]
  first | refine Lt_loadAll Try.underlying38 rfl sz38 hbA bdA ?_ | refine Lt_loadAtA Try.underlying38 rfl sz38 hbA bdA ?_
  try simp only [List.extract_toArray, List.extract_eq_take_drop, Nat.zero_add, Nat.reduceAdd, Nat.reduceSub, Nat.sub_zero, List.drop_succ_cons, List.drop_zero, List.take_succ_cons, List.take_zero, List.take_nil, List.drop_nil]
  exact ⟨rfl, Le.refl _⟩
 simp only [eX, ↓reduceIte, Nat.reduceEqDiff, Int.reduceToNat]
 refine TW_last rfl (zaa (by decide)) rfl (fun K hK r => ?_)
 simp only [zaP _ bd48, List.map_toArray, List.map_cons, List.map_nil, eX, ↓reduceIte, Nat.reduceEqDiff, Int.reduceToNat]
 refine (find_ok _ p.s p.l (hO.holds.le lhA) hW.rise (by omega) e).mono ?_
 rintro v H' ⟨rfl, hq⟩
 have hq := hq.symm
 subst hq
 try simp only [eX, ↓reduceIte, Nat.reduceEqDiff, Int.reduceToNat]
 refine hK _ _ ?_; clear hK K
 apply zah rfl (zaa (by decide)) rfl
 ·intro r
  simp only [zaA, eX, ↓reduceIte, Nat.reduceEqDiff]
  exact ⟨rfl, Le.refl _⟩
 simp only [eX, ↓reduceIte, Nat.reduceEqDiff, Int.reduceToNat]
 apply zah rfl (zaa (by decide)) rfl
 ·intro r
  simp only [x_extract, i_extract, List.getElem?_toArray, List.getElem?_cons_zero, List.getElem?_cons_succ, zaf, eX, ↓reduceIte, Nat.reduceEqDiff]
  exact ⟨rfl, Le.refl _⟩
 simp only [eX, ↓reduceIte, Nat.reduceEqDiff, Int.reduceToNat]
 apply zah rfl (zaa (by decide)) rfl
 ·intro r
  simp only [x_extract, i_extract, List.getElem?_toArray, List.getElem?_cons_zero, List.getElem?_cons_succ, zaf, eX, ↓reduceIte, Nat.reduceEqDiff]
  exact ⟨rfl, Le.refl _⟩
 simp only [eX, ↓reduceIte, Nat.reduceEqDiff, Int.reduceToNat]
 apply zah rfl (zaa (by decide)) rfl
 ·intro r
  simp only [x_assign, eX, ↓reduceIte, Nat.reduceEqDiff]
  exact ⟨rfl, Le.refl _⟩
 simp only [eX, ↓reduceIte, Nat.reduceEqDiff, Int.reduceToNat]
 apply zah rfl (zaa (by decide)) rfl
 ·intro r
  simp only [x_assign, eX, ↓reduceIte, Nat.reduceEqDiff]
  exact ⟨rfl, Le.refl _⟩
 simp only [eX, ↓reduceIte, Nat.reduceEqDiff, Int.reduceToNat]
 refine TW_nil ?_
 try simp only [Ex.thnH, Ex.inBlockH, ↓reduceIte, Nat.reduceEqDiff]
 refine hK2 _ _ ?_; try clear hK2 K2
 refine zad (fun K3 hK3 => ?_)
 obtain ⟨R2, hR2⟩ : ∃ R : Hp, R = (emptyHp.upd b (.cells c T)).upd b3 (.cells #[.int .i64 e.v, .int .i64 e.k] 38) := ⟨_, rfl⟩
 refine CW_drawR [0, 0, 0, 0, 1, 0, 1, 2, 2, 0, 0, 3] [0, 1, 2, 3, 4, 5, 6, 7, 8, 9, 10, 11] R2 (by kernel_rfl) (by kernel_rfl) (by subst hR2; exact le_put (le_put (le_empty _) (by rw [zap _ _ (zal hb f3_H)]; exact hb)) (zan _ _ _)) (fun lR2 => ?_)
 have hRb2 : R2 b = some (.cells c T) := by rw [hR2, zap _ _ (zal hb f3_H)]; exact zan _ _ _
 have hR32 : R2 b3 = some (.cells #[.int .i64 e.v, .int .i64 e.k] 38) := by rw [hR2]; exact zan _ _ _
 apply zah rfl (zaa (by decide)) rfl
 ·intro r
  simp only [zaA, eX, ↓reduceIte, Nat.reduceEqDiff]
  exact ⟨rfl, Le.refl _⟩
 simp only [eX, ↓reduceIte, Nat.reduceEqDiff, Int.reduceToNat]
 apply zah rfl (zaa (by decide)) rfl
 ·intro r
  simp only [zaA, eX, ↓reduceIte, Nat.reduceEqDiff]
  exact ⟨rfl, Le.refl _⟩
 simp only [eX, ↓reduceIte, Nat.reduceEqDiff, Int.reduceToNat]
 apply zah rfl (zaa (by decide)) rfl
 ·intro r
  rw [zaQ _ _ rfl]
  exact ⟨rfl, Le.refl _⟩
 simp only [eX, ↓reduceIte, Nat.reduceEqDiff, Int.reduceToNat]
 apply zah rfl (zaa (by decide)) rfl
 ·intro r
  simp only [zai, fa71_0, zaC, Nat.reduceAdd, Nat.zero_add, eX, ↓reduceIte, Nat.reduceEqDiff]
  exact ⟨rfl, Le.refl _⟩
 simp only [eX, ↓reduceIte, Nat.reduceEqDiff, Int.reduceToNat]
 apply TW_look rfl (zaa (by decide)) rfl
 ·intro r
  simp only [zas, eX, ↓reduceIte, Nat.reduceEqDiff]
  refine zag Try.underlying33 rfl hbA ldA ?_
  exact ⟨rfl, Le.refl _⟩
 simp only [eX, ↓reduceIte, Nat.reduceEqDiff, Int.reduceToNat]
 apply zah rfl (zaa (by decide)) rfl
 ·intro r
  simp only [zaA, eX, ↓reduceIte, Nat.reduceEqDiff]
  exact ⟨rfl, Le.refl _⟩
 simp only [eX, ↓reduceIte, Nat.reduceEqDiff, Int.reduceToNat]
 apply TW_look rfl (zaa (by decide)) rfl
 ·intro r
  simp only [zas, eX, ↓reduceIte, Nat.reduceEqDiff]
  first | refine Lt_loadAll Try.underlying38 rfl sz38 hbA bdA ?_ | refine Lt_loadAtA Try.underlying38 rfl sz38 hbA bdA ?_
  try simp only [List.extract_toArray, List.extract_eq_take_drop, Nat.zero_add, Nat.reduceAdd, Nat.reduceSub, Nat.sub_zero, List.drop_succ_cons, List.drop_zero, List.take_succ_cons, List.take_zero, List.take_nil, List.drop_nil]
  exact ⟨rfl, Le.refl _⟩
 simp only [eX, ↓reduceIte, Nat.reduceEqDiff, Int.reduceToNat]
 refine TW_chain rfl (zaa (by decide)) rfl (fun K hK r => ?_)
 simp only [x_buildSlice, List.map_toArray, List.map_cons, List.map_nil, eX, ↓reduceIte, Nat.reduceEqDiff, Int.reduceToNat]
 refine Lt_buildSlice (vs := [_]) Try.underlying33 sz38 zr38 rfl bsA (by first | decide | (simp; done)) ?_
 simp only [List.flatMap_cons, List.flatMap_nil, Value.cells, List.append_nil, List.cons_append, List.nil_append, List.length_cons, List.length_nil, Nat.zero_add, Nat.reduceAdd]
 intro b22 hb22
 try have n22_b3 : b3 ≠ b22 := zal hbA hb22
 have f22_H : H b22 = none := zam lhA hb22
 have f22_R1 : R1 b22 = none := zam lhA hb22
 have f22_R2 : R2 b22 = none := zam lhA hb22
 try simp only [eX, ↓reduceIte, Nat.reduceEqDiff, Int.reduceToNat]
 refine hK _ _ leA ?_; clear hK K
 refine TW_chain rfl (zaa (by decide)) rfl (fun K hK r => ?_)
 simp only [zaP _ bd51, List.map_toArray, List.map_cons, List.map_nil, eX, ↓reduceIte, Nat.reduceEqDiff, Int.reduceToNat]
 refine (insE_ok _ p.s p.l.length (ens p.l) p.rs (hO.le lhA) (posE p.l e) (posE_le _ _) (by omega) b22 e.c hbA rfl (by intro z hz; simp at hz; rcases hz with rfl | rfl <;> rfl) (ens_plain _) (hO.ne_fresh f22_H)).mono ?_
 rintro s3 H3 ⟨rs3, ho3, hr3, hk3⟩
 have l22 : Le H ((H.upd b3 (.cells #[.int .i64 e.v, .int .i64 e.k] 38)).upd b22 (.cells #[.int .i64 e.v, .int .i64 e.k] 38)) := lhA
 have hb3 := hk3 _ _ (l22 _ _ hb) hnr
 have hm3 := hk3 _ _ (l22 _ _ hE) (PtOk.ne ⟨hO, ⟨es, cc, hE, hI, hU, hG⟩, hW⟩)
 have hx3 := hk3 b3 _ hbA (hO.ne_fresh f3_H)
 rw [ens_take, ens_drop, show e.c = ens [e] from by simp [ens], ← ens_app, ← ens_app] at ho3
 have hps3 : plainCell s3 = true := by obtain ⟨_, _, q⟩ := ho3.holds.form; rw [q]; rfl
 have lR2n : Le R2 H3 := by rw [hR2]; exact le_put (le_put (le_empty _) hb3) hx3
 try simp only [eX, ↓reduceIte, Nat.reduceEqDiff, Int.reduceToNat]
 refine hK _ _ leA ?_; clear hK K
 apply zah rfl (zaa (by decide)) rfl
 ·intro r
  rw [zaQ _ _ rfl]
  exact ⟨rfl, Le.refl _⟩
 simp only [eX, ↓reduceIte, Nat.reduceEqDiff, Int.reduceToNat]
 apply zah rfl (zaa (by decide)) rfl
 ·intro r
  simp only [zai, fa71_0, zaC, Nat.reduceAdd, Nat.zero_add, eX, ↓reduceIte, Nat.reduceEqDiff]
  exact ⟨rfl, Le.refl _⟩
 simp only [eX, ↓reduceIte, Nat.reduceEqDiff, Int.reduceToNat]
 refine TW_last rfl (lt_none) rfl (fun K hK r => ?_)
 simp only [x_store, eX, ↓reduceIte, Nat.reduceEqDiff, Int.reduceToNat]
 refine Lt_storeAt1 sz33 hbA bdA plA fzA ?_
 try simp only [setL0, setL1, setL2, setL3, setL4, setL5, setL6, setL7, setL8, setL9]
 try simp only [eX, ↓reduceIte, Nat.reduceEqDiff, Int.reduceToNat]
 refine hK _ _ ?_; clear hK K
 refine TW_nil ?_
 try simp only [Ex.thnH, Ex.inBlockH, ↓reduceIte, Nat.reduceEqDiff]
 refine hK3 _ _ ?_; try clear hK3 K3
 obtain ⟨R3, hR3⟩ : ∃ R : Hp, R = H3.upd b (.cells (c.setIfInBounds (o + 0) s3) T) := ⟨_, rfl⟩
 refine CW_drawR [0, 0, 0, 1, 0, 1, 0, 1, 3] [0, 1, 2, 3, 4, 5, 6, 7, 8] R3 (by kernel_rfl) (by kernel_rfl) (by subst hR3; exact Le.refl _) (fun lR3 => ?_)
 have hRb3 : R3 b = some (.cells (c.setIfInBounds (o + 0) s3) T) := by rw [hR3]; exact zan _ _ _
 have hR33 : R3 b3 = some (.cells #[.int .i64 e.v, .int .i64 e.k] 38) := by rw [hR3, zap _ _ (Ne.symm (zal hb f3_H))]; exact hx3
 apply zah rfl (zaa (by decide)) rfl
 ·intro r
  simp only [zaA, eX, ↓reduceIte, Nat.reduceEqDiff]
  exact ⟨rfl, Le.refl _⟩
 simp only [eX, ↓reduceIte, Nat.reduceEqDiff, Int.reduceToNat]
 apply zah rfl (zaa (by decide)) rfl
 ·intro r
  rw [zaQ _ _ rfl]
  exact ⟨rfl, Le.refl _⟩
 simp only [eX, ↓reduceIte, Nat.reduceEqDiff, Int.reduceToNat]
 apply zah rfl (zaa (by decide)) rfl
 ·intro r
  simp only [zai, fa71_1, zaC, Nat.reduceAdd, Nat.zero_add, eX, ↓reduceIte, Nat.reduceEqDiff]
  exact ⟨rfl, Le.refl _⟩
 simp only [eX, ↓reduceIte, Nat.reduceEqDiff, Int.reduceToNat]
 apply TW_look rfl (zaa (by decide)) rfl
 ·intro r
  simp only [zas, eX, ↓reduceIte, Nat.reduceEqDiff]
  refine zag Try.underlying69 rfl hRb3 (set_ne_at hm (by omega)) ?_
  exact ⟨rfl, Le.refl _⟩
 simp only [eX, ↓reduceIte, Nat.reduceEqDiff, Int.reduceToNat]
 apply zah rfl (zaa (by decide)) rfl
 ·intro r
  simp only [zai, fa38_1, zaC, Nat.reduceAdd, Nat.zero_add, eX, ↓reduceIte, Nat.reduceEqDiff]
  exact ⟨rfl, Le.refl _⟩
 simp only [eX, ↓reduceIte, Nat.reduceEqDiff, Int.reduceToNat]
 apply TW_look rfl (zaa (by decide)) rfl
 ·intro r
  simp only [zas, eX, ↓reduceIte, Nat.reduceEqDiff]
  refine zag Try.underlying3 rfl hbA ldA ?_
  exact ⟨rfl, Le.refl _⟩
 simp only [eX, ↓reduceIte, Nat.reduceEqDiff, Int.reduceToNat]
 apply zah rfl (zaa (by decide)) rfl
 ·intro r
  simp only [zai, fa38_0, zaC, Nat.reduceAdd, Nat.zero_add, eX, ↓reduceIte, Nat.reduceEqDiff]
  exact ⟨rfl, Le.refl _⟩
 simp only [eX, ↓reduceIte, Nat.reduceEqDiff, Int.reduceToNat]
 apply TW_look rfl (zaa (by decide)) rfl
 ·intro r
  simp only [zas, eX, ↓reduceIte, Nat.reduceEqDiff]
  refine zag Try.underlying3 rfl hbA ldA ?_
  exact ⟨rfl, Le.refl _⟩
 simp only [eX, ↓reduceIte, Nat.reduceEqDiff, Int.reduceToNat]
 refine TW_last rfl (lt_none) rfl (fun K hK r => ?_)
 simp only [x_mapUpdate, eX, ↓reduceIte, Nat.reduceEqDiff, Int.reduceToNat]
 refine Lt_mapUpdateU Try.underlying69 Try.underlying3 (by rw [zap _ _ hnb]; exact hm3) hI hU ?_
 intro es9 c9 hi9 hu9 hg9
 refine hK _ _ ?_; clear hK K
 refine TW_nil ?_
 try simp only [Ex.thnH, Ex.inBlockH, ↓reduceIte, Nat.reduceEqDiff]
 have hpl := putE_len p.l e
 refine ⟨[], trivial, _, Le.refl _, rfl, s3, rs3, ?_, ⟨?_, ⟨es9, c9, zan _ _ _, hi9, hu9, fun x => ?_⟩, hW.putE hne⟩, fun r hr => ?_, fun x ob hx h1 h2 h3 => ?_⟩
 ·rw [zap _ _ (Ne.symm hnb), zan]; rfl
 ·have h9 : OwnS H3 38 2 s3 (putE p.l e).length (ens (putE p.l e)) rs3 := by rw [hpl]; unfold putE; rw [show p.l.take (posE p.l e) ++ e :: p.l.drop (posE p.l e) = p.l.take (posE p.l e) ++ [e] ++ p.l.drop (posE p.l e) from by simp]; exact ho3
  refine OwnS.upd (OwnS.upd h9 ?_) ?_
  ·intro hh
   rcases hr3 b hh with h8 | h8
   ·exact hnr h8
   ·rw [l22 _ _ hb] at h8; cases h8
  ·intro hh
   rcases hr3 _ hh with h8 | h8
   ·exact PtOk.ne ⟨hO, ⟨es, cc, hE, hI, hU, hG⟩, hW⟩ h8
   ·rw [l22 _ _ hE] at h8; cases h8
 ·rw [hg9, hG]
  unfold lookE
  rw [look_putE hW hne]
  split <;> rfl
 ·rcases hr3 _ hr with h8 | h8
  ·exact .inl h8
  ·refine .inr ?_
   cases hx : H r with
   |none => rfl
   |some ob => rw [l22 _ _ hx] at h8; cases h8
 ·rw [zap _ _ h2, zap _ _ h1]
  exact hk3 _ _ (l22 _ _ hx) h3
set_option maxRecDepth 100000 in
set_option maxHeartbeats 1000000 in
theorem from_ok (H : Hp) (b o : Nat) (c : Array Value) (T : TypeId) (p : PS) (hb : H b = some (.cells c T)) (hs : c[o]? = some p.s) (hO : Holds H 2 p.s p.l.length (ens p.l)) (hW : Rise p.l) (hn : p.l.length ≤ 100000) (v : Int) : CallH Try.prog 37 #[.pointer (some ⟨b, o, none⟩), .int .i64 v] H (fun x H' => x = .int .i64 (fromN p.l v) ∧ H' = H) := by
 refine zaD (l := [_, _]) (rl := [.tmp 4]) (n := 18) Try.func37 rfl rfl rfl rfl rfl ?_
 simp only [envOf, Nat.reduceAdd]
 have hs0 : c[o + 0]? = some p.s := hs
 refine zad (fun K1 hK1 => ?_)
 refine zab ?_
 refine zaE rfl ?_
 refine zae ?_
 try simp only [Ex.thnH, Ex.inBlockH, ↓reduceIte, Nat.reduceEqDiff]
 refine hK1 _ _ ?_; try clear hK1 K1
 refine zad (fun K2 hK2 => ?_)
 refine zab ?_
 refine zaj rfl ?_
 refine zac (fun K hK r => ?_)
 rw [zaQ _ _ rfl]
 simp only [eX, ↓reduceIte, Nat.reduceEqDiff, Int.reduceToNat]
 refine hK _ _ ?_; clear hK K
 refine zac (fun K hK r => ?_)
 simp only [zai, fa71_0, zaC, Nat.reduceAdd, Nat.zero_add, eX, ↓reduceIte, Nat.reduceEqDiff, Int.reduceToNat]
 refine hK _ _ ?_; clear hK K
 refine zac (fun K hK r => ?_)
 simp only [zas, eX, ↓reduceIte, Nat.reduceEqDiff, Int.reduceToNat]
 refine zag Try.underlying33 rfl hbA ldA ?_
 try simp only [eX, ↓reduceIte, Nat.reduceEqDiff, Int.reduceToNat]
 refine hK _ _ ?_; clear hK K
 refine zaj rfl ?_
 refine zac (fun K hK r => ?_)
 simp only [x_build, bp38, List.map_toArray, List.map_cons, List.map_nil, eX, ↓reduceIte, Nat.reduceEqDiff, Int.reduceToNat]
 rw [fill_one rfl clA bdA]
 rw [fill_one rfl clA bdA]
 simp only [fill_nil, zaf, List.setIfInBounds_toArray, List.set_cons_zero, List.set_cons_succ]
 try simp only [eX, ↓reduceIte, Nat.reduceEqDiff, Int.reduceToNat]
 refine hK _ _ ?_; clear hK K
 refine zac (fun K hK r => ?_)
 simp only [zaP _ bd48, List.map_toArray, List.map_cons, List.map_nil, eX, ↓reduceIte, Nat.reduceEqDiff, Int.reduceToNat]
 refine (find_ok _ p.s p.l hO hW (by omega) ⟨v, -9223372036854775808⟩).mono ?_
 rintro v H' ⟨rfl, hq⟩
 have hq := hq.symm
 subst hq
 try simp only [eX, ↓reduceIte, Nat.reduceEqDiff, Int.reduceToNat]
 refine hK _ _ ?_; clear hK K
 refine zaj rfl ?_
 refine zac (fun K hK r => ?_)
 simp only [x_extract, i_extract, List.getElem?_toArray, List.getElem?_cons_zero, List.getElem?_cons_succ, zaf, eX, ↓reduceIte, Nat.reduceEqDiff, Int.reduceToNat]
 refine hK _ _ ?_; clear hK K
 refine zac (fun K hK r => ?_)
 simp only [x_extract, i_extract, List.getElem?_toArray, List.getElem?_cons_zero, List.getElem?_cons_succ, zaf, eX, ↓reduceIte, Nat.reduceEqDiff, Int.reduceToNat]
 refine hK _ _ ?_; clear hK K
 refine zaE rfl ?_
 refine zaE rfl ?_
 refine zae ?_
 try simp only [Ex.thnH, Ex.inBlockH, ↓reduceIte, Nat.reduceEqDiff]
 refine hK2 _ _ ?_; try clear hK2 K2
 refine zad (fun K3 hK3 => ?_)
 refine zab ?_
 refine zaj rfl ?_
 refine zaE rfl ?_
 refine zae ?_
 try simp only [Ex.thnH, Ex.inBlockH, ↓reduceIte, Nat.reduceEqDiff]
 refine hK3 _ _ ?_; try clear hK3 K3
 refine CW_ret ?_
 try simp only [Ex.thnH, Ex.inBlockH, ↓reduceIte, Nat.reduceEqDiff]
 refine ⟨[_], ⟨rfl, trivial⟩, H, lhA, ?_, rfl⟩
 rfl
set_option maxRecDepth 100000 in
set_option maxHeartbeats 1000000 in
theorem behind_ok (H : Hp) (b o : Nat) (c : Array Value) (T : TypeId) (p : PS) (hb : H b = some (.cells c T)) (hs : c[o]? = some p.s) (hO : Holds H 2 p.s p.l.length (ens p.l)) (hW : Rise p.l) (hn : p.l.length ≤ 100000) (v : Int) (hv1 : -9223372036854775808 ≤ v) (hv2 : v ≤ 9223372036854775807) : CallH Try.prog 38 #[.pointer (some ⟨b, o, none⟩), .int .i64 v] H (fun x H' => x = .int .i64 (behN p.l v) ∧ H' = H) := by
 refine zaD (l := [_, _]) (rl := [.tmp 4]) (n := 16) Try.func38 rfl rfl rfl rfl rfl ?_
 simp only [envOf, Nat.reduceAdd]
 have hs0 : c[o + 0]? = some p.s := hs
 obtain ⟨sa, sc, hse⟩ := hO.form
 rw [hse] at hs hs0
 refine zad (fun K1 hK1 => ?_)
 refine zab ?_
 refine zaE rfl ?_
 refine zae ?_
 try simp only [Ex.thnH, Ex.inBlockH, ↓reduceIte, Nat.reduceEqDiff]
 refine hK1 _ _ ?_; try clear hK1 K1
 refine zad (fun K2 hK2 => ?_)
 refine zad (fun K3 hK3 => ?_)
 refine zab ?_
 refine zaj rfl ?_
 refine zac (fun K hK r => ?_)
 simp (disch := (first | omega | decide)) only [zaM, zaN, b_eql, zat, zau, zav, zax, zaz, zay, Bool.not_true, Bool.not_false, eX, ↓reduceIte, Nat.reduceEqDiff, Int.reduceToNat]
 refine hK _ _ ?_; clear hK K
 refine zae ?_
 try simp only [Ex.thnH, Ex.inBlockH, ↓reduceIte, Nat.reduceEqDiff]
 refine hK3 _ _ ?_; try clear hK3 K3
 refine CW_cond (fun r => rfl) (fun c6 => ?_) (fun c6 => ?_)
 ·first
  |(exfalso; exact cnA c6; done)
  |skip
   (try simp only [decide_eq_true_eq, decide_eq_false_iff_not, Bool.not_eq_true, Bool.not_eq_false, Bool.and_eq_true, Bool.or_eq_true, Bool.or_eq_false_iff, Bool.not_eq_eq_eq_not, Bool.not_true, Bool.not_false] at c6)
   refine zad (fun K4 hK4 => ?_)
   refine zab ?_
   refine zaj rfl ?_
   refine zac (fun K hK r => ?_)
   rw [zaQ _ _ rfl]
   simp only [eX, ↓reduceIte, Nat.reduceEqDiff, Int.reduceToNat]
   refine hK _ _ ?_; clear hK K
   refine zac (fun K hK r => ?_)
   simp only [zai, fa71_0, zaC, Nat.reduceAdd, Nat.zero_add, eX, ↓reduceIte, Nat.reduceEqDiff, Int.reduceToNat]
   refine hK _ _ ?_; clear hK K
   refine zac (fun K hK r => ?_)
   simp only [zas, eX, ↓reduceIte, Nat.reduceEqDiff, Int.reduceToNat]
   refine zag Try.underlying33 rfl hbA ldA ?_
   try simp only [eX, ↓reduceIte, Nat.reduceEqDiff, Int.reduceToNat]
   refine hK _ _ ?_; clear hK K
   refine zac (fun K hK r => ?_)
   simp only [zaG, l_len, List.map_toArray, List.map_cons, List.map_nil, zaH _ _ Try.underlying33, eX, ↓reduceIte, Nat.reduceEqDiff, Int.reduceToNat]
   refine hK _ _ ?_; clear hK K
   refine zaE rfl ?_
   refine zae ?_
   try simp only [Ex.thnH, Ex.inBlockH, ↓reduceIte, Nat.reduceEqDiff]
   refine hK4 _ _ ?_; try clear hK4 K4
   refine CW_ret ?_
   try simp only [Ex.thnH, Ex.inBlockH, ↓reduceIte, Nat.reduceEqDiff]
   refine ⟨[_], ⟨rfl, trivial⟩, H, lhA, ?_, rfl⟩
   show Value.int _ _ = Value.int _ _
   unfold behN
   rw [if_pos (by assumption)]
 ·first
  |(exfalso; exact cnA c6; done)
  |skip
   (try simp only [decide_eq_true_eq, decide_eq_false_iff_not, Bool.not_eq_true, Bool.not_eq_false, Bool.and_eq_true, Bool.or_eq_true, Bool.or_eq_false_iff, Bool.not_eq_eq_eq_not, Bool.not_true, Bool.not_false] at c6)
   refine CW_skip ?_
   try simp only [Ex.thnH, Ex.inBlockH, ↓reduceIte, Nat.reduceEqDiff]
   refine hK2 _ _ ?_; try clear hK2 K2
   refine zad (fun K5 hK5 => ?_)
   refine zab ?_
   refine zaj rfl ?_
   refine zaj rfl ?_
   refine zac (fun K hK r => ?_)
   simp (disch := (first | omega | decide)) only [zaM, zaN, b_add, zaI, zaL, zaK, wrap_u8, eX, ↓reduceIte, Nat.reduceEqDiff, Int.reduceToNat]
   refine hK _ _ ?_; clear hK K
   refine zac (fun K hK r => ?_)
   simp only [zaP _ bd37, List.map_toArray, List.map_cons, List.map_nil, eX, ↓reduceIte, Nat.reduceEqDiff, Int.reduceToNat]
   refine (from_ok _ b o c T p hb (by rw [hse]; exact hs) hO hW hn (v + 1)).mono ?_
   rintro v H' ⟨rfl, hq⟩
   have hq := hq.symm
   subst hq
   try simp only [eX, ↓reduceIte, Nat.reduceEqDiff, Int.reduceToNat]
   refine hK _ _ ?_; clear hK K
   refine zaE rfl ?_
   refine zae ?_
   try simp only [Ex.thnH, Ex.inBlockH, ↓reduceIte, Nat.reduceEqDiff]
   refine hK5 _ _ ?_; try clear hK5 K5
   refine CW_ret ?_
   try simp only [Ex.thnH, Ex.inBlockH, ↓reduceIte, Nat.reduceEqDiff]
   refine ⟨[_], ⟨rfl, trivial⟩, H, lhA, ?_, rfl⟩
   show Value.int _ _ = Value.int _ _
   unfold behN
   rw [if_neg (by assumption)]
end Go.Proofs.Ytjhohnbdhopllaa.HL
end
section
namespace Go.Proofs.Ytjhohnbdhopllaa.HL
open Go Go.Proofs
set_option linter.unusedSimpArgs false
set_option linter.unusedVariables false
attribute [local irreducible] Lt Lq CW OW TW CallH
def ixC (P : Nat → PS) : Array Value := #[(P 0).s, .map (some (P 0).m), (P 1).s, .map (some (P 1).m), (P 2).s, .map (some (P 2).m), (P 3).s, .map (some (P 3).m)]
theorem ixC_s (P : Nat → PS) {t : Nat} (h : t < 4) : (ixC P)[t * 2]? = some (P t).s := by
  match t, h with
  | 0, _ => rfl
  | 1, _ => rfl
  | 2, _ => rfl
  | 3, _ => rfl
theorem ixC_m (P : Nat → PS) {t : Nat} (h : t < 4) : (ixC P)[t * 2 + 1]? = some (.map (some (P t).m)) := by
  match t, h with
  | 0, _ => rfl
  | 1, _ => rfl
  | 2, _ => rfl
  | 3, _ => rfl
def updP (P : Nat → PS) (t : Nat) (p : PS) : Nat → PS := fun u => if u = t then p else P u
theorem ixC_set (P : Nat → PS) {t : Nat} (h : t < 4) (s' : Value) (rs' : Option Nat) (l' : List En) : (ixC P).setIfInBounds (t * 2) s' = ixC (updP P t ⟨s', (P t).m, rs', l'⟩) := by
  match t, h with
  | 0, _ => rfl
  | 1, _ => rfl
  | 2, _ => rfl
  | 3, _ => rfl
structure IXP (F : Hp) (b : Nat) (P : Nat → PS) : Prop where
  blk : F b = some (.cells (ixC P) 74)
  ok : ∀ t, t < 4 → PtOk F (P t)
  nb : ∀ t, t < 4 → (P t).m ≠ b ∧ (P t).rs ≠ some b
  ap : ∀ t u, t < 4 → u < 4 → t ≠ u → (P t).m ≠ (P u).m ∧ (P t).rs ≠ some (P u).m ∧ ∀ r, (P t).rs = some r → (P u).rs ≠ some r
def IX (b : Nat) (E : Nat → List En) (F : Hp) : Prop := ∃ P, IXP F b P ∧ ∀ t, t < 4 → (P t).l = E t
theorem PtOk.le {H K : Hp} {p : PS} (h : PtOk H p) (hl : Le H K) : PtOk K p := h.stay (fun x ob hx _ => hl x ob hx)
theorem IX.le {b : Nat} {E : Nat → List En} {F K : Hp} (h : IX b E F) (hl : Le F K) : IX b E K := by
  obtain ⟨P, h1, h2⟩ := h
  exact ⟨P, ⟨hl _ _ h1.blk, fun t ht => (h1.ok t ht).le hl, h1.nb, h1.ap⟩, h2⟩
theorem PtOk.m_known {H : Hp} {p : PS} (h : PtOk H p) : H p.m ≠ none := by
  obtain ⟨_, ⟨es, cc, h1, _⟩, _⟩ := h; rw [h1]; simp
theorem PtOk.rs_known {H : Hp} {p : PS} (h : PtOk H p) : ∀ r, p.rs = some r → H r ≠ none := h.1.known
def setL (E : Nat → List En) (t : Nat) (l : List En) : Nat → List En := fun u => if u = t then l else E u
theorem IXP.step {F F' : Hp} {b t : Nat} {P : Nat → PS} {l' : List En} (h : IXP F b P) (ht : t < 4) (hs : PtStep F F' b (t * 2) (ixC P) 74 (P t) l') : ∃ P', IXP F' b P' ∧ ∀ u, u < 4 → (P' u).l = if u = t then l' else (P u).l := by
  obtain ⟨s', rs', h1, h2, h3, h4⟩ := hs
  have hsm : ∀ u, u ≠ t → updP P t ⟨s', (P t).m, rs', l'⟩ u = P u := fun u hu => by unfold updP; rw [if_neg hu]
  have hst : updP P t ⟨s', (P t).m, rs', l'⟩ t = ⟨s', (P t).m, rs', l'⟩ := by unfold updP; rw [if_pos rfl]
  refine ⟨updP P t ⟨s', (P t).m, rs', l'⟩, ⟨by rw [← ixC_set P ht]; exact h1, fun u hu => ?_, fun u hu => ?_, fun u w hu hw huw => ?_⟩, fun u hu => ?_⟩
  · by_cases e : u = t
    · subst e; rw [hst]; exact h2
    · rw [hsm u e]
      refine (h.ok u hu).stay (fun x ob hx hor => ?_)
      rcases hor with rfl | hr
      · exact h4 _ _ hx (h.nb u hu).1 (h.ap u t hu ht e).1 (h.ap t u ht hu (Ne.symm e)).2.1
      · exact h4 _ _ hx (fun hb => (h.nb u hu).2 (by rw [← hb]; exact hr)) (fun hm => (h.ap u t hu ht e).2.1 (by rw [← hm]; exact hr)) (fun hr2 => (h.ap u t hu ht e).2.2 x hr hr2)
  · by_cases e : u = t
    · subst e; rw [hst]
      refine ⟨(h.nb u hu).1, fun hr => ?_⟩
      rcases h3 b hr with h5 | h5
      · exact (h.nb u hu).2 h5
      · rw [h.blk] at h5; cases h5
    · rw [hsm u e]; exact h.nb u hu
  · by_cases e : u = t
    · subst e
      rw [hst, hsm w (Ne.symm huw)]
      refine ⟨(h.ap u w hu hw huw).1, fun hr => ?_, fun r hr hr2 => ?_⟩
      · rcases h3 _ hr with h5 | h5
        · exact (h.ap u w hu hw huw).2.1 h5
        · exact (h.ok w hw).m_known h5
      · rcases h3 r hr with h5 | h5
        · exact (h.ap u w hu hw huw).2.2 r h5 hr2
        · exact (h.ok w hw).rs_known r hr2 h5
    · rw [hsm u e]
      by_cases e2 : w = t
      · subst e2
        rw [hst]
        refine ⟨(h.ap u w hu hw huw).1, (h.ap u w hu hw huw).2.1, fun r hr hr2 => ?_⟩
        rcases h3 r hr2 with h5 | h5
        · exact (h.ap u w hu hw huw).2.2 r hr h5
        · exact (h.ok u hu).rs_known r hr h5
      · rw [hsm w e2]; exact h.ap u w hu hw huw
  · unfold updP
    by_cases e : u = t
    · subst e; rw [if_pos rfl, if_pos rfl]
    · rw [if_neg e, if_neg e]
theorem ixdrop {F : Hp} {b : Nat} {E : Nat → List En} (h : IX b E F) {t : Nat} (ht : t < 4) (hn : (E t).length ≤ 100000) (k : Int) : CallH Try.prog 32 #[.pointer (some ⟨b, t * 2, none⟩), .int .i64 k] F (fun v F' => v = .tuple #[] ∧ IX b (setL E t (outK (E t) k)) F') := by
  obtain ⟨P, h1, h2⟩ := h
  refine (drop_ok F b (t * 2) (ixC P) _ (P t) h1.blk (ixC_s P ht) (ixC_m P ht) (h1.ok t ht) (h1.nb t ht).1 (h1.nb t ht).2 (by rw [h2 t ht]; exact hn) k).mono ?_
  rintro v F' ⟨rfl, hs⟩
  obtain ⟨P', h3, h4⟩ := h1.step ht hs
  refine ⟨rfl, P', h3, fun u hu => ?_⟩
  rw [h4 u hu, h2 t ht]
  unfold setL
  split
  · rfl
  · exact h2 u hu
theorem ixput {F : Hp} {b : Nat} {E : Nat → List En} (h : IX b E F) {t : Nat} (ht : t < 4) (hn : (E t).length ≤ 100000) (e : En) (hne : ∀ x ∈ E t, x.k ≠ e.k) : CallH Try.prog 33 #[.pointer (some ⟨b, t * 2, none⟩), .agg #[.int .i64 e.v, .int .i64 e.k]] F (fun v F' => v = .tuple #[] ∧ IX b (setL E t (putE (E t) e)) F') := by
  obtain ⟨P, h1, h2⟩ := h
  refine (put_ok F b (t * 2) (ixC P) _ (P t) h1.blk (ixC_s P ht) (ixC_m P ht) (h1.ok t ht) (h1.nb t ht).1 (h1.nb t ht).2 (by rw [h2 t ht]; exact hn) e (by rw [h2 t ht]; exact hne)).mono ?_
  rintro v F' ⟨rfl, hs⟩
  obtain ⟨P', h3, h4⟩ := h1.step ht hs
  refine ⟨rfl, P', h3, fun u hu => ?_⟩
  rw [h4 u hu, h2 t ht]
  unfold setL
  split
  · rfl
  · exact h2 u hu
def XV (K : Hp) (x : Value) (E : Nat → List En) : Prop := (x = .pointer none ∧ ∀ t, E t = []) ∨ ∃ b, x = .pointer (some ⟨b, 0, none⟩) ∧ IX b E K
def XNil (x : Value) : Bool := match x with | .pointer none => true | _ => false
def PartAt (K : Hp) (b o : Nat) (l : List En) : Prop := ∃ c T s, K b = some (.cells c T) ∧ c[o]? = some s ∧ Holds K 2 s l.length (ens l) ∧ GoodE l ∧ ∃ a cap, s = .slice a l.length cap ∧ l.length ≤ cap
theorem PartAt.le {K K' : Hp} {b o : Nat} {l : List En} (h : PartAt K b o l) (hl : Le K K') : PartAt K' b o l := by
  obtain ⟨c, T, s, h1, h2, h3, h4⟩ := h
  exact ⟨c, T, s, hl _ _ h1, h2, h3.le hl, h4⟩
def tabE (E : Nat → List En) (t : Int) : List En := if 0 ≤ t ∧ t < 4 then E t.toNat else []
theorem IX.part {K : Hp} {b : Nat} {E : Nat → List En} (h : IX b E K) {t : Nat} (ht : t < 4) : PartAt K b (t * 2) (E t) := by
  obtain ⟨P, h1, h2⟩ := h
  have h3 := h1.ok t ht
  refine ⟨_, _, _, h1.blk, ixC_s P ht, ?_, ?_⟩
  · rw [← h2 t ht]; exact h3.1.holds
  · rw [← h2 t ht]
    obtain ⟨a, cap, e⟩ := h3.1.holds.form
    refine ⟨h3.2.2, a, cap, e, ?_⟩
    have h4 := h3.1
    rw [e] at h4
    exact h4.capn
set_option maxRecDepth 100000 in
set_option maxHeartbeats 1000000 in
theorem part_nil (G : Hp) (t : Int) : CallH Try.prog 30 #[.pointer none, .int .i64 t] G (fun v K' => Le G K' ∧ ∃ pb, G pb = none ∧ v = .tuple #[.pointer (some ⟨pb, 0, none⟩), .bool false] ∧ PartAt K' pb 0 []) := by
 refine zaD (l := [_, _]) (rl := [.tmp 4, .tmp 5]) (n := 23) Try.func30 rfl rfl rfl rfl rfl ?_
 simp only [envOf, Nat.reduceAdd]
 refine zad (fun K1 hK1 => ?_)
 refine zab ?_
 refine zaE rfl ?_
 refine zaE rfl ?_
 refine zae ?_
 try simp only [Ex.thnH, Ex.inBlockH, ↓reduceIte, Nat.reduceEqDiff]
 refine hK1 _ _ ?_; try clear hK1 K1
 refine zad (fun K2 hK2 => ?_)
 refine zad (fun K3 hK3 => ?_)
 refine zab ?_
 refine zaj rfl ?_
 refine zac (fun K hK r => ?_)
 simp only [zaM, zaN, g_bool, g_string, g_pointer, g_slice, g_map, g_func, g_nilFunc, g_iface, g_nil_iface, g_nil_r, g_nil_l, eX, ↓reduceIte, Nat.reduceEqDiff, Int.reduceToNat]
 rw [e_eql _ _ _ _ (by simp)]
 rw [q_equal]
 first | rw [q_ptr_nil _ _ _ Try.underlying27] | rw [q_nil_ptr _ _ _ Try.underlying27]
 try simp only [eX, ↓reduceIte, Nat.reduceEqDiff, Int.reduceToNat]
 refine hK _ _ ?_; clear hK K
 refine zaj rfl ?_
 (first | refine OW_split (d := 8) rfl (fun g8 => ?_) (fun g8 => ?_) | skip)
 all_goals try (exfalso; exact cnA g8)
 all_goals (try simp only [decide_eq_true_eq, decide_eq_false_iff_not, Bool.not_eq_true, Bool.not_eq_false, Bool.and_eq_true, Bool.or_eq_true, Bool.or_eq_false_iff, Bool.not_eq_eq_eq_not, Bool.not_true, Bool.not_false] at g8)
 all_goals
  try simp only [eX, ↓reduceIte, Nat.reduceEqDiff, Int.reduceToNat]
  first
  |refine zaq rfl (zaa (by decide)) rfl (fun K hK r => ?_)
   simp only [zaA, eX, ↓reduceIte, Nat.reduceEqDiff, Int.reduceToNat]
   refine hK _ _ ?_; clear hK K
  |refine zar rfl (zaa (by decide)) rfl ?_
   simp only [eX, ↓reduceIte, Nat.reduceEqDiff, Int.reduceToNat]
  first
  |refine zaq rfl (zaa (by decide)) rfl (fun K hK r => ?_)
   simp (disch := (first | omega | decide)) only [zaM, zaN, b_lss, zat, zau, zav, zax, zaz, zay, Bool.not_true, Bool.not_false, eX, ↓reduceIte, Nat.reduceEqDiff, Int.reduceToNat]
   refine hK _ _ ?_; clear hK K
  |refine zar rfl (zaa (by decide)) rfl ?_
   simp only [eX, ↓reduceIte, Nat.reduceEqDiff, Int.reduceToNat]
  refine zac (fun K hK r => ?_)
  simp only [x_pick, l_asBool, HL.ite_bool, if_true, if_false, Bool.false_eq_true, eX, ↓reduceIte, Nat.reduceEqDiff, Int.reduceToNat]
  refine hK _ _ ?_; clear hK K
  refine zaj rfl ?_
  (first | refine OW_split (d := 12) rfl (fun g12 => ?_) (fun g12 => ?_) | skip)
  all_goals try (exfalso; exact cnA g12)
  all_goals (try simp only [decide_eq_true_eq, decide_eq_false_iff_not, Bool.not_eq_true, Bool.not_eq_false, Bool.and_eq_true, Bool.or_eq_true, Bool.or_eq_false_iff, Bool.not_eq_eq_eq_not, Bool.not_true, Bool.not_false] at g12)
  all_goals
   try simp only [eX, ↓reduceIte, Nat.reduceEqDiff, Int.reduceToNat]
   first
   |refine zaq rfl (zaa (by decide)) rfl (fun K hK r => ?_)
    simp only [zaA, eX, ↓reduceIte, Nat.reduceEqDiff, Int.reduceToNat]
    refine hK _ _ ?_; clear hK K
   |refine zar rfl (zaa (by decide)) rfl ?_
    simp only [eX, ↓reduceIte, Nat.reduceEqDiff, Int.reduceToNat]
   first
   |refine zaq rfl (zaa (by decide)) rfl (fun K hK r => ?_)
    simp (disch := (first | omega | decide)) only [zaM, zaN, b_geq, zat, zau, zav, zax, zaz, zay, Bool.not_true, Bool.not_false, eX, ↓reduceIte, Nat.reduceEqDiff, Int.reduceToNat]
    refine hK _ _ ?_; clear hK K
   |refine zar rfl (zaa (by decide)) rfl ?_
    simp only [eX, ↓reduceIte, Nat.reduceEqDiff, Int.reduceToNat]
   refine zac (fun K hK r => ?_)
   simp only [x_pick, l_asBool, HL.ite_bool, if_true, if_false, Bool.false_eq_true, eX, ↓reduceIte, Nat.reduceEqDiff, Int.reduceToNat]
   refine hK _ _ ?_; clear hK K
   refine zae ?_
   try simp only [Ex.thnH, Ex.inBlockH, ↓reduceIte, Nat.reduceEqDiff]
   refine hK3 _ _ ?_; try clear hK3 K3
   refine CW_cond (fun r => rfl) (fun c15 => ?_) (fun c15 => ?_)
   rotate_left; exfalso; exact cnA c15
   refine zad (fun K4 hK4 => ?_)
   refine zab ?_
   refine zac (fun K hK r => ?_)
   simp only [x_build, bp71, List.map_toArray, List.map_cons, List.map_nil, eX, ↓reduceIte, Nat.reduceEqDiff, Int.reduceToNat]
   simp only [fill_nil, zaf, List.setIfInBounds_toArray, List.set_cons_zero, List.set_cons_succ]
   try simp only [eX, ↓reduceIte, Nat.reduceEqDiff, Int.reduceToNat]
   refine hK _ _ ?_; clear hK K
   refine zac (fun K hK r => ?_)
   simp only [x_box, Value.cells, eX, ↓reduceIte, Nat.reduceEqDiff, Int.reduceToNat]
   intro b17 hb17
   have f17_G : G b17 = none := zam lhA hb17
   try simp only [eX, ↓reduceIte, Nat.reduceEqDiff, Int.reduceToNat]
   refine hK _ _ ?_; clear hK K
   refine zaE rfl ?_
   refine zaE rfl ?_
   refine zae ?_
   try simp only [Ex.thnH, Ex.inBlockH, ↓reduceIte, Nat.reduceEqDiff]
   refine hK4 _ _ ?_; try clear hK4 K4
   refine CW_ret ?_
   try simp only [Ex.thnH, Ex.inBlockH, ↓reduceIte, Nat.reduceEqDiff]
   exact ⟨[_, _], ⟨rfl, rfl, trivial⟩, _, Le.refl _, lhA, b17, f17_G, rfl, _, _, _, zan _ _ _, rfl, ⟨rfl, .inl ⟨_, _, rfl, rfl⟩⟩, GoodE.nil, _, _, rfl, Nat.le_refl _⟩
set_option maxRecDepth 100000 in
set_option maxHeartbeats 1000000 in
theorem part_out (G : Hp) (b : Nat) (t : Int) (h : ¬ (0 ≤ t ∧ t < 4)) : CallH Try.prog 30 #[.pointer (some ⟨b, 0, none⟩), .int .i64 t] G (fun v K' => Le G K' ∧ ∃ pb, G pb = none ∧ v = .tuple #[.pointer (some ⟨pb, 0, none⟩), .bool false] ∧ PartAt K' pb 0 []) := by
 refine zaD (l := [_, _]) (rl := [.tmp 4, .tmp 5]) (n := 23) Try.func30 rfl rfl rfl rfl rfl ?_
 simp only [envOf, Nat.reduceAdd]
 refine zad (fun K1 hK1 => ?_)
 refine zab ?_
 refine zaE rfl ?_
 refine zaE rfl ?_
 refine zae ?_
 try simp only [Ex.thnH, Ex.inBlockH, ↓reduceIte, Nat.reduceEqDiff]
 refine hK1 _ _ ?_; try clear hK1 K1
 refine zad (fun K2 hK2 => ?_)
 refine zad (fun K3 hK3 => ?_)
 refine zab ?_
 refine zaj rfl ?_
 refine zac (fun K hK r => ?_)
 simp only [zaM, zaN, g_bool, g_string, g_pointer, g_slice, g_map, g_func, g_nilFunc, g_iface, g_nil_iface, g_nil_r, g_nil_l, eX, ↓reduceIte, Nat.reduceEqDiff, Int.reduceToNat]
 rw [e_eql _ _ _ _ (by simp)]
 rw [q_equal]
 first | rw [q_ptr_nil _ _ _ Try.underlying27] | rw [q_nil_ptr _ _ _ Try.underlying27]
 try simp only [eX, ↓reduceIte, Nat.reduceEqDiff, Int.reduceToNat]
 refine hK _ _ ?_; clear hK K
 refine zaj rfl ?_
 (first | refine OW_split (d := 8) rfl (fun g8 => ?_) (fun g8 => ?_) | skip)
 all_goals try (exfalso; exact cnA g8)
 all_goals (try simp only [decide_eq_true_eq, decide_eq_false_iff_not, Bool.not_eq_true, Bool.not_eq_false, Bool.and_eq_true, Bool.or_eq_true, Bool.or_eq_false_iff, Bool.not_eq_eq_eq_not, Bool.not_true, Bool.not_false] at g8)
 all_goals
  try simp only [eX, ↓reduceIte, Nat.reduceEqDiff, Int.reduceToNat]
  first
  |refine zaq rfl (zaa (by decide)) rfl (fun K hK r => ?_)
   simp only [zaA, eX, ↓reduceIte, Nat.reduceEqDiff, Int.reduceToNat]
   refine hK _ _ ?_; clear hK K
  |refine zar rfl (zaa (by decide)) rfl ?_
   simp only [eX, ↓reduceIte, Nat.reduceEqDiff, Int.reduceToNat]
  first
  |refine zaq rfl (zaa (by decide)) rfl (fun K hK r => ?_)
   simp (disch := (first | omega | decide)) only [zaM, zaN, b_lss, zat, zau, zav, zax, zaz, zay, Bool.not_true, Bool.not_false, eX, ↓reduceIte, Nat.reduceEqDiff, Int.reduceToNat]
   refine hK _ _ ?_; clear hK K
  |refine zar rfl (zaa (by decide)) rfl ?_
   simp only [eX, ↓reduceIte, Nat.reduceEqDiff, Int.reduceToNat]
  refine zac (fun K hK r => ?_)
  simp only [x_pick, l_asBool, HL.ite_bool, if_true, if_false, Bool.false_eq_true, eX, ↓reduceIte, Nat.reduceEqDiff, Int.reduceToNat]
  refine hK _ _ ?_; clear hK K
  refine zaj rfl ?_
  (first | refine OW_split (d := 12) rfl (fun g12 => ?_) (fun g12 => ?_) | skip)
  all_goals try (exfalso; exact cnA g12)
  all_goals (try simp only [decide_eq_true_eq, decide_eq_false_iff_not, Bool.not_eq_true, Bool.not_eq_false, Bool.and_eq_true, Bool.or_eq_true, Bool.or_eq_false_iff, Bool.not_eq_eq_eq_not, Bool.not_true, Bool.not_false] at g12)
  all_goals
   try simp only [eX, ↓reduceIte, Nat.reduceEqDiff, Int.reduceToNat]
   first
   |refine zaq rfl (zaa (by decide)) rfl (fun K hK r => ?_)
    simp only [zaA, eX, ↓reduceIte, Nat.reduceEqDiff, Int.reduceToNat]
    refine hK _ _ ?_; clear hK K
   |refine zar rfl (zaa (by decide)) rfl ?_
    simp only [eX, ↓reduceIte, Nat.reduceEqDiff, Int.reduceToNat]
   first
   |refine zaq rfl (zaa (by decide)) rfl (fun K hK r => ?_)
    simp (disch := (first | omega | decide)) only [zaM, zaN, b_geq, zat, zau, zav, zax, zaz, zay, Bool.not_true, Bool.not_false, eX, ↓reduceIte, Nat.reduceEqDiff, Int.reduceToNat]
    refine hK _ _ ?_; clear hK K
   |refine zar rfl (zaa (by decide)) rfl ?_
    simp only [eX, ↓reduceIte, Nat.reduceEqDiff, Int.reduceToNat]
   refine zac (fun K hK r => ?_)
   simp only [x_pick, l_asBool, HL.ite_bool, if_true, if_false, Bool.false_eq_true, eX, ↓reduceIte, Nat.reduceEqDiff, Int.reduceToNat]
   refine hK _ _ ?_; clear hK K
   refine zae ?_
   try simp only [Ex.thnH, Ex.inBlockH, ↓reduceIte, Nat.reduceEqDiff]
   refine hK3 _ _ ?_; try clear hK3 K3
   refine CW_cond (fun r => rfl) (fun c15 => ?_) (fun c15 => ?_)
   ·first
    |(exfalso; exact cnA c15; done)
    |skip
     (try simp only [decide_eq_true_eq, decide_eq_false_iff_not, Bool.not_eq_true, Bool.not_eq_false, Bool.and_eq_true, Bool.or_eq_true, Bool.or_eq_false_iff, Bool.not_eq_eq_eq_not, Bool.not_true, Bool.not_false] at c15)
     refine zad (fun K4 hK4 => ?_)
     refine zab ?_
     refine zac (fun K hK r => ?_)
     simp only [x_build, bp71, List.map_toArray, List.map_cons, List.map_nil, eX, ↓reduceIte, Nat.reduceEqDiff, Int.reduceToNat]
     simp only [fill_nil, zaf, List.setIfInBounds_toArray, List.set_cons_zero, List.set_cons_succ]
     try simp only [eX, ↓reduceIte, Nat.reduceEqDiff, Int.reduceToNat]
     refine hK _ _ ?_; clear hK K
     refine zac (fun K hK r => ?_)
     simp only [x_box, Value.cells, eX, ↓reduceIte, Nat.reduceEqDiff, Int.reduceToNat]
     intro b17 hb17
     have f17_G : G b17 = none := zam lhA hb17
     try simp only [eX, ↓reduceIte, Nat.reduceEqDiff, Int.reduceToNat]
     refine hK _ _ ?_; clear hK K
     refine zaE rfl ?_
     refine zaE rfl ?_
     refine zae ?_
     try simp only [Ex.thnH, Ex.inBlockH, ↓reduceIte, Nat.reduceEqDiff]
     refine hK4 _ _ ?_; try clear hK4 K4
     refine CW_ret ?_
     try simp only [Ex.thnH, Ex.inBlockH, ↓reduceIte, Nat.reduceEqDiff]
     exact ⟨[_, _], ⟨rfl, rfl, trivial⟩, _, Le.refl _, lhA, b17, f17_G, rfl, _, _, _, zan _ _ _, rfl, ⟨rfl, .inl ⟨_, _, rfl, rfl⟩⟩, GoodE.nil, _, _, rfl, Nat.le_refl _⟩
   ·first
    |(exfalso; exact cnA c15; done)
    |skip
     (try simp only [decide_eq_true_eq, decide_eq_false_iff_not, Bool.not_eq_true, Bool.not_eq_false, Bool.and_eq_true, Bool.or_eq_true, Bool.or_eq_false_iff, Bool.not_eq_eq_eq_not, Bool.not_true, Bool.not_false] at c15)
     refine CW_skip ?_
     try simp only [Ex.thnH, Ex.inBlockH, ↓reduceIte, Nat.reduceEqDiff]
     refine hK2 _ _ ?_; try clear hK2 K2
     refine zad (fun K5 hK5 => ?_)
     refine zab ?_
     refine zaj rfl ?_
     refine zaj rfl ?_
     refine zac (fun K hK r => ?_)
     rw [zaQ _ _ rfl]
     simp only [eX, ↓reduceIte, Nat.reduceEqDiff, Int.reduceToNat]
     refine hK _ _ ?_; clear hK K
     refine zac (fun K hK r => ?_)
     simp only [zai, fa74_0, zaC, Nat.reduceAdd, Nat.zero_add, eX, ↓reduceIte, Nat.reduceEqDiff, Int.reduceToNat]
     refine hK _ _ ?_; clear hK K
     refine zac (fun K hK r => ?_)
     simp only [zaF, eX, ↓reduceIte, Nat.reduceEqDiff, Int.reduceToNat]
     refine Lt_indexA Try.underlying72 sz71 ixA ixA ?_
     try simp only [zaC, Nat.mul_one, Nat.zero_add, Int.reduceToNat]
     try simp only [eX, ↓reduceIte, Nat.reduceEqDiff, Int.reduceToNat]
     refine hK _ _ ?_; clear hK K
     refine zaE rfl ?_
     refine zaE rfl ?_
     refine zae ?_
     try simp only [Ex.thnH, Ex.inBlockH, ↓reduceIte, Nat.reduceEqDiff]
     refine hK5 _ _ ?_; try clear hK5 K5
     refine CW_ret ?_
     try simp only [Ex.thnH, Ex.inBlockH, ↓reduceIte, Nat.reduceEqDiff]
     exfalso; simp at c15; omega
set_option maxRecDepth 100000 in
set_option maxHeartbeats 1000000 in
theorem part_in (G : Hp) (b : Nat) (t : Int) (h : 0 ≤ t ∧ t < 4) : CallH Try.prog 30 #[.pointer (some ⟨b, 0, none⟩), .int .i64 t] G (fun v K' => v = .tuple #[.pointer (some ⟨b, t.toNat * 2, none⟩), .bool true] ∧ K' = G) := by
 refine zaD (l := [_, _]) (rl := [.tmp 4, .tmp 5]) (n := 23) Try.func30 rfl rfl rfl rfl rfl ?_
 simp only [envOf, Nat.reduceAdd]
 refine zad (fun K1 hK1 => ?_)
 refine zab ?_
 refine zaE rfl ?_
 refine zaE rfl ?_
 refine zae ?_
 try simp only [Ex.thnH, Ex.inBlockH, ↓reduceIte, Nat.reduceEqDiff]
 refine hK1 _ _ ?_; try clear hK1 K1
 refine zad (fun K2 hK2 => ?_)
 refine zad (fun K3 hK3 => ?_)
 refine zab ?_
 refine zaj rfl ?_
 refine zac (fun K hK r => ?_)
 simp only [zaM, zaN, g_bool, g_string, g_pointer, g_slice, g_map, g_func, g_nilFunc, g_iface, g_nil_iface, g_nil_r, g_nil_l, eX, ↓reduceIte, Nat.reduceEqDiff, Int.reduceToNat]
 rw [e_eql _ _ _ _ (by simp)]
 rw [q_equal]
 first | rw [q_ptr_nil _ _ _ Try.underlying27] | rw [q_nil_ptr _ _ _ Try.underlying27]
 try simp only [eX, ↓reduceIte, Nat.reduceEqDiff, Int.reduceToNat]
 refine hK _ _ ?_; clear hK K
 refine zaj rfl ?_
 (first | refine OW_split (d := 8) rfl (fun g8 => ?_) (fun g8 => ?_) | skip)
 all_goals try (exfalso; exact cnA g8)
 all_goals (try simp only [decide_eq_true_eq, decide_eq_false_iff_not, Bool.not_eq_true, Bool.not_eq_false, Bool.and_eq_true, Bool.or_eq_true, Bool.or_eq_false_iff, Bool.not_eq_eq_eq_not, Bool.not_true, Bool.not_false] at g8)
 all_goals
  try simp only [eX, ↓reduceIte, Nat.reduceEqDiff, Int.reduceToNat]
  first
  |refine zaq rfl (zaa (by decide)) rfl (fun K hK r => ?_)
   simp only [zaA, eX, ↓reduceIte, Nat.reduceEqDiff, Int.reduceToNat]
   refine hK _ _ ?_; clear hK K
  |refine zar rfl (zaa (by decide)) rfl ?_
   simp only [eX, ↓reduceIte, Nat.reduceEqDiff, Int.reduceToNat]
  first
  |refine zaq rfl (zaa (by decide)) rfl (fun K hK r => ?_)
   simp (disch := (first | omega | decide)) only [zaM, zaN, b_lss, zat, zau, zav, zax, zaz, zay, Bool.not_true, Bool.not_false, eX, ↓reduceIte, Nat.reduceEqDiff, Int.reduceToNat]
   refine hK _ _ ?_; clear hK K
  |refine zar rfl (zaa (by decide)) rfl ?_
   simp only [eX, ↓reduceIte, Nat.reduceEqDiff, Int.reduceToNat]
  refine zac (fun K hK r => ?_)
  simp only [x_pick, l_asBool, HL.ite_bool, if_true, if_false, Bool.false_eq_true, eX, ↓reduceIte, Nat.reduceEqDiff, Int.reduceToNat]
  refine hK _ _ ?_; clear hK K
  refine zaj rfl ?_
  (first | refine OW_split (d := 12) rfl (fun g12 => ?_) (fun g12 => ?_) | skip)
  all_goals try (exfalso; exact cnA g12)
  all_goals (try simp only [decide_eq_true_eq, decide_eq_false_iff_not, Bool.not_eq_true, Bool.not_eq_false, Bool.and_eq_true, Bool.or_eq_true, Bool.or_eq_false_iff, Bool.not_eq_eq_eq_not, Bool.not_true, Bool.not_false] at g12)
  all_goals
   try simp only [eX, ↓reduceIte, Nat.reduceEqDiff, Int.reduceToNat]
   first
   |refine zaq rfl (zaa (by decide)) rfl (fun K hK r => ?_)
    simp only [zaA, eX, ↓reduceIte, Nat.reduceEqDiff, Int.reduceToNat]
    refine hK _ _ ?_; clear hK K
   |refine zar rfl (zaa (by decide)) rfl ?_
    simp only [eX, ↓reduceIte, Nat.reduceEqDiff, Int.reduceToNat]
   first
   |refine zaq rfl (zaa (by decide)) rfl (fun K hK r => ?_)
    simp (disch := (first | omega | decide)) only [zaM, zaN, b_geq, zat, zau, zav, zax, zaz, zay, Bool.not_true, Bool.not_false, eX, ↓reduceIte, Nat.reduceEqDiff, Int.reduceToNat]
    refine hK _ _ ?_; clear hK K
   |refine zar rfl (zaa (by decide)) rfl ?_
    simp only [eX, ↓reduceIte, Nat.reduceEqDiff, Int.reduceToNat]
   refine zac (fun K hK r => ?_)
   simp only [x_pick, l_asBool, HL.ite_bool, if_true, if_false, Bool.false_eq_true, eX, ↓reduceIte, Nat.reduceEqDiff, Int.reduceToNat]
   refine hK _ _ ?_; clear hK K
   refine zae ?_
   try simp only [Ex.thnH, Ex.inBlockH, ↓reduceIte, Nat.reduceEqDiff]
   refine hK3 _ _ ?_; try clear hK3 K3
   refine CW_cond (fun r => rfl) (fun c15 => ?_) (fun c15 => ?_)
   ·first
    |(exfalso; exact cnA c15; done)
    |skip
     (try simp only [decide_eq_true_eq, decide_eq_false_iff_not, Bool.not_eq_true, Bool.not_eq_false, Bool.and_eq_true, Bool.or_eq_true, Bool.or_eq_false_iff, Bool.not_eq_eq_eq_not, Bool.not_true, Bool.not_false] at c15)
     refine zad (fun K4 hK4 => ?_)
     refine zab ?_
     refine zac (fun K hK r => ?_)
     simp only [x_build, bp71, List.map_toArray, List.map_cons, List.map_nil, eX, ↓reduceIte, Nat.reduceEqDiff, Int.reduceToNat]
     simp only [fill_nil, zaf, List.setIfInBounds_toArray, List.set_cons_zero, List.set_cons_succ]
     try simp only [eX, ↓reduceIte, Nat.reduceEqDiff, Int.reduceToNat]
     refine hK _ _ ?_; clear hK K
     refine zac (fun K hK r => ?_)
     simp only [x_box, Value.cells, eX, ↓reduceIte, Nat.reduceEqDiff, Int.reduceToNat]
     intro b17 hb17
     have f17_G : G b17 = none := zam lhA hb17
     try simp only [eX, ↓reduceIte, Nat.reduceEqDiff, Int.reduceToNat]
     refine hK _ _ ?_; clear hK K
     refine zaE rfl ?_
     refine zaE rfl ?_
     refine zae ?_
     try simp only [Ex.thnH, Ex.inBlockH, ↓reduceIte, Nat.reduceEqDiff]
     refine hK4 _ _ ?_; try clear hK4 K4
     refine CW_ret ?_
     try simp only [Ex.thnH, Ex.inBlockH, ↓reduceIte, Nat.reduceEqDiff]
     exfalso; simp at c15; omega
   ·first
    |(exfalso; exact cnA c15; done)
    |skip
     (try simp only [decide_eq_true_eq, decide_eq_false_iff_not, Bool.not_eq_true, Bool.not_eq_false, Bool.and_eq_true, Bool.or_eq_true, Bool.or_eq_false_iff, Bool.not_eq_eq_eq_not, Bool.not_true, Bool.not_false] at c15)
     refine CW_skip ?_
     try simp only [Ex.thnH, Ex.inBlockH, ↓reduceIte, Nat.reduceEqDiff]
     refine hK2 _ _ ?_; try clear hK2 K2
     refine zad (fun K5 hK5 => ?_)
     refine zab ?_
     refine zaj rfl ?_
     refine zaj rfl ?_
     refine zac (fun K hK r => ?_)
     rw [zaQ _ _ rfl]
     simp only [eX, ↓reduceIte, Nat.reduceEqDiff, Int.reduceToNat]
     refine hK _ _ ?_; clear hK K
     refine zac (fun K hK r => ?_)
     simp only [zai, fa74_0, zaC, Nat.reduceAdd, Nat.zero_add, eX, ↓reduceIte, Nat.reduceEqDiff, Int.reduceToNat]
     refine hK _ _ ?_; clear hK K
     refine zac (fun K hK r => ?_)
     simp only [zaF, eX, ↓reduceIte, Nat.reduceEqDiff, Int.reduceToNat]
     refine Lt_indexA Try.underlying72 sz71 ixA ixA ?_
     try simp only [zaC, Nat.mul_one, Nat.zero_add, Int.reduceToNat]
     try simp only [eX, ↓reduceIte, Nat.reduceEqDiff, Int.reduceToNat]
     refine hK _ _ ?_; clear hK K
     refine zaE rfl ?_
     refine zaE rfl ?_
     refine zae ?_
     try simp only [Ex.thnH, Ex.inBlockH, ↓reduceIte, Nat.reduceEqDiff]
     refine hK5 _ _ ?_; try clear hK5 K5
     refine CW_ret ?_
     try simp only [Ex.thnH, Ex.inBlockH, ↓reduceIte, Nat.reduceEqDiff]
     exact ⟨[_, _], ⟨rfl, rfl, trivial⟩, _, Le.refl _, rfl, rfl⟩
theorem ixpart {K : Hp} {x : Value} {E : Nat → List En} (h : XV K x E) (t : Int) : CallH Try.prog 30 #[x, .int .i64 t] K (fun v K' => Le K K' ∧ ∃ pb o, v = .tuple #[.pointer (some ⟨pb, o, none⟩), .bool (!XNil x && decide (0 ≤ t ∧ t < 4))] ∧ PartAt K' pb o (tabE E t)) := by
  rcases h with ⟨rfl, hE⟩ | ⟨b, rfl, hX⟩
  · refine (part_nil K t).mono ?_
    rintro v K' ⟨hl, pb, _, rfl, hp⟩
    refine ⟨hl, pb, 0, rfl, ?_⟩
    have : tabE E t = [] := by unfold tabE; split <;> first | rfl | exact hE _
    rw [this]; exact hp
  · by_cases ht : 0 ≤ t ∧ t < 4
    · refine (part_in K b t ht).mono ?_
      rintro v K' ⟨rfl, rfl⟩
      refine ⟨Le.refl _, b, _, by rw [decide_eq_true ht]; rfl, ?_⟩
      unfold tabE
      rw [if_pos ht]
      exact hX.part (by omega)
    · refine (part_out K b t ht).mono ?_
      rintro v K' ⟨hl, pb, _, rfl, hp⟩
      refine ⟨hl, pb, 0, by rw [decide_eq_false ht]; rfl, ?_⟩
      unfold tabE
      rw [if_neg ht]; exact hp
set_option maxRecDepth 100000 in
set_option maxHeartbeats 1000000 in
theorem ixLen (G : Hp) (x : Value) (E : Nat → List En) (h : XV G x E) (t : Int) : CallH Try.prog 13 #[x, .int .i64 t] G (fun v K' => v = .int .i64 (tabE E t).length ∧ Le G K') := by
 refine zaD (l := [_, _]) (rl := [.tmp 4]) (n := 18) Try.func13 rfl rfl rfl rfl rfl ?_
 simp only [envOf, Nat.reduceAdd]
 refine zad (fun K1 hK1 => ?_)
 refine zab ?_
 refine zaE rfl ?_
 refine zae ?_
 try simp only [Ex.thnH, Ex.inBlockH, ↓reduceIte, Nat.reduceEqDiff]
 refine hK1 _ _ ?_; try clear hK1 K1
 refine zad (fun K2 hK2 => ?_)
 refine zab ?_
 refine zaj rfl ?_
 refine zaj rfl ?_
 refine zac (fun K hK r => ?_)
 simp only [zaP _ bd30, List.map_toArray, List.map_cons, List.map_nil, eX, ↓reduceIte, Nat.reduceEqDiff, Int.reduceToNat]
 refine (ixpart h t).mono ?_
 rintro v10 H10 ⟨hl10, pb, po, rfl, hpa⟩
 obtain ⟨pc, pT, ps, hpb, hps, hph, hpg, sa, sc, rfl, hcp⟩ := hpa
 have hps0 : pc[po + 0]? = some _ := hps
 try simp only [eX, ↓reduceIte, Nat.reduceEqDiff, Int.reduceToNat]
 refine hK _ _ ?_; clear hK K
 refine zaj rfl ?_
 refine zac (fun K hK r => ?_)
 simp only [x_extract, i_extract, List.getElem?_toArray, List.getElem?_cons_zero, List.getElem?_cons_succ, zaf, eX, ↓reduceIte, Nat.reduceEqDiff, Int.reduceToNat]
 refine hK _ _ ?_; clear hK K
 refine zac (fun K hK r => ?_)
 simp only [x_extract, i_extract, List.getElem?_toArray, List.getElem?_cons_zero, List.getElem?_cons_succ, zaf, eX, ↓reduceIte, Nat.reduceEqDiff, Int.reduceToNat]
 refine hK _ _ ?_; clear hK K
 refine zaE rfl ?_
 refine zaE rfl ?_
 refine zae ?_
 try simp only [Ex.thnH, Ex.inBlockH, ↓reduceIte, Nat.reduceEqDiff]
 refine hK2 _ _ ?_; try clear hK2 K2
 refine zad (fun K3 hK3 => ?_)
 refine zab ?_
 refine zaj rfl ?_
 refine zac (fun K hK r => ?_)
 rw [zaQ _ _ rfl]
 simp only [eX, ↓reduceIte, Nat.reduceEqDiff, Int.reduceToNat]
 refine hK _ _ ?_; clear hK K
 refine zac (fun K hK r => ?_)
 simp only [zai, fa71_0, zaC, Nat.reduceAdd, Nat.zero_add, eX, ↓reduceIte, Nat.reduceEqDiff, Int.reduceToNat]
 refine hK _ _ ?_; clear hK K
 refine zac (fun K hK r => ?_)
 simp only [zas, eX, ↓reduceIte, Nat.reduceEqDiff, Int.reduceToNat]
 refine zag Try.underlying33 rfl hbA ldA ?_
 try simp only [eX, ↓reduceIte, Nat.reduceEqDiff, Int.reduceToNat]
 refine hK _ _ ?_; clear hK K
 refine zac (fun K hK r => ?_)
 simp only [zaG, l_len, List.map_toArray, List.map_cons, List.map_nil, zaH _ _ Try.underlying33, eX, ↓reduceIte, Nat.reduceEqDiff, Int.reduceToNat]
 refine hK _ _ ?_; clear hK K
 refine zaE rfl ?_
 refine zae ?_
 try simp only [Ex.thnH, Ex.inBlockH, ↓reduceIte, Nat.reduceEqDiff]
 refine hK3 _ _ ?_; try clear hK3 K3
 refine CW_ret ?_
 try simp only [Ex.thnH, Ex.inBlockH, ↓reduceIte, Nat.reduceEqDiff]
 exact ⟨[_], ⟨rfl, trivial⟩, _, Le.refl _, rfl, hl10⟩
set_option maxRecDepth 100000 in
set_option maxHeartbeats 1000000 in
theorem ixRank (G : Hp) (x : Value) (E : Nat → List En) (h : XV G x E) (t w : Int) (hn : (tabE E t).length ≤ 100000) : CallH Try.prog 14 #[x, .int .i64 t, .int .i64 w] G (fun v K' => v = .int .i64 (fromN (tabE E t) w) ∧ Le G K') := by
 refine zaD (l := [_, _, _]) (rl := [.tmp 6]) (n := 18) Try.func14 rfl rfl rfl rfl rfl ?_
 simp only [envOf, Nat.reduceAdd]
 refine zad (fun K1 hK1 => ?_)
 refine zab ?_
 refine zaE rfl ?_
 refine zae ?_
 try simp only [Ex.thnH, Ex.inBlockH, ↓reduceIte, Nat.reduceEqDiff]
 refine hK1 _ _ ?_; try clear hK1 K1
 refine zad (fun K2 hK2 => ?_)
 refine zab ?_
 refine zaj rfl ?_
 refine zaj rfl ?_
 refine zac (fun K hK r => ?_)
 simp only [zaP _ bd30, List.map_toArray, List.map_cons, List.map_nil, eX, ↓reduceIte, Nat.reduceEqDiff, Int.reduceToNat]
 refine (ixpart h t).mono ?_
 rintro v12 H12 ⟨hl12, pb, po, rfl, hpa⟩
 obtain ⟨pc, pT, ps, hpb, hps, hph, hpg, sa, sc, rfl, hcp⟩ := hpa
 try simp only [eX, ↓reduceIte, Nat.reduceEqDiff, Int.reduceToNat]
 refine hK _ _ ?_; clear hK K
 refine zaj rfl ?_
 refine zac (fun K hK r => ?_)
 simp only [x_extract, i_extract, List.getElem?_toArray, List.getElem?_cons_zero, List.getElem?_cons_succ, zaf, eX, ↓reduceIte, Nat.reduceEqDiff, Int.reduceToNat]
 refine hK _ _ ?_; clear hK K
 refine zac (fun K hK r => ?_)
 simp only [x_extract, i_extract, List.getElem?_toArray, List.getElem?_cons_zero, List.getElem?_cons_succ, zaf, eX, ↓reduceIte, Nat.reduceEqDiff, Int.reduceToNat]
 refine hK _ _ ?_; clear hK K
 refine zaE rfl ?_
 refine zaE rfl ?_
 refine zae ?_
 try simp only [Ex.thnH, Ex.inBlockH, ↓reduceIte, Nat.reduceEqDiff]
 refine hK2 _ _ ?_; try clear hK2 K2
 refine zad (fun K3 hK3 => ?_)
 refine zab ?_
 refine zaj rfl ?_
 refine zaj rfl ?_
 refine zac (fun K hK r => ?_)
 simp only [zaP _ bd37, List.map_toArray, List.map_cons, List.map_nil, eX, ↓reduceIte, Nat.reduceEqDiff, Int.reduceToNat]
 refine (from_ok _ pb po pc pT ⟨_, 0, none, tabE E t⟩ hpb hps hph hpg.rise hn w).mono ?_
 rintro v H' ⟨rfl, hq⟩
 have hq := hq.symm
 subst hq
 try simp only [eX, ↓reduceIte, Nat.reduceEqDiff, Int.reduceToNat]
 refine hK _ _ ?_; clear hK K
 refine zaE rfl ?_
 refine zae ?_
 try simp only [Ex.thnH, Ex.inBlockH, ↓reduceIte, Nat.reduceEqDiff]
 refine hK3 _ _ ?_; try clear hK3 K3
 refine CW_ret ?_
 try simp only [Ex.thnH, Ex.inBlockH, ↓reduceIte, Nat.reduceEqDiff]
 exact ⟨[_], ⟨rfl, trivial⟩, _, Le.refl _, rfl, hl12⟩
end Go.Proofs.Ytjhohnbdhopllaa.HL
end
section
namespace Go.Proofs.Ytjhohnbdhopllaa.HL
open Go Go.Proofs
set_option linter.unusedSimpArgs false
set_option linter.unusedVariables false
attribute [local irreducible] Lt Lq CW OW TW CallH
abbrev errV : Option Int → Value := errVT 61
def errOk (o : Option Int) : Prop := ∀ k, o = some k → k ≠ 0 ∧ -9223372036854775808 ≤ k ∧ k ≤ 9223372036854775807
end Go.Proofs.Ytjhohnbdhopllaa.HL
end
section
namespace Go.Proofs.Ytjhohnbdhopllaa.HL
open Go Go.Proofs
set_option linter.unusedSimpArgs false
set_option linter.unusedVariables false
attribute [local irreducible] Lt Lq CW OW TW CallH
def farW (w : Wr) : Bool := !decide (0 ≤ w.t ∧ w.t < 4)
def stepE (E : Nat → List En) (w : Wr) : Nat → List En := if w.dead then setL E w.t.toNat (outK (E w.t.toNat) w.k) else setL E w.t.toNat (putE (outK (E w.t.toNat) w.k) ⟨w.v, w.k⟩)
def tellE (E : Nat → List En) (L : List Wr) : Nat → List En := if L.any farW then E else L.foldl stepE E
def SzE (E : Nat → List En) (n : Nat) : Prop := ∀ t, t < 4 → (E t).length ≤ n
theorem outK_len (l : List En) (k : Int) : (outK l k).length ≤ l.length := List.length_filter_le _ _
theorem SzE.step {E : Nat → List En} {n : Nat} (h : SzE E n) (w : Wr) (hw : farW w = false) : SzE (stepE E w) (n + 1) := by
  have hw' : 0 ≤ w.t ∧ w.t < 4 := by simpa [farW] using hw
  intro t ht
  have h1 := h t ht
  have h2 := h w.t.toNat (by omega)
  have h3 := outK_len (E w.t.toNat) w.k
  unfold stepE
  split
  · unfold setL; split <;> omega
  · unfold setL; split
    · rw [putE_len]; omega
    · omega
theorem SzE.up {E : Nat → List En} {n m : Nat} (h : SzE E n) (hm : n ≤ m) : SzE E m := fun t ht => Nat.le_trans (h t ht) hm
theorem SzE.fold {L : List Wr} : ∀ {E : Nat → List En} {n : Nat}, SzE E n → L.any farW = false → SzE (L.foldl stepE E) (n + L.length) := by
  induction L with
  | nil => intro E n h _; exact h
  | cons w r ih =>
    intro E n h hf
    rw [List.any_cons, Bool.or_eq_false_iff] at hf
    have := ih (h.step w hf.1) hf.2
    rw [List.foldl_cons]
    exact this.up (by simp; omega)
theorem any_take {L : List Wr} (h : L.any farW = false) (k : Nat) : (L.take k).any farW = false := by
  rw [List.any_eq_false] at h ⊢
  exact fun x hx => h x (List.mem_of_mem_take hx)
theorem SzE.tell {E : Nat → List En} {n : Nat} (h : SzE E n) (L : List Wr) : SzE (tellE E L) (n + L.length) := by
  unfold tellE
  split
  · exact h.up (by omega)
  · rename_i hf
    exact h.fold (by simpa using hf)
theorem foldl_take {α β : Type} [Inhabited α] (f : β → α → β) (z : β) {L : List α} {k : Nat} (h : k < L.length) : (L.take (k + 1)).foldl f z = f ((L.take k).foldl f z) (L.getD k default) := by
  rw [List.take_add_one, List.getElem?_eq_getElem h, List.getD_eq_getElem?_getD, List.getElem?_eq_getElem h, List.foldl_append]; rfl
set_option maxRecDepth 100000 in
set_option maxHeartbeats 1000000 in
theorem tell1i_ok (G : Hp) (b bx : Nat) (hbx : G bx = some (.cells #[.pointer (some ⟨b, 0, none⟩)] 27)) (w : Wr) (hin : 0 ≤ w.t ∧ w.t < 4) : CallH Try.prog 29 #[.agg w.c.toArray, .pointer (some ⟨bx, 0, none⟩)] G (fun v G' => v = .bool (farW w) ∧ G' = G) := by
 refine zaD (l := [_, _]) (rl := [.tmp 3]) (n := 16) Try.func29 rfl rfl rfl rfl rfl ?_
 simp only [envOf, Nat.reduceAdd]
 refine zad (fun K1 hK1 => ?_)
 refine zab ?_
 refine zac (fun K hK r => ?_)
 simp only [x_box, Value.cells, eX, ↓reduceIte, Nat.reduceEqDiff, Int.reduceToNat]
 intro b2 hb2
 try have n2_bx : bx ≠ b2 := zal hbA hb2
 have f2_G : G b2 = none := zam lhA hb2
 try simp only [eX, ↓reduceIte, Nat.reduceEqDiff, Int.reduceToNat]
 refine hK _ _ ?_; clear hK K
 refine zaE rfl ?_
 refine zae ?_
 try simp only [Ex.thnH, Ex.inBlockH, ↓reduceIte, Nat.reduceEqDiff]
 refine hK1 _ _ ?_; try clear hK1 K1
 refine zad (fun K2 hK2 => ?_)
 refine zab ?_
 refine zac (fun K hK r => ?_)
 simp only [zas, eX, ↓reduceIte, Nat.reduceEqDiff, Int.reduceToNat]
 refine zag Try.underlying27 rfl hbA ldA ?_
 try simp only [eX, ↓reduceIte, Nat.reduceEqDiff, Int.reduceToNat]
 refine hK _ _ ?_; clear hK K
 refine zac (fun K hK r => ?_)
 simp only [zai, fa46_0, zaC, Nat.reduceAdd, Nat.zero_add, eX, ↓reduceIte, Nat.reduceEqDiff, Int.reduceToNat]
 refine hK _ _ ?_; clear hK K
 refine zac (fun K hK r => ?_)
 simp only [zai, fa44_0, zaC, Nat.reduceAdd, Nat.zero_add, eX, ↓reduceIte, Nat.reduceEqDiff, Int.reduceToNat]
 refine hK _ _ ?_; clear hK K
 refine zac (fun K hK r => ?_)
 simp only [zas, eX, ↓reduceIte, Nat.reduceEqDiff, Int.reduceToNat]
 refine zag Try.underlying3 rfl hbA ldA ?_
 try simp only [eX, ↓reduceIte, Nat.reduceEqDiff, Int.reduceToNat]
 refine hK _ _ ?_; clear hK K
 refine zac (fun K hK r => ?_)
 simp only [zaP _ bd30, List.map_toArray, List.map_cons, List.map_nil, eX, ↓reduceIte, Nat.reduceEqDiff, Int.reduceToNat]
 refine (part_in _ b w.t hin).mono ?_
 rintro v H' ⟨rfl, hq⟩
 have hq := hq.symm
 subst hq
 try simp only [eX, ↓reduceIte, Nat.reduceEqDiff, Int.reduceToNat]
 refine hK _ _ ?_; clear hK K
 refine zaj rfl ?_
 refine zac (fun K hK r => ?_)
 simp only [x_extract, i_extract, List.getElem?_toArray, List.getElem?_cons_zero, List.getElem?_cons_succ, zaf, eX, ↓reduceIte, Nat.reduceEqDiff, Int.reduceToNat]
 refine hK _ _ ?_; clear hK K
 refine zac (fun K hK r => ?_)
 simp only [x_extract, i_extract, List.getElem?_toArray, List.getElem?_cons_zero, List.getElem?_cons_succ, zaf, eX, ↓reduceIte, Nat.reduceEqDiff, Int.reduceToNat]
 refine hK _ _ ?_; clear hK K
 refine zaE rfl ?_
 refine zaE rfl ?_
 refine zae ?_
 try simp only [Ex.thnH, Ex.inBlockH, ↓reduceIte, Nat.reduceEqDiff]
 refine hK2 _ _ ?_; try clear hK2 K2
 refine zad (fun K3 hK3 => ?_)
 refine zab ?_
 refine zaj rfl ?_
 refine zac (fun K hK r => ?_)
 simp only [x_un, u_not, eX, ↓reduceIte, Nat.reduceEqDiff, Int.reduceToNat]
 refine hK _ _ ?_; clear hK K
 refine zaE rfl ?_
 refine zae ?_
 try simp only [Ex.thnH, Ex.inBlockH, ↓reduceIte, Nat.reduceEqDiff]
 refine hK3 _ _ ?_; try clear hK3 K3
 refine CW_ret ?_
 try simp only [Ex.thnH, Ex.inBlockH, ↓reduceIte, Nat.reduceEqDiff]
 refine ⟨[_], ⟨rfl, trivial⟩, G, lhA, ?_, rfl⟩
 show Value.bool _ = Value.bool _
 congr 1
 unfold farW
 rw [decide_eq_true hin]
set_option maxRecDepth 100000 in
set_option maxHeartbeats 1000000 in
theorem tell1o_ok (G : Hp) (b bx : Nat) (hbx : G bx = some (.cells #[.pointer (some ⟨b, 0, none⟩)] 27)) (w : Wr) (hin : ¬ (0 ≤ w.t ∧ w.t < 4)) : CallH Try.prog 29 #[.agg w.c.toArray, .pointer (some ⟨bx, 0, none⟩)] G (fun v G' => v = .bool (farW w) ∧ G' = G) := by
 refine zaD (l := [_, _]) (rl := [.tmp 3]) (n := 16) Try.func29 rfl rfl rfl rfl rfl ?_
 simp only [envOf, Nat.reduceAdd]
 refine zad (fun K1 hK1 => ?_)
 refine zab ?_
 refine zac (fun K hK r => ?_)
 simp only [x_box, Value.cells, eX, ↓reduceIte, Nat.reduceEqDiff, Int.reduceToNat]
 intro b2 hb2
 try have n2_bx : bx ≠ b2 := zal hbA hb2
 have f2_G : G b2 = none := zam lhA hb2
 try simp only [eX, ↓reduceIte, Nat.reduceEqDiff, Int.reduceToNat]
 refine hK _ _ ?_; clear hK K
 refine zaE rfl ?_
 refine zae ?_
 try simp only [Ex.thnH, Ex.inBlockH, ↓reduceIte, Nat.reduceEqDiff]
 refine hK1 _ _ ?_; try clear hK1 K1
 refine zad (fun K2 hK2 => ?_)
 refine zab ?_
 refine zac (fun K hK r => ?_)
 simp only [zas, eX, ↓reduceIte, Nat.reduceEqDiff, Int.reduceToNat]
 refine zag Try.underlying27 rfl hbA ldA ?_
 try simp only [eX, ↓reduceIte, Nat.reduceEqDiff, Int.reduceToNat]
 refine hK _ _ ?_; clear hK K
 refine zac (fun K hK r => ?_)
 simp only [zai, fa46_0, zaC, Nat.reduceAdd, Nat.zero_add, eX, ↓reduceIte, Nat.reduceEqDiff, Int.reduceToNat]
 refine hK _ _ ?_; clear hK K
 refine zac (fun K hK r => ?_)
 simp only [zai, fa44_0, zaC, Nat.reduceAdd, Nat.zero_add, eX, ↓reduceIte, Nat.reduceEqDiff, Int.reduceToNat]
 refine hK _ _ ?_; clear hK K
 refine zac (fun K hK r => ?_)
 simp only [zas, eX, ↓reduceIte, Nat.reduceEqDiff, Int.reduceToNat]
 refine zag Try.underlying3 rfl hbA ldA ?_
 try simp only [eX, ↓reduceIte, Nat.reduceEqDiff, Int.reduceToNat]
 refine hK _ _ ?_; clear hK K
 refine zac (fun K hK r => ?_)
 simp only [zaP _ bd30, List.map_toArray, List.map_cons, List.map_nil, eX, ↓reduceIte, Nat.reduceEqDiff, Int.reduceToNat]
 refine (part_out _ b w.t hin).mono ?_
 rintro v11 H11 ⟨hl11, pb, _, rfl, _⟩
 try simp only [eX, ↓reduceIte, Nat.reduceEqDiff, Int.reduceToNat]
 refine hK _ _ ?_; clear hK K
 refine zaj rfl ?_
 refine zac (fun K hK r => ?_)
 simp only [x_extract, i_extract, List.getElem?_toArray, List.getElem?_cons_zero, List.getElem?_cons_succ, zaf, eX, ↓reduceIte, Nat.reduceEqDiff, Int.reduceToNat]
 refine hK _ _ ?_; clear hK K
 refine zac (fun K hK r => ?_)
 simp only [x_extract, i_extract, List.getElem?_toArray, List.getElem?_cons_zero, List.getElem?_cons_succ, zaf, eX, ↓reduceIte, Nat.reduceEqDiff, Int.reduceToNat]
 refine hK _ _ ?_; clear hK K
 refine zaE rfl ?_
 refine zaE rfl ?_
 refine zae ?_
 try simp only [Ex.thnH, Ex.inBlockH, ↓reduceIte, Nat.reduceEqDiff]
 refine hK2 _ _ ?_; try clear hK2 K2
 refine zad (fun K3 hK3 => ?_)
 refine zab ?_
 refine zaj rfl ?_
 refine zac (fun K hK r => ?_)
 simp only [x_un, u_not, eX, ↓reduceIte, Nat.reduceEqDiff, Int.reduceToNat]
 refine hK _ _ ?_; clear hK K
 refine zaE rfl ?_
 refine zae ?_
 try simp only [Ex.thnH, Ex.inBlockH, ↓reduceIte, Nat.reduceEqDiff]
 refine hK3 _ _ ?_; try clear hK3 K3
 refine CW_ret ?_
 try simp only [Ex.thnH, Ex.inBlockH, ↓reduceIte, Nat.reduceEqDiff]
 refine ⟨[_], ⟨rfl, trivial⟩, G, Le.trans lhA hl11, ?_, rfl⟩
 show Value.bool _ = Value.bool _
 congr 1
 unfold farW
 rw [decide_eq_false hin]
theorem tell1_ok (G : Hp) (b bx : Nat) (hbx : G bx = some (.cells #[.pointer (some ⟨b, 0, none⟩)] 27)) (w : Wr) : CallH Try.prog 29 #[.agg w.c.toArray, .pointer (some ⟨bx, 0, none⟩)] G (fun v G' => v = .bool (farW w) ∧ G' = G) := by
  by_cases hin : 0 ≤ w.t ∧ w.t < 4
  · exact tell1i_ok G b bx hbx w hin
  · exact tell1o_ok G b bx hbx w hin
theorem take_snocA {α : Type} [Inhabited α] {l : List α} {k : Nat} (h : k < l.length) : l.take (k + 1) = l.take k ++ [l.getD k default] := by
  rw [List.take_add_one, List.getElem?_eq_getElem h, List.getD_eq_getElem?_getD, List.getElem?_eq_getElem h]; rfl
set_option maxRecDepth 100000 in
set_option maxHeartbeats 1000000 in
theorem indexW_ok (H : Hp) (a : Option Addr) (cap : Nat) (l : List Wr) (hv : Holds H 4 (.slice a l.length cap) l.length (wrs l)) (gf : Fn) (ga gb : Array Value) (P : Wr → Bool) (hP : ∀ k, ValH Try.prog (.func gf ga gb) #[.agg k.c.toArray] H (fun v H' => v = .bool (P k) ∧ H' = H)) (hl : l.length ≤ 1000000) :
 CallH Try.prog 47 #[.slice a l.length cap, .func gf ga gb] H (fun v H' => H' = H ∧ ∃ ix : Int, v = .int .i64 ix ∧ ((0 ≤ ix ∧ l.any P = true) ∨ (ix = -1 ∧ l.any P = false))) := by
 refine zaD (l := [_, _]) (rl := [.tmp 4]) (n := 19) Try.func47 rfl rfl rfl rfl rfl ?_
 simp only [envOf, Nat.reduceAdd]
 refine zad (fun K1 hK1 => ?_)
 refine zab ?_
 refine zaE rfl ?_
 refine zae ?_
 try simp only [Ex.thnH, Ex.inBlockH, ↓reduceIte, Nat.reduceEqDiff]
 refine hK1 _ _ ?_; try clear hK1 K1
 refine zad (fun K2 hK2 => ?_)
 refine zad (fun K3 hK3 => ?_)
 refine zab ?_
 refine zaj rfl ?_
 refine zac (fun K hK r => ?_)
 simp only [zaG, l_len, List.map_toArray, List.map_cons, List.map_nil, zaH _ _ Try.underlying29, eX, ↓reduceIte, Nat.reduceEqDiff, Int.reduceToNat]
 refine hK _ _ ?_; clear hK K
 refine zaj rfl ?_
 refine zae ?_
 try simp only [Ex.thnH, Ex.inBlockH, ↓reduceIte, Nat.reduceEqDiff]
 refine hK3 _ _ ?_; try clear hK3 K3
 refine CW_block ?_
 refine CW_loop (fun m e H_ => ∃ k : Nat, k ≤ l.length ∧ m = l.length - k ∧ (l.take k).any P = false ∧ H_ = H ∧ Env.has [(0, .slice a l.length cap), (1, .func gf ga gb), (7, .int .i64 l.length), (8, .int .i64 k)] e) (l.length) ?_ ?_
 ·skip
  exact ⟨0, by omega, by omega, by simp, rfl, rfl, rfl, rfl, rfl, trivial⟩
 intro m_ e_ H_ hI_
 obtain ⟨k, hk, rfl, hno, hH_, he⟩ := hI_
 have hH_ := hH_.symm; subst hH_
 refine CW_env he.sub ?_; clear he e_
 refine zad (fun K4 hK4 => ?_)
 refine zab ?_
 refine zac (fun K hK r => ?_)
 simp (disch := (first | omega | decide)) only [zaM, zaN, b_lss, zat, zau, zav, zax, zaz, zay, Bool.not_true, Bool.not_false, eX, ↓reduceIte, Nat.reduceEqDiff, Int.reduceToNat]
 refine hK _ _ ?_; clear hK K
 refine zae ?_
 try simp only [Ex.thnH, Ex.inBlockH, ↓reduceIte, Nat.reduceEqDiff]
 refine hK4 _ _ ?_; try clear hK4 K4
 refine zad (fun K5 hK5 => ?_)
 refine CW_cond (fun r => rfl) (fun c9 => ?_) (fun c9 => ?_)
 ·first
  |(exfalso; exact cnA c9; done)
  |skip
   (try simp only [decide_eq_true_eq, decide_eq_false_iff_not, Bool.not_eq_true, Bool.not_eq_false, Bool.and_eq_true, Bool.or_eq_true, Bool.or_eq_false_iff, Bool.not_eq_eq_eq_not, Bool.not_true, Bool.not_false] at c9)
   obtain ⟨bw, ow, cw, Tw, Fw, ew, hbw, hsw, atw⟩ := hv.at (by omega)
   refine CW_skip ?_
   try simp only [Ex.thnH, Ex.inBlockH, ↓reduceIte, Nat.reduceEqDiff]
   refine hK5 _ _ ?_; try clear hK5 K5
   refine zad (fun K6 hK6 => ?_)
   refine CW_block ?_
   refine zad (fun K7 hK7 => ?_)
   refine zab ?_
   refine zaj rfl ?_
   refine zaE rfl ?_
   refine zae ?_
   try simp only [Ex.thnH, Ex.inBlockH, ↓reduceIte, Nat.reduceEqDiff]
   refine hK7 _ _ ?_; try clear hK7 K7
   refine zad (fun K8 hK8 => ?_)
   refine zab ?_
   refine zaj rfl ?_
   refine zaj rfl ?_
   refine zaj rfl ?_
   refine zac (fun K hK r => ?_)
   simp only [zaF, eX, ↓reduceIte, Nat.reduceEqDiff, Int.reduceToNat]
   refine Lt_indexSof Try.underlying29 sz46 ew ixA ixA ?_
   try simp only [Int.toNat_natCast]
   refine hK _ _ ?_; clear hK K
   refine zac (fun K hK r => ?_)
   simp only [zas, eX, ↓reduceIte, Nat.reduceEqDiff, Int.reduceToNat]
   refine Lt_loadAtA Try.underlying46 rfl sz46 hbw (by omega) ?_
   rw [ext_at Wr.len atw rfl k (by omega) hsw]
   refine hK _ _ ?_; clear hK K
   refine zac (fun K hK r => ?_)
   simp only [x_call, List.map_toArray, List.map_cons, List.map_nil, eX, ↓reduceIte, Nat.reduceEqDiff, Int.reduceToNat]
   show ValH _ _ _ _ _
   refine (hP (l.getD k default)).mono ?_
   rintro v H' ⟨rfl, hq⟩
   have hq := hq.symm
   subst hq
   try simp only [eX, ↓reduceIte, Nat.reduceEqDiff, Int.reduceToNat]
   refine hK _ _ ?_; clear hK K
   refine zae ?_
   try simp only [Ex.thnH, Ex.inBlockH, ↓reduceIte, Nat.reduceEqDiff]
   refine hK8 _ _ ?_; try clear hK8 K8
   refine CW_cond (fun r => rfl) (fun c16 => ?_) (fun c16 => ?_)
   ·first
    |(exfalso; exact cnA c16; done)
    |skip
     (try simp only [decide_eq_true_eq, decide_eq_false_iff_not, Bool.not_eq_true, Bool.not_eq_false, Bool.and_eq_true, Bool.or_eq_true, Bool.or_eq_false_iff, Bool.not_eq_eq_eq_not, Bool.not_true, Bool.not_false] at c16)
     refine zad (fun K9 hK9 => ?_)
     refine zab ?_
     refine zaj rfl ?_
     refine zaE rfl ?_
     refine zae ?_
     try simp only [Ex.thnH, Ex.inBlockH, ↓reduceIte, Nat.reduceEqDiff]
     refine hK9 _ _ ?_; try clear hK9 K9
     refine CW_ret ?_
     try simp only [Ex.thnH, Ex.inBlockH, ↓reduceIte, Nat.reduceEqDiff]
     refine ⟨[_], ⟨rfl, trivial⟩, _, Le.refl _, rfl, _, rfl, .inl ⟨by omega, ?_⟩⟩
     rw [List.any_eq_true]
     refine ⟨l.getD k default, ?_, c16⟩
     rw [List.getD_eq_getElem?_getD, List.getElem?_eq_getElem (by omega)]
     exact List.getElem_mem (by omega)
   ·first
    |(exfalso; exact cnA c16; done)
    |skip
     (try simp only [decide_eq_true_eq, decide_eq_false_iff_not, Bool.not_eq_true, Bool.not_eq_false, Bool.and_eq_true, Bool.or_eq_true, Bool.or_eq_false_iff, Bool.not_eq_eq_eq_not, Bool.not_true, Bool.not_false] at c16)
     refine CW_skip ?_
     try simp only [Ex.thnH, Ex.inBlockH, ↓reduceIte, Nat.reduceEqDiff]
     refine hK6 _ _ ?_; try clear hK6 K6
     refine zab ?_
     refine zac (fun K hK r => ?_)
     simp (disch := (first | omega | decide)) only [zaM, zaN, b_add, zaI, zaL, zaK, wrap_u8, eX, ↓reduceIte, Nat.reduceEqDiff, Int.reduceToNat]
     refine hK _ _ ?_; clear hK K
     refine zaj rfl ?_
     refine zae ?_
     try simp only [Ex.thnH, Ex.inBlockH, ↓reduceIte, Nat.reduceEqDiff]
     refine ⟨l.length - (k + 1), by omega, k + 1, by omega, rfl, ?_, rfA, rfl, rfl, rfl, rfl, trivial⟩
     rw [take_snocA (by omega), List.any_append, hno]
     simp only [List.any_cons, List.any_nil, Bool.or_false, Bool.false_or]
     exact c16
 ·first
  |(exfalso; exact cnA c9; done)
  |skip
   (try simp only [decide_eq_true_eq, decide_eq_false_iff_not, Bool.not_eq_true, Bool.not_eq_false, Bool.and_eq_true, Bool.or_eq_true, Bool.or_eq_false_iff, Bool.not_eq_eq_eq_not, Bool.not_true, Bool.not_false] at c9)
   have hkn : k = l.length := by omega
   refine CW_exit ?_
   try simp only [Ex.thnH, Ex.inBlockH, ↓reduceIte, Nat.reduceEqDiff]
   refine hK2 _ _ ?_; try clear hK2 K2
   refine zad (fun K10 hK10 => ?_)
   refine zab ?_
   refine zaE rfl ?_
   refine zae ?_
   try simp only [Ex.thnH, Ex.inBlockH, ↓reduceIte, Nat.reduceEqDiff]
   refine hK10 _ _ ?_; try clear hK10 K10
   refine CW_ret ?_
   try simp only [Ex.thnH, Ex.inBlockH, ↓reduceIte, Nat.reduceEqDiff]
   subst hkn
   rw [List.take_length] at hno
   exact ⟨[_], ⟨rfl, trivial⟩, _, Le.refl _, rfl, _, rfl, .inr ⟨rfl, hno⟩⟩
set_option maxRecDepth 100000 in
set_option maxHeartbeats 1000000 in
theorem containsW_ok (H : Hp) (a : Option Addr) (cap : Nat) (l : List Wr) (hv : Holds H 4 (.slice a l.length cap) l.length (wrs l)) (gf : Fn) (ga gb : Array Value) (P : Wr → Bool) (hP : ∀ k, ValH Try.prog (.func gf ga gb) #[.agg k.c.toArray] H (fun v H' => v = .bool (P k) ∧ H' = H)) (hl : l.length ≤ 1000000) :
 CallH Try.prog 31 #[.slice a l.length cap, .func gf ga gb] H (fun v H' => v = .bool (l.any P) ∧ H' = H) := by
 refine zaD (l := [_, _]) (rl := [.tmp 4]) (n := 9) Try.func31 rfl rfl rfl rfl rfl ?_
 simp only [envOf, Nat.reduceAdd]
 refine zad (fun K1 hK1 => ?_)
 refine zab ?_
 refine zaE rfl ?_
 refine zae ?_
 try simp only [Ex.thnH, Ex.inBlockH, ↓reduceIte, Nat.reduceEqDiff]
 refine hK1 _ _ ?_; try clear hK1 K1
 refine zad (fun K2 hK2 => ?_)
 refine zab ?_
 refine zaj rfl ?_
 refine zaj rfl ?_
 refine zac (fun K hK r => ?_)
 simp only [zaP _ bd47, List.map_toArray, List.map_cons, List.map_nil, eX, ↓reduceIte, Nat.reduceEqDiff, Int.reduceToNat]
 refine (indexW_ok _ a cap l hv gf ga gb P hP hl).mono ?_
 rintro v H' ⟨hq, ix, rfl, hix⟩
 have hq := hq.symm
 subst hq
 try simp only [eX, ↓reduceIte, Nat.reduceEqDiff, Int.reduceToNat]
 refine hK _ _ ?_; clear hK K
 refine zac (fun K hK r => ?_)
 simp (disch := (first | omega | decide)) only [zaM, zaN, b_geq, zat, zau, zav, zax, zaz, zay, Bool.not_true, Bool.not_false, eX, ↓reduceIte, Nat.reduceEqDiff, Int.reduceToNat]
 refine hK _ _ ?_; clear hK K
 refine zaE rfl ?_
 refine zae ?_
 try simp only [Ex.thnH, Ex.inBlockH, ↓reduceIte, Nat.reduceEqDiff]
 refine hK2 _ _ ?_; try clear hK2 K2
 refine CW_ret ?_
 try simp only [Ex.thnH, Ex.inBlockH, ↓reduceIte, Nat.reduceEqDiff]
 refine ⟨[_], ⟨rfl, trivial⟩, _, Le.refl _, ?_, rfl⟩
 show Value.bool _ = Value.bool _
 congr 1
 rcases hix with ⟨h1, h2⟩ | ⟨h1, h2⟩
 ·rw [h2]; simp; omega
 ·rw [h2]; simp; omega
set_option maxRecDepth 100000 in
set_option maxHeartbeats 1000000 in
theorem tell_ok (G Q : Hp) (b : Nat) (E : Nat → List En) (h : StX (IX b E) G Q) (a : Option Addr) (cap : Nat) (L : List Wr) (hv : Holds G 4 (.slice a L.length cap) L.length (wrs L)) (n : Nat) (hE : SzE E n) (hn : n + L.length ≤ 100000) : CallH Try.prog 10 #[.pointer (some ⟨b, 0, none⟩), .slice a L.length cap] Q (fun v Q' => v = errV (if L.any farW then some 1 else none) ∧ StX (IX b (tellE E L)) G Q') := by
 refine zaD (l := [_, _]) (rl := [.tmp 4]) (n := 48) Try.func10 rfl rfl rfl rfl rfl ?_
 simp only [envOf, Nat.reduceAdd]
 have hGQ := h.old
 refine zad (fun K1 hK1 => ?_)
 refine zab ?_
 refine zac (fun K hK r => ?_)
 simp only [x_box, Value.cells, eX, ↓reduceIte, Nat.reduceEqDiff, Int.reduceToNat]
 intro b2 hb2
 have f2_G : G b2 = none := zam lhA hb2
 have f2_Q : Q b2 = none := zam lhA hb2
 have hS2 := h.put (b := b2) (.inl f2_Q) (.cells #[.pointer (some ⟨b, 0, none⟩)] 27)
 have l2G : Le G (G.upd b2 (.cells #[.pointer (some ⟨b, 0, none⟩)] 27)) := zao (Le.refl _) f2_G
 try simp only [eX, ↓reduceIte, Nat.reduceEqDiff, Int.reduceToNat]
 refine hK _ _ ?_; clear hK K
 refine zaE rfl ?_
 refine zae ?_
 try simp only [Ex.thnH, Ex.inBlockH, ↓reduceIte, Nat.reduceEqDiff]
 refine hK1 _ _ ?_; try clear hK1 K1
 refine zad (fun K2 hK2 => ?_)
 refine zab ?_
 refine zac (fun K hK r => ?_)
 simp only [x_makeFunc, List.map_toArray, List.map_cons, List.map_nil, eX, ↓reduceIte, Nat.reduceEqDiff, Int.reduceToNat]
 refine hK _ _ ?_; clear hK K
 refine zaE rfl ?_
 refine zae ?_
 try simp only [Ex.thnH, Ex.inBlockH, ↓reduceIte, Nat.reduceEqDiff]
 refine hK2 _ _ ?_; try clear hK2 K2
 refine zad (fun K3 hK3 => ?_)
 refine zad (fun K4 hK4 => ?_)
 refine zab ?_
 refine zac (fun K hK r => ?_)
 simp only [zas, eX, ↓reduceIte, Nat.reduceEqDiff, Int.reduceToNat]
 refine zag Try.underlying27 rfl hbA ldA ?_
 try simp only [eX, ↓reduceIte, Nat.reduceEqDiff, Int.reduceToNat]
 refine hK _ _ ?_; clear hK K
 refine zac (fun K hK r => ?_)
 simp only [zaM, zaN, g_bool, g_string, g_pointer, g_slice, g_map, g_func, g_nilFunc, g_iface, g_nil_iface, g_nil_r, g_nil_l, eX, ↓reduceIte, Nat.reduceEqDiff, Int.reduceToNat]
 rw [e_eql _ _ _ _ (by simp)]
 rw [q_equal]
 first | rw [q_ptr_nil _ _ _ Try.underlying27] | rw [q_nil_ptr _ _ _ Try.underlying27]
 try simp only [eX, ↓reduceIte, Nat.reduceEqDiff, Int.reduceToNat]
 refine hK _ _ ?_; clear hK K
 refine zaj rfl ?_
 (first | refine OW_split (d := 12) rfl (fun g12 => ?_) (fun g12 => ?_) | skip)
 all_goals try (exfalso; exact cnA g12)
 all_goals (try simp only [decide_eq_true_eq, decide_eq_false_iff_not, Bool.not_eq_true, Bool.not_eq_false, Bool.and_eq_true, Bool.or_eq_true, Bool.or_eq_false_iff, Bool.not_eq_eq_eq_not, Bool.not_true, Bool.not_false] at g12)
 all_goals
  try simp only [eX, ↓reduceIte, Nat.reduceEqDiff, Int.reduceToNat]
  first
  |refine zaq rfl (zaa (by decide)) rfl (fun K hK r => ?_)
   simp only [zaA, eX, ↓reduceIte, Nat.reduceEqDiff, Int.reduceToNat]
   refine hK _ _ ?_; clear hK K
  |refine zar rfl (zaa (by decide)) rfl ?_
   simp only [eX, ↓reduceIte, Nat.reduceEqDiff, Int.reduceToNat]
  first
  |refine zaq rfl (zaa (by decide)) rfl (fun K hK r => ?_)
   simp only [zaA, eX, ↓reduceIte, Nat.reduceEqDiff, Int.reduceToNat]
   refine hK _ _ ?_; clear hK K
  |refine zar rfl (zaa (by decide)) rfl ?_
   simp only [eX, ↓reduceIte, Nat.reduceEqDiff, Int.reduceToNat]
  first
  |refine zaq rfl (zaa (by decide)) rfl (fun K hK r => ?_)
   simp only [zaP _ bd31, List.map_toArray, List.map_cons, List.map_nil, eX, ↓reduceIte, Nat.reduceEqDiff, Int.reduceToNat]
   refine (containsW_ok _ a cap L (hv.le (Le.trans h.old lhA)) (.func 29) #[] #[.pointer (some ⟨b2, 0, none⟩)] farW (fun w => ValH_func bd29 (tell1_ok _ b b2 hbA w)) (by omega)).mono ?_
   rintro v H' ⟨rfl, hq⟩
   have hq := hq.symm
   subst hq
   try simp only [eX, ↓reduceIte, Nat.reduceEqDiff, Int.reduceToNat]
   refine hK _ _ ?_; clear hK K
  |refine zar rfl (zaa (by decide)) rfl ?_
   simp only [eX, ↓reduceIte, Nat.reduceEqDiff, Int.reduceToNat]
  refine zac (fun K hK r => ?_)
  simp only [x_pick, l_asBool, HL.ite_bool, if_true, if_false, Bool.false_eq_true, eX, ↓reduceIte, Nat.reduceEqDiff, Int.reduceToNat]
  refine hK _ _ ?_; clear hK K
  refine zae ?_
  try simp only [Ex.thnH, Ex.inBlockH, ↓reduceIte, Nat.reduceEqDiff]
  refine hK4 _ _ ?_; try clear hK4 K4
  refine CW_cond (fun r => rfl) (fun c16 => ?_) (fun c16 => ?_)
  ·first
   |(exfalso; exact cnA c16; done)
   |skip
    have hany : L.any farW = true := by simpa using c16
    refine zad (fun K5 hK5 => ?_)
    refine zab ?_
    refine zac (fun K hK r => ?_)
    simp only [x_makeInterface, i_makeInterface, Try.underlying61, zaf, eX, ↓reduceIte, Nat.reduceEqDiff, Int.reduceToNat]
    refine hK _ _ ?_; clear hK K
    refine zaE rfl ?_
    refine zae ?_
    try simp only [Ex.thnH, Ex.inBlockH, ↓reduceIte, Nat.reduceEqDiff]
    refine hK5 _ _ ?_; try clear hK5 K5
    refine CW_ret ?_
    try simp only [Ex.thnH, Ex.inBlockH, ↓reduceIte, Nat.reduceEqDiff]
    refine ⟨[_], ⟨rfl, trivial⟩, _, Le.refl _, ?_, ?_⟩
    ·rw [hany]; rfl
    ·unfold tellE
     rw [if_pos hany]
     exact hS2.less (zao (Le.refl _) f2_G)
  ·first
   |(exfalso; exact cnA c16; done)
   |skip
    have hany : L.any farW = false := by simpa using c16
    obtain ⟨G2, hG2⟩ : ∃ G2 : Hp, G2 = G.upd b2 (.cells #[.pointer (some ⟨b, 0, none⟩)] 27) := ⟨_, rfl⟩
    rw [← hG2] at hS2 l2G
    have hv2 := hv.le l2G
    have hg2 : G2 b2 = some (.cells #[.pointer (some ⟨b, 0, none⟩)] 27) := by rw [hG2]; exact zan _ _ _
    refine CW_skip ?_
    try simp only [Ex.thnH, Ex.inBlockH, ↓reduceIte, Nat.reduceEqDiff]
    refine hK3 _ _ ?_; try clear hK3 K3
    refine zad (fun K6 hK6 => ?_)
    refine zad (fun K7 hK7 => ?_)
    refine zab ?_
    refine zaj rfl ?_
    refine zac (fun K hK r => ?_)
    simp only [zaG, l_len, List.map_toArray, List.map_cons, List.map_nil, zaH _ _ Try.underlying29, eX, ↓reduceIte, Nat.reduceEqDiff, Int.reduceToNat]
    refine hK _ _ ?_; clear hK K
    refine zaj rfl ?_
    refine zae ?_
    try simp only [Ex.thnH, Ex.inBlockH, ↓reduceIte, Nat.reduceEqDiff]
    refine hK7 _ _ ?_; try clear hK7 K7
    refine CW_block ?_
    refine CW_loop (fun m e H_ => ∃ k : Nat, k ≤ L.length ∧ m = L.length - k ∧ StX (IX b ((L.take k).foldl stepE E)) G2 H_ ∧ Env.has [(2, .pointer (some ⟨b2, 0, none⟩)), (18, .slice a L.length cap), (19, .int .i64 L.length), (20, .int .i64 k)] e) (L.length) ?_ ?_
    ·skip
     exact ⟨0, by omega, by omega, hS2, rfl, rfl, rfl, rfl, trivial⟩
    intro m_ e_ H_ hI_
    obtain ⟨k, hk, rfl, hS_, he⟩ := hI_
    have hk2 := hS_.old _ _ hg2
    refine CW_env he.sub ?_; clear he e_
    refine zad (fun K8 hK8 => ?_)
    refine zab ?_
    refine zac (fun K hK r => ?_)
    simp (disch := (first | omega | decide)) only [zaM, zaN, b_lss, zat, zau, zav, zax, zaz, zay, Bool.not_true, Bool.not_false, eX, ↓reduceIte, Nat.reduceEqDiff, Int.reduceToNat]
    refine hK _ _ ?_; clear hK K
    refine zae ?_
    try simp only [Ex.thnH, Ex.inBlockH, ↓reduceIte, Nat.reduceEqDiff]
    refine hK8 _ _ ?_; try clear hK8 K8
    refine zad (fun K9 hK9 => ?_)
    refine CW_cond (fun r => rfl) (fun c21 => ?_) (fun c21 => ?_)
    ·first
     |(exfalso; exact cnA c21; done)
     |skip
      (try simp only [decide_eq_true_eq, decide_eq_false_iff_not, Bool.not_eq_true, Bool.not_eq_false, Bool.and_eq_true, Bool.or_eq_true, Bool.or_eq_false_iff, Bool.not_eq_eq_eq_not, Bool.not_true, Bool.not_false] at c21)
      obtain ⟨bw, ow, cw, Tw, Fw, ew, hbw, hsw, atw⟩ := (hv2.le hS_.old).at (by omega)
      obtain ⟨w, hw⟩ : ∃ w, w = L.getD k default := ⟨_, rfl⟩
      have hwm : w ∈ L := by rw [hw, List.getD_eq_getElem?_getD, List.getElem?_eq_getElem (by omega)]; exact List.getElem_mem (by omega)
      have hwf : farW w = false := by have := List.any_eq_false.1 hany w hwm; simpa using this
      have hwt : 0 ≤ w.t ∧ w.t < 4 := by simpa [farW] using hwf
      have htt : w.t.toNat < 4 := by omega
      have hsz := (SzE.fold hE (any_take hany k)).up (m := 100000) (by rw [List.length_take]; omega)
      have hll := hsz w.t.toNat htt
      refine CW_skip ?_
      try simp only [Ex.thnH, Ex.inBlockH, ↓reduceIte, Nat.reduceEqDiff]
      refine hK9 _ _ ?_; try clear hK9 K9
      refine zad (fun K10 hK10 => ?_)
      refine CW_block ?_
      refine zad (fun K11 hK11 => ?_)
      refine zab ?_
      refine zac (fun K hK r => ?_)
      simp only [zaF, eX, ↓reduceIte, Nat.reduceEqDiff, Int.reduceToNat]
      refine Lt_indexSof Try.underlying29 sz46 ew ixA ixA ?_
      try simp only [Int.toNat_natCast]
      refine hK _ _ ?_; clear hK K
      refine zac (fun K hK r => ?_)
      simp only [zas, eX, ↓reduceIte, Nat.reduceEqDiff, Int.reduceToNat]
      refine Lt_loadAtA Try.underlying46 rfl sz46 hbw (by omega) ?_
      rw [ext_at Wr.len atw rfl k (by omega) hsw, ← hw]
      refine hK _ _ ?_; clear hK K
      refine zac (fun K hK r => ?_)
      simp only [x_alloc, zr46, zaf, Value.cells, eX, ↓reduceIte, Nat.reduceEqDiff, Int.reduceToNat]
      intro b7 hb7
      try have n7_b2 : b2 ≠ b7 := zal hbA hb7
      try simp only [eX, ↓reduceIte, Nat.reduceEqDiff, Int.reduceToNat]
      refine hK _ _ ?_; clear hK K
      refine OW_op rfl (lt_none) (fun K hK r => ?_)
      simp only [x_store, eX, ↓reduceIte, Nat.reduceEqDiff, Int.reduceToNat]
      first | refine Lt_storeAll sz46 bdA hbA bdA plA (by decide) ?_ | refine Lt_storeAtA sz46 bdA hbA bdA plA (by decide) ?_
      try simp only [eX, ↓reduceIte, Nat.reduceEqDiff, Int.reduceToNat]
      refine hK _ _ ?_; clear hK K
      refine zae ?_
      try simp only [Ex.thnH, Ex.inBlockH, ↓reduceIte, Nat.reduceEqDiff]
      refine hK11 _ _ ?_; try clear hK11 K11
      refine zad (fun K12 hK12 => ?_)
      refine CW_drawE [1, 0, 0, 1, 0, 0, 0, 0] [0, 1, 2, 3, 4, 5, 6, 7] (by kernel_rfl) (by kernel_rfl) (fun R7 hR7 => ?_)
      apply TW_look rfl (zaa (by decide)) rfl
      ·intro r
       simp only [zas, eX, ↓reduceIte, Nat.reduceEqDiff]
       refine zag Try.underlying27 rfl hbA ldA ?_
       exact ⟨rfl, Le.refl _⟩
      simp only [eX, ↓reduceIte, Nat.reduceEqDiff, Int.reduceToNat]
      apply zah rfl (zaa (by decide)) rfl
      ·intro r
       simp only [zai, fa46_0, zaC, Nat.reduceAdd, Nat.zero_add, eX, ↓reduceIte, Nat.reduceEqDiff]
       exact ⟨rfl, Le.refl _⟩
      simp only [eX, ↓reduceIte, Nat.reduceEqDiff, Int.reduceToNat]
      apply zah rfl (zaa (by decide)) rfl
      ·intro r
       simp only [zai, fa44_0, zaC, Nat.reduceAdd, Nat.zero_add, eX, ↓reduceIte, Nat.reduceEqDiff]
       exact ⟨rfl, Le.refl _⟩
      simp only [eX, ↓reduceIte, Nat.reduceEqDiff, Int.reduceToNat]
      apply TW_look rfl (zaa (by decide)) rfl
      ·intro r
       simp only [zas, eX, ↓reduceIte, Nat.reduceEqDiff]
       refine zag Try.underlying3 rfl hbA ldA ?_
       exact ⟨rfl, Le.refl _⟩
      simp only [eX, ↓reduceIte, Nat.reduceEqDiff, Int.reduceToNat]
      apply zah rfl (zaa (by decide)) rfl
      ·intro r
       rw [zaQ _ _ rfl]
       exact ⟨rfl, Le.refl _⟩
      simp only [eX, ↓reduceIte, Nat.reduceEqDiff, Int.reduceToNat]
      apply zah rfl (zaa (by decide)) rfl
      ·intro r
       simp only [zai, fa74_0, zaC, Nat.reduceAdd, Nat.zero_add, eX, ↓reduceIte, Nat.reduceEqDiff]
       exact ⟨rfl, Le.refl _⟩
      simp only [eX, ↓reduceIte, Nat.reduceEqDiff, Int.reduceToNat]
      apply zah rfl (zaa (by decide)) rfl
      ·intro r
       simp only [zaF, eX, ↓reduceIte, Nat.reduceEqDiff]
       refine Lt_indexA Try.underlying72 sz71 ixA ixA ?_
       try simp only [zaC, Nat.mul_one, Nat.zero_add, Int.reduceToNat]
       exact ⟨rfl, Le.refl _⟩
      simp only [eX, ↓reduceIte, Nat.reduceEqDiff, Int.reduceToNat]
      apply zah rfl (zaa (by decide)) rfl
      ·intro r
       simp only [x_assign, eX, ↓reduceIte, Nat.reduceEqDiff]
       exact ⟨rfl, Le.refl _⟩
      simp only [eX, ↓reduceIte, Nat.reduceEqDiff, Int.reduceToNat]
      refine TW_nil ?_
      try simp only [Ex.thnH, Ex.inBlockH, ↓reduceIte, Nat.reduceEqDiff]
      refine hK12 _ _ ?_; try clear hK12 K12
      refine zad (fun K13 hK13 => ?_)
      refine zab ?_
      refine zaj rfl ?_
      refine zac (fun K hK r => ?_)
      simp only [zai, fa46_0, zaC, Nat.reduceAdd, Nat.zero_add, eX, ↓reduceIte, Nat.reduceEqDiff, Int.reduceToNat]
      refine hK _ _ ?_; clear hK K
      refine zac (fun K hK r => ?_)
      simp only [zai, fa44_1, zaC, Nat.reduceAdd, Nat.zero_add, eX, ↓reduceIte, Nat.reduceEqDiff, Int.reduceToNat]
      refine hK _ _ ?_; clear hK K
      refine zac (fun K hK r => ?_)
      simp only [zas, eX, ↓reduceIte, Nat.reduceEqDiff, Int.reduceToNat]
      refine zag Try.underlying3 rfl hbA ldA ?_
      try simp only [eX, ↓reduceIte, Nat.reduceEqDiff, Int.reduceToNat]
      refine hK _ _ ?_; clear hK K
      refine zac (fun K hK r => ?_)
      simp only [zaP _ bd32, List.map_toArray, List.map_cons, List.map_nil, eX, ↓reduceIte, Nat.reduceEqDiff, Int.reduceToNat]
      have hS7 := hS_.put (b := b7) (.inl hb7) (.cells w.c.toArray 46)
      have f7_G2 := zam hS_.old hb7
      refine (hS7.call1 (V := fun v => v = .tuple #[]) (fun F hF => ixdrop hF htt hll w.k)).mono ?_
      rintro v35 H35 ⟨rfl, hS35⟩
      have k35_b7 := hS35.old b7 _ (zan _ _ _)
      have k35_b2 := hS35.old b2 _ (by rw [zap _ _ n7_b2]; exact hg2)
      try simp only [eX, ↓reduceIte, Nat.reduceEqDiff, Int.reduceToNat]
      refine hK _ _ ?_; clear hK K
      refine zae ?_
      try simp only [Ex.thnH, Ex.inBlockH, ↓reduceIte, Nat.reduceEqDiff]
      refine hK13 _ _ ?_; try clear hK13 K13
      refine zad (fun K14 hK14 => ?_)
      refine zab ?_
      refine zac (fun K hK r => ?_)
      simp only [zai, fa46_2, zaC, Nat.reduceAdd, Nat.zero_add, eX, ↓reduceIte, Nat.reduceEqDiff, Int.reduceToNat]
      refine hK _ _ ?_; clear hK K
      refine zac (fun K hK r => ?_)
      simp only [zas, eX, ↓reduceIte, Nat.reduceEqDiff, Int.reduceToNat]
      refine zag Try.underlying4 rfl hbA ldA ?_
      try simp only [eX, ↓reduceIte, Nat.reduceEqDiff, Int.reduceToNat]
      refine hK _ _ ?_; clear hK K
      refine zac (fun K hK r => ?_)
      simp only [x_un, u_not, eX, ↓reduceIte, Nat.reduceEqDiff, Int.reduceToNat]
      refine hK _ _ ?_; clear hK K
      refine zae ?_
      try simp only [Ex.thnH, Ex.inBlockH, ↓reduceIte, Nat.reduceEqDiff]
      refine hK14 _ _ ?_; try clear hK14 K14
      refine CW_cond (fun r => rfl) (fun c38 => ?_) (fun c38 => ?_)
      ·first
       |(exfalso; exact cnA c38; done)
       |skip
        have hd : w.dead = false := by simpa using c38
        have hll2 : ((setL (List.foldl stepE E (List.take k L)) w.t.toNat (outK ((List.foldl stepE E (List.take k L)) w.t.toNat) w.k)) w.t.toNat).length ≤ 100000 := by unfold setL; rw [if_pos rfl]; exact Nat.le_trans (outK_len _ _) hll
        have hno : ∀ x ∈ (setL (List.foldl stepE E (List.take k L)) w.t.toNat (outK ((List.foldl stepE E (List.take k L)) w.t.toNat) w.k)) w.t.toNat, x.k ≠ w.k := by unfold setL; rw [if_pos rfl]; exact fun x hx => outK_no x hx
        refine zab ?_
        refine zaj rfl ?_
        refine zac (fun K hK r => ?_)
        simp only [zai, fa46_1, zaC, Nat.reduceAdd, Nat.zero_add, eX, ↓reduceIte, Nat.reduceEqDiff, Int.reduceToNat]
        refine hK _ _ ?_; clear hK K
        refine zac (fun K hK r => ?_)
        simp only [zas, eX, ↓reduceIte, Nat.reduceEqDiff, Int.reduceToNat]
        refine zag Try.underlying3 rfl hbA ldA ?_
        try simp only [eX, ↓reduceIte, Nat.reduceEqDiff, Int.reduceToNat]
        refine hK _ _ ?_; clear hK K
        refine zac (fun K hK r => ?_)
        simp only [zai, fa46_0, zaC, Nat.reduceAdd, Nat.zero_add, eX, ↓reduceIte, Nat.reduceEqDiff, Int.reduceToNat]
        refine hK _ _ ?_; clear hK K
        refine zac (fun K hK r => ?_)
        simp only [zai, fa44_1, zaC, Nat.reduceAdd, Nat.zero_add, eX, ↓reduceIte, Nat.reduceEqDiff, Int.reduceToNat]
        refine hK _ _ ?_; clear hK K
        refine zac (fun K hK r => ?_)
        simp only [zas, eX, ↓reduceIte, Nat.reduceEqDiff, Int.reduceToNat]
        refine zag Try.underlying3 rfl hbA ldA ?_
        try simp only [eX, ↓reduceIte, Nat.reduceEqDiff, Int.reduceToNat]
        refine hK _ _ ?_; clear hK K
        refine zac (fun K hK r => ?_)
        simp only [x_build, bp38, List.map_toArray, List.map_cons, List.map_nil, eX, ↓reduceIte, Nat.reduceEqDiff, Int.reduceToNat]
        rw [fill_one rfl clA bdA]
        rw [fill_one rfl clA bdA]
        simp only [fill_nil, zaf, List.setIfInBounds_toArray, List.set_cons_zero, List.set_cons_succ]
        try simp only [eX, ↓reduceIte, Nat.reduceEqDiff, Int.reduceToNat]
        refine hK _ _ ?_; clear hK K
        refine zac (fun K hK r => ?_)
        simp only [zaP _ bd33, List.map_toArray, List.map_cons, List.map_nil, eX, ↓reduceIte, Nat.reduceEqDiff, Int.reduceToNat]
        refine (hS35.call1 (V := fun v => v = .tuple #[]) (fun F hF => ixput hF htt hll2 ⟨w.v, w.k⟩ hno)).mono ?_
        rintro v46 H46 ⟨rfl, hS46⟩
        try simp only [eX, ↓reduceIte, Nat.reduceEqDiff, Int.reduceToNat]
        refine hK _ _ ?_; clear hK K
        refine zae ?_
        try simp only [Ex.thnH, Ex.inBlockH, ↓reduceIte, Nat.reduceEqDiff]
        refine hK10 _ _ ?_; try clear hK10 K10
        refine zab ?_
        refine zac (fun K hK r => ?_)
        simp (disch := (first | omega | decide)) only [zaM, zaN, b_add, zaI, zaL, zaK, wrap_u8, eX, ↓reduceIte, Nat.reduceEqDiff, Int.reduceToNat]
        refine hK _ _ ?_; clear hK K
        refine zaj rfl ?_
        refine zae ?_
        try simp only [Ex.thnH, Ex.inBlockH, ↓reduceIte, Nat.reduceEqDiff]
        first
        |refine ⟨L.length - (k + 1), by omega, k + 1, by omega, rfl, ?_, rfl, rfl, rfl, rfl, trivial⟩
        rw [foldl_take _ _ (by omega), ← hw]
        unfold stepE
        rw [hd]
        first
        |(simp only [Bool.false_eq_true, if_false]
          have h9 := hS46.less (H' := G2) (zao (Le.refl _) f7_G2)
          refine h9.imp (fun F hF => ?_)
          have e : setL (setL (List.foldl stepE E (List.take k L)) w.t.toNat (outK ((List.foldl stepE E (List.take k L)) w.t.toNat) w.k)) w.t.toNat (putE ((setL (List.foldl stepE E (List.take k L)) w.t.toNat (outK ((List.foldl stepE E (List.take k L)) w.t.toNat) w.k)) w.t.toNat) ⟨w.v, w.k⟩) = setL (List.foldl stepE E (List.take k L)) w.t.toNat (putE (outK ((List.foldl stepE E (List.take k L)) w.t.toNat) w.k) ⟨w.v, w.k⟩) := by
           funext u
           unfold setL
           split
           ·simp
           ·rfl
          rw [e] at hF
          exact hF)
        |(simp only [if_true]; exact hS35.less (H' := G2) (zao (Le.refl _) f7_G2))
      ·first
       |(exfalso; exact cnA c38; done)
       |skip
        have hd : w.dead = true := by simpa using c38
        refine CW_skip ?_
        try simp only [Ex.thnH, Ex.inBlockH, ↓reduceIte, Nat.reduceEqDiff]
        refine hK10 _ _ ?_; try clear hK10 K10
        refine zab ?_
        refine zac (fun K hK r => ?_)
        simp (disch := (first | omega | decide)) only [zaM, zaN, b_add, zaI, zaL, zaK, wrap_u8, eX, ↓reduceIte, Nat.reduceEqDiff, Int.reduceToNat]
        refine hK _ _ ?_; clear hK K
        refine zaj rfl ?_
        refine zae ?_
        try simp only [Ex.thnH, Ex.inBlockH, ↓reduceIte, Nat.reduceEqDiff]
        first
        |refine ⟨L.length - (k + 1), by omega, k + 1, by omega, rfl, ?_, rfl, rfl, rfl, rfl, trivial⟩
        rw [foldl_take _ _ (by omega), ← hw]
        unfold stepE
        rw [hd]
        first
        |(simp only [Bool.false_eq_true, if_false]
          have h9 := hS46.less (H' := G2) (zao (Le.refl _) f7_G2)
          refine h9.imp (fun F hF => ?_)
          have e : setL (setL (List.foldl stepE E (List.take k L)) w.t.toNat (outK ((List.foldl stepE E (List.take k L)) w.t.toNat) w.k)) w.t.toNat (putE ((setL (List.foldl stepE E (List.take k L)) w.t.toNat (outK ((List.foldl stepE E (List.take k L)) w.t.toNat) w.k)) w.t.toNat) ⟨w.v, w.k⟩) = setL (List.foldl stepE E (List.take k L)) w.t.toNat (putE (outK ((List.foldl stepE E (List.take k L)) w.t.toNat) w.k) ⟨w.v, w.k⟩) := by
           funext u
           unfold setL
           split
           ·simp
           ·rfl
          rw [e] at hF
          exact hF)
        |(simp only [if_true]; exact hS35.less (H' := G2) (zao (Le.refl _) f7_G2))
    ·first
     |(exfalso; exact cnA c21; done)
     |skip
      (try simp only [decide_eq_true_eq, decide_eq_false_iff_not, Bool.not_eq_true, Bool.not_eq_false, Bool.and_eq_true, Bool.or_eq_true, Bool.or_eq_false_iff, Bool.not_eq_eq_eq_not, Bool.not_true, Bool.not_false] at c21)
      obtain rfl : k = L.length := by omega
      refine CW_exit ?_
      try simp only [Ex.thnH, Ex.inBlockH, ↓reduceIte, Nat.reduceEqDiff]
      refine hK6 _ _ ?_; try clear hK6 K6
      refine zad (fun K15 hK15 => ?_)
      refine zab ?_
      refine zaE rfl ?_
      refine zae ?_
      try simp only [Ex.thnH, Ex.inBlockH, ↓reduceIte, Nat.reduceEqDiff]
      refine hK15 _ _ ?_; try clear hK15 K15
      refine CW_ret ?_
      try simp only [Ex.thnH, Ex.inBlockH, ↓reduceIte, Nat.reduceEqDiff]
      refine ⟨[_], ⟨rfl, trivial⟩, _, Le.refl _, ?_, ?_⟩
      ·rw [hany]; rfl
      ·unfold tellE
       rw [if_neg (by rw [hany]; simp)]
       rw [List.take_length] at hS_
       exact hS_.less l2G
end Go.Proofs.Ytjhohnbdhopllaa.HL
end
section
namespace Go.Proofs.Ytjhohnbdhopllaa.HL
open Go Go.Proofs
set_option linter.unusedSimpArgs false
set_option linter.unusedVariables false
attribute [local irreducible] Lt Lq CW OW TW CallH
set_option maxRecDepth 100000 in
set_option maxHeartbeats 1000000 in
theorem clnE_ok (H : Hp) (v : Value) (n : Nat) (cs : List Value) (hv : Holds H 2 v n cs) (hp : PlainL cs) (hn : n ≤ 1000000) : CallH Try.prog 34 #[v] H (fun v' H' => Le H H' ∧ ∃ rs, OwnS H' 38 2 v' n cs rs ∧ ∀ r, rs = some r → H r = none) := by
 refine zaD (l := [_]) (rl := [.tmp 2]) (n := 8) Try.func34 rfl rfl rfl rfl rfl ?_
 simp only [envOf, Nat.reduceAdd]
 obtain ⟨a, cap, rfl⟩ := hv.form
 refine zad (fun K1 hK1 => ?_)
 refine zab ?_
 refine zaE rfl ?_
 refine zae ?_
 try simp only [Ex.thnH, Ex.inBlockH, ↓reduceIte, Nat.reduceEqDiff]
 refine hK1 _ _ ?_; try clear hK1 K1
 refine zad (fun K2 hK2 => ?_)
 refine zad (fun K3 hK3 => ?_)
 refine zab ?_
 refine zaj rfl ?_
 refine zac (fun K hK r => ?_)
 simp only [zaM, zaN, g_bool, g_string, g_pointer, g_slice, g_map, g_func, g_nilFunc, g_iface, g_nil_iface, g_nil_r, g_nil_l, eX, ↓reduceIte, Nat.reduceEqDiff, Int.reduceToNat]
 rw [e_eql _ _ _ _ (by simp)]
 rw [q_equal, q_slice_nil _ _ _ Try.underlying33]
 try simp only [eX, ↓reduceIte, Nat.reduceEqDiff, Int.reduceToNat]
 refine hK _ _ ?_; clear hK K
 refine zae ?_
 try simp only [Ex.thnH, Ex.inBlockH, ↓reduceIte, Nat.reduceEqDiff]
 refine hK3 _ _ ?_; try clear hK3 K3
 refine CW_cond (fun r => rfl) (fun c4 => ?_) (fun c4 => ?_)
 ·first
  |(exfalso; exact cnA c4; done)
  |skip
   (try simp only [decide_eq_true_eq, decide_eq_false_iff_not, Bool.not_eq_true, Bool.not_eq_false, Bool.and_eq_true, Bool.or_eq_true, Bool.or_eq_false_iff, Bool.not_eq_eq_eq_not, Bool.not_true, Bool.not_false] at c4)
   refine zad (fun K4 hK4 => ?_)
   refine zab ?_
   refine zaE rfl ?_
   refine zae ?_
   try simp only [Ex.thnH, Ex.inBlockH, ↓reduceIte, Nat.reduceEqDiff]
   refine hK4 _ _ ?_; try clear hK4 K4
   refine CW_ret ?_
   try simp only [Ex.thnH, Ex.inBlockH, ↓reduceIte, Nat.reduceEqDiff]
   have ha : a = none := by cases a with
    |none => rfl
    |some A => simp at c4
   subst ha
   have h0 : cs = [] ∧ n = 0 := by
    obtain ⟨h1, ⟨_, _, h2, h3⟩ | ⟨b, o, c, _, _, _, h2, _⟩⟩ := hv
    ·subst h3; exact ⟨List.eq_nil_of_length_eq_zero (by omega), rfl⟩
    ·cases h2
   obtain ⟨rfl, rfl⟩ := h0
   exact ⟨[_], ⟨rfl, trivial⟩, _, Le.refl _, Le.refl _, none, OwnS.nil _ _ _, fun r hr => by cases hr⟩
 ·first
  |(exfalso; exact cnA c4; done)
  |skip
   (try simp only [decide_eq_true_eq, decide_eq_false_iff_not, Bool.not_eq_true, Bool.not_eq_false, Bool.and_eq_true, Bool.or_eq_true, Bool.or_eq_false_iff, Bool.not_eq_eq_eq_not, Bool.not_true, Bool.not_false] at c4)
   refine CW_skip ?_
   try simp only [Ex.thnH, Ex.inBlockH, ↓reduceIte, Nat.reduceEqDiff]
   refine hK2 _ _ ?_; try clear hK2 K2
   refine zad (fun K5 hK5 => ?_)
   refine zab ?_
   refine zac (fun K hK r => ?_)
   simp only [x_buildSlice, List.map_toArray, List.map_cons, List.map_nil, eX, ↓reduceIte, Nat.reduceEqDiff, Int.reduceToNat]
   refine Lt_buildSlice (vs := []) Try.underlying33 sz38 zr38 rfl bsA (by first | decide | (simp; done)) ?_
   simp only [List.flatMap_cons, List.flatMap_nil, Value.cells, List.append_nil, List.cons_append, List.nil_append, List.length_cons, List.length_nil, Nat.zero_add, Nat.reduceAdd]
   intro b5 hb5
   have f5_H : H b5 = none := zam lhA hb5
   try simp only [eX, ↓reduceIte, Nat.reduceEqDiff, Int.reduceToNat]
   refine hK _ _ ?_; clear hK K
   refine zaj rfl ?_
   refine zac (fun K hK r => ?_)
   simp only [zaG, l_append, List.map_toArray, List.map_cons, List.map_nil, eX, ↓reduceIte, Nat.reduceEqDiff, Int.reduceToNat]
   refine Lt_appendNew Try.underlying33 sz38 by38 (by decide) zr38 rfl _ hbA (hv.le lhA) (hp) (by omega) ?_
   intro v7 H7 rs7 hg7 ho7 hr7
   have lH7_H : Le H H7 := hg7.le (H0 := H) lhA (fun r hr => by cases hr; exact f5_H)
   refine hK _ _ ?_; clear hK K
   refine zaE rfl ?_
   refine zae ?_
   try simp only [Ex.thnH, Ex.inBlockH, ↓reduceIte, Nat.reduceEqDiff]
   refine hK5 _ _ ?_; try clear hK5 K5
   refine CW_ret ?_
   try simp only [Ex.thnH, Ex.inBlockH, ↓reduceIte, Nat.reduceEqDiff]
   exact ⟨[_], ⟨rfl, trivial⟩, _, Le.refl _, lH7_H, rs7, ho7, fun r hr => by
    rcases hr7 r hr with h | h
    ·subst h; exact f5_H
    ·exact zam lhA h⟩
end Go.Proofs.Ytjhohnbdhopllaa.HL
end
section
namespace Go.Proofs.Ytjhohnbdhopllaa.HL
open Go Go.Proofs
set_option linter.unusedSimpArgs false
set_option linter.unusedVariables false
attribute [local irreducible] Lt Lq CW OW TW CallH
abbrev TEn (l : List En) : Nat → List Value → Hp → Prop := Tpure (fun i => [.agg (l.getD i default).c.toArray])
set_option maxRecDepth 100000 in
set_option maxHeartbeats 1000000 in
theorem Values_ok (H : Hp) (a : Option Addr) (n cap : Nat) : CallH Try.prog 39 #[.slice a n cap] H (fun v' H' => ∃ b1, H b1 = none ∧ v' = .func (.func 53) #[] #[.pointer (some ⟨b1, 0, none⟩)] ∧ H' = H.upd b1 (.cells #[.slice a n cap] 33)) := by
 refine zaD (l := [_]) (rl := [.tmp 2]) (n := 4) Try.func39 rfl rfl rfl rfl rfl ?_
 simp only [envOf, Nat.reduceAdd]
 refine zad (fun K1 hK1 => ?_)
 refine zab ?_
 refine zac (fun K hK r => ?_)
 simp only [x_box, Value.cells, eX, ↓reduceIte, Nat.reduceEqDiff, Int.reduceToNat]
 intro b1 hb1
 have f1_H : H b1 = none := zam lhA hb1
 try simp only [eX, ↓reduceIte, Nat.reduceEqDiff, Int.reduceToNat]
 refine hK _ _ ?_; clear hK K
 refine zaE rfl ?_
 refine zae ?_
 try simp only [Ex.thnH, Ex.inBlockH, ↓reduceIte, Nat.reduceEqDiff]
 refine hK1 _ _ ?_; try clear hK1 K1
 refine zad (fun K2 hK2 => ?_)
 refine zab ?_
 refine zac (fun K hK r => ?_)
 simp only [x_makeFunc, List.map_toArray, List.map_cons, List.map_nil, eX, ↓reduceIte, Nat.reduceEqDiff, Int.reduceToNat]
 refine hK _ _ ?_; clear hK K
 refine zaE rfl ?_
 refine zae ?_
 try simp only [Ex.thnH, Ex.inBlockH, ↓reduceIte, Nat.reduceEqDiff]
 refine hK2 _ _ ?_; try clear hK2 K2
 refine CW_ret ?_
 try simp only [Ex.thnH, Ex.inBlockH, ↓reduceIte, Nat.reduceEqDiff]
 exact ⟨[_], ⟨rfl, trivial⟩, _, Le.refl _, b1, hb1, rfl, rfl⟩
set_option maxRecDepth 100000 in
set_option maxHeartbeats 4000000 in
theorem values1_ok (H0 : Hp) (b1 : Nat) (a : Option Addr) (cap : Nat) (l : List En) (hv : Holds H0 2 (.slice a l.length cap) l.length (ens l)) (h1 : H0 b1 = some (.cells #[.slice a l.length cap] 33)) (hl : l.length ≤ 1000000) (yf : Fn) (ya yb : Array Value) (J : Nat → Hp → Prop) (S : Hp → Prop) (H : Hp) (hle : ∀ i H, J i H → Le H0 H) (hy : ∀ i, i < l.length → ∀ H, J i H → ∀ args F, TEn l i args F → H.apart F → ValH Try.prog (.func yf ya yb) args.toArray (H.join F) (fun v H2 => ∃ H3, Le H3 H2 ∧ ((v = .bool true ∧ J (i + 1) H3) ∨ (v = .bool false ∧ S H3)))) (hj : J 0 H) :
 CallH Try.prog 53 #[.func yf ya yb, .pointer (some ⟨b1, 0, none⟩)] H (fun _ H2 => ∃ H3, Le H3 H2 ∧ (J l.length H3 ∨ S H3)) := by
 refine zaD (l := [_, _]) (rl := []) (n := 16) Try.func53 rfl rfl rfl rfl rfl ?_
 simp only [envOf, Nat.reduceAdd]
 have hk1 := hle 0 H hj _ _ h1
 refine zad (fun K1 hK1 => ?_)
 refine zab ?_
 refine zac (fun K hK r => ?_)
 simp only [zas, eX, ↓reduceIte, Nat.reduceEqDiff, Int.reduceToNat]
 refine zag Try.underlying33 rfl hbA ldA ?_
 try simp only [eX, ↓reduceIte, Nat.reduceEqDiff, Int.reduceToNat]
 refine hK _ _ ?_; clear hK K
 refine zac (fun K hK r => ?_)
 simp only [zaG, l_len, List.map_toArray, List.map_cons, List.map_nil, zaH _ _ Try.underlying33, eX, ↓reduceIte, Nat.reduceEqDiff, Int.reduceToNat]
 refine hK _ _ ?_; clear hK K
 refine zaj rfl ?_
 refine zae ?_
 try simp only [Ex.thnH, Ex.inBlockH, ↓reduceIte, Nat.reduceEqDiff]
 refine hK1 _ _ ?_; try clear hK1 K1
 refine CW_block ?_
 refine CW_loop (fun m e H_ => ∃ (k : Nat) (HJ : Hp), k ≤ l.length ∧ m = l.length - k ∧ J k HJ ∧ Le HJ H_ ∧ Env.has [(0, .func yf ya yb), (5, .slice a l.length cap), (6, .int .i64 l.length), (7, .int .i64 k)] e) (l.length) ?_ ?_
 ·skip
  exact ⟨0, H, by omega, by omega, hj, Le.refl _, rfl, rfl, rfl, rfl, trivial⟩
 intro m_ e_ H_ hI_
 obtain ⟨k, HJ, hk, rfl, hJ, hlJ, he⟩ := hI_
 have hl0 := Le.trans (hle k HJ hJ) hlJ
 refine CW_env he.sub ?_; clear he e_
 refine zad (fun K2 hK2 => ?_)
 refine zab ?_
 refine zac (fun K hK r => ?_)
 simp (disch := (first | omega | decide)) only [zaM, zaN, b_lss, zat, zau, zav, zax, zaz, zay, Bool.not_true, Bool.not_false, eX, ↓reduceIte, Nat.reduceEqDiff, Int.reduceToNat]
 refine hK _ _ ?_; clear hK K
 refine zae ?_
 try simp only [Ex.thnH, Ex.inBlockH, ↓reduceIte, Nat.reduceEqDiff]
 refine hK2 _ _ ?_; try clear hK2 K2
 refine zad (fun K3 hK3 => ?_)
 refine CW_cond (fun r => rfl) (fun c8 => ?_) (fun c8 => ?_)
 ·first
  |(exfalso; exact cnA c8; done)
  |skip
   (try simp only [decide_eq_true_eq, decide_eq_false_iff_not, Bool.not_eq_true, Bool.not_eq_false, Bool.and_eq_true, Bool.or_eq_true, Bool.or_eq_false_iff, Bool.not_eq_eq_eq_not, Bool.not_true, Bool.not_false] at c8)
   obtain ⟨bw, ow, cw, Tw, Fw, ew, hbw, hsw, atw⟩ := (hv.le hl0).at (by omega)
   refine CW_skip ?_
   try simp only [Ex.thnH, Ex.inBlockH, ↓reduceIte, Nat.reduceEqDiff]
   refine hK3 _ _ ?_; try clear hK3 K3
   refine zad (fun K4 hK4 => ?_)
   refine CW_block ?_
   refine zad (fun K5 hK5 => ?_)
   refine zab ?_
   refine zac (fun K hK r => ?_)
   simp only [zaF, eX, ↓reduceIte, Nat.reduceEqDiff, Int.reduceToNat]
   refine Lt_indexSof Try.underlying33 sz38 ew ixA ixA ?_
   try simp only [Int.toNat_natCast]
   refine hK _ _ ?_; clear hK K
   refine zac (fun K hK r => ?_)
   simp only [zas, eX, ↓reduceIte, Nat.reduceEqDiff, Int.reduceToNat]
   refine Lt_loadAtA Try.underlying38 rfl sz38 hbw (by omega) ?_
   rw [ext_at En.len atw rfl k (by omega) hsw]
   refine hK _ _ ?_; clear hK K
   refine zac (fun K hK r => ?_)
   simp only [x_alloc, zr38, zaf, Value.cells, eX, ↓reduceIte, Nat.reduceEqDiff, Int.reduceToNat]
   intro b4 hb4
   try simp only [eX, ↓reduceIte, Nat.reduceEqDiff, Int.reduceToNat]
   refine hK _ _ ?_; clear hK K
   refine OW_op rfl (lt_none) (fun K hK r => ?_)
   simp only [x_store, eX, ↓reduceIte, Nat.reduceEqDiff, Int.reduceToNat]
   first | refine Lt_storeAll sz38 bdA hbA bdA plA (by decide) ?_ | refine Lt_storeAtA sz38 bdA hbA bdA plA (by decide) ?_
   try simp only [eX, ↓reduceIte, Nat.reduceEqDiff, Int.reduceToNat]
   refine hK _ _ ?_; clear hK K
   refine zae ?_
   try simp only [Ex.thnH, Ex.inBlockH, ↓reduceIte, Nat.reduceEqDiff]
   refine hK5 _ _ ?_; try clear hK5 K5
   refine zad (fun K6 hK6 => ?_)
   refine zab ?_
   refine zaj rfl ?_
   refine zac (fun K hK r => ?_)
   simp only [zas, eX, ↓reduceIte, Nat.reduceEqDiff, Int.reduceToNat]
   first | refine Lt_loadAll Try.underlying38 rfl sz38 hbA bdA ?_ | refine Lt_loadAtA Try.underlying38 rfl sz38 hbA bdA ?_
   try simp only [List.extract_toArray, List.extract_eq_take_drop, Nat.zero_add, Nat.reduceAdd, Nat.reduceSub, Nat.sub_zero, List.drop_succ_cons, List.drop_zero, List.take_succ_cons, List.take_zero, List.take_nil, List.drop_nil]
   try simp only [eX, ↓reduceIte, Nat.reduceEqDiff, Int.reduceToNat]
   refine hK _ _ ?_; clear hK K
   refine zac (fun K hK r => ?_)
   simp only [x_call, List.map_toArray, List.map_cons, List.map_nil, eX, ↓reduceIte, Nat.reduceEqDiff, Int.reduceToNat]
   show ValH _ _ _ _ _
   refine (Iter.yield0 (hy k (by omega) HJ hJ _ emptyHp ⟨rfl, rfl⟩ (apart_empty _)) (zao hlJ (zam hlJ hb4))).mono ?_
   rintro v13 H13 ⟨t, H3, rfl, hl3, hyes, hno, _⟩
   try simp only [eX, ↓reduceIte, Nat.reduceEqDiff, Int.reduceToNat]
   refine hK _ _ ?_; clear hK K
   refine zac (fun K hK r => ?_)
   simp only [x_un, u_not, eX, ↓reduceIte, Nat.reduceEqDiff, Int.reduceToNat]
   refine hK _ _ ?_; clear hK K
   refine zae ?_
   try simp only [Ex.thnH, Ex.inBlockH, ↓reduceIte, Nat.reduceEqDiff]
   refine hK6 _ _ ?_; try clear hK6 K6
   refine CW_cond (fun r => rfl) (fun c14 => ?_) (fun c14 => ?_)
   ·first
    |(exfalso; exact cnA c14; done)
    |skip
     have q14 := c14
     refine CW_ret ?_
     try simp only [Ex.thnH, Ex.inBlockH, ↓reduceIte, Nat.reduceEqDiff]
     exact ⟨[], trivial, _, Le.refl _, H3, hl3, .inr (hno (by simpa using q14))⟩
   ·first
    |(exfalso; exact cnA c14; done)
    |skip
     have ht : t = true := by simpa using c14
     have hJ3 := hyes ht
     refine CW_skip ?_
     try simp only [Ex.thnH, Ex.inBlockH, ↓reduceIte, Nat.reduceEqDiff]
     refine hK4 _ _ ?_; try clear hK4 K4
     refine zab ?_
     refine zac (fun K hK r => ?_)
     simp (disch := (first | omega | decide)) only [zaM, zaN, b_add, zaI, zaL, zaK, wrap_u8, eX, ↓reduceIte, Nat.reduceEqDiff, Int.reduceToNat]
     refine hK _ _ ?_; clear hK K
     refine zaj rfl ?_
     refine zae ?_
     try simp only [Ex.thnH, Ex.inBlockH, ↓reduceIte, Nat.reduceEqDiff]
     exact ⟨l.length - (k + 1), by omega, k + 1, H3, by omega, rfl, hJ3, hl3, rfl, rfl, rfl, rfl, trivial⟩
 ·first
  |(exfalso; exact cnA c8; done)
  |skip
   (try simp only [decide_eq_true_eq, decide_eq_false_iff_not, Bool.not_eq_true, Bool.not_eq_false, Bool.and_eq_true, Bool.or_eq_true, Bool.or_eq_false_iff, Bool.not_eq_eq_eq_not, Bool.not_true, Bool.not_false] at c8)
   have hkN : k = l.length := by omega
   refine CW_exit ?_
   try simp only [Ex.thnH, Ex.inBlockH, ↓reduceIte, Nat.reduceEqDiff]
   subst hkN
   exact ⟨[], trivial, _, Le.refl _, HJ, hlJ, .inl hJ⟩
theorem iter_vals (H0 : Hp) (b1 : Nat) (a : Option Addr) (cap : Nat) (l : List En) (hv : Holds H0 2 (.slice a l.length cap) l.length (ens l)) (h1 : H0 b1 = some (.cells #[.slice a l.length cap] 33)) (hl : l.length ≤ 1000000) : Iter Try.prog (.func (.func 53) #[] #[.pointer (some ⟨b1, 0, none⟩)]) H0 l.length (TEn l) :=
  fun yf ya yb J S H hle hy hj => ValH_func bd53 (values1_ok H0 b1 a cap l hv h1 hl yf ya yb J S H hle hy hj)
theorem XV.tab_nil {K : Hp} {x : Value} {E : Nat → List En} (h : XV K x E) {t : Int} (hn : (!XNil x && decide (0 ≤ t ∧ t < 4)) = false) : tabE E t = [] := by
  unfold tabE
  split
  · rename_i ht
    rcases h with ⟨rfl, hE⟩ | ⟨b, rfl, _⟩
    · exact hE _
    · rw [decide_eq_true ht] at hn; cases hn
  · rfl
def Seq (G G' : Hp) (v : Value) (l : List En) : Prop := Le G G' ∧ ∃ N, Le N G' ∧ (∀ b, N b ≠ none → G b = none) ∧ Iter Try.prog v N l.length (TEn l)
theorem seq_of {G G1 : Hp} {s : Value} {l : List En} {rs : Option Nat} (hl : Le G G1) (ho : OwnS G1 38 2 s l.length (ens l) rs) (hr : ∀ r, rs = some r → G r = none) (hn : l.length ≤ 1000000) : CallH Try.prog 39 #[s] G1 (fun v G' => Seq G G' v l) := by
  obtain ⟨a, cap, rfl⟩ := ho.holds.form
  refine (Values_ok G1 a l.length cap).mono ?_
  rintro v G' ⟨b1, hb1, rfl, rfl⟩
  refine ⟨zao hl (zam hl hb1), ?_⟩
  rcases Nat.eq_zero_or_pos l.length with h0 | h0
  · refine ⟨emptyHp.upd b1 (.cells #[.slice a l.length cap] 33), ?_, ?_, iter_vals _ b1 a cap l ⟨by rw [ens_len], .inl ⟨a, cap, by rw [h0], h0⟩⟩ (zan _ _ _) hn⟩
    · intro x o hx
      by_cases e : x = b1
      · subst e; rw [zan] at hx ⊢; exact hx
      · rw [zap _ _ e] at hx; cases hx
    · intro x hx
      by_cases e : x = b1
      · subst e; exact zam hl hb1
      · rw [zap _ _ e] at hx; exact absurd rfl hx
  · obtain ⟨r, o, hrs, hro, hof⟩ := ho.frag h0
    have hr1 : r ≠ b1 := zal hro hb1
    have hlN : Le (emptyHp.upd r o) ((emptyHp.upd r o).upd b1 (.cells #[.slice a l.length cap] 33)) := zao (Le.refl _) (by rw [zap _ _ (Ne.symm hr1)]; rfl)
    refine ⟨(emptyHp.upd r o).upd b1 (.cells #[.slice a l.length cap] 33), ?_, ?_, iter_vals _ b1 a cap l (hof.holds.le hlN) (zan _ _ _) hn⟩
    · intro x o' hx
      by_cases e : x = b1
      · subst e; rw [zan] at hx ⊢; exact hx
      · rw [zap _ _ e] at hx ⊢
        by_cases e2 : x = r
        · subst e2; rw [zan] at hx; cases hx; exact hro
        · rw [zap _ _ e2] at hx; cases hx
    · intro x hx
      by_cases e : x = b1
      · subst e; exact zam hl hb1
      · rw [zap _ _ e] at hx
        by_cases e2 : x = r
        · subst e2; exact hr _ hrs
        · rw [zap _ _ e2] at hx; exact absurd rfl hx
set_option maxRecDepth 100000 in
set_option maxHeartbeats 1000000 in
theorem between_ok (G : Hp) (x : Value) (E : Nat → List En) (h : XV G x E) (t lo hi : Int) (hi1 : -9223372036854775808 ≤ hi) (hi2 : hi ≤ 9223372036854775807) (hn : (tabE E t).length ≤ 100000) (ho : OkE (tabE E t)) : CallH Try.prog 15 #[x, .int .i64 t, .int .i64 lo, .int .i64 hi] G (fun v G' => Seq G G' v (betE (tabE E t) lo hi)) := by
 refine zaD (l := [_, _, _, _]) (rl := [.tmp 8]) (n := 38) Try.func15 rfl rfl rfl rfl rfl ?_
 simp only [envOf, Nat.reduceAdd]
 refine zad (fun K1 hK1 => ?_)
 refine zab ?_
 refine zaE rfl ?_
 refine zae ?_
 try simp only [Ex.thnH, Ex.inBlockH, ↓reduceIte, Nat.reduceEqDiff]
 refine hK1 _ _ ?_; try clear hK1 K1
 refine zad (fun K2 hK2 => ?_)
 refine zab ?_
 refine zaE rfl ?_
 refine zae ?_
 try simp only [Ex.thnH, Ex.inBlockH, ↓reduceIte, Nat.reduceEqDiff]
 refine hK2 _ _ ?_; try clear hK2 K2
 refine zad (fun K3 hK3 => ?_)
 refine zad (fun K4 hK4 => ?_)
 refine zab ?_
 refine zaj rfl ?_
 refine zaj rfl ?_
 refine zac (fun K hK r => ?_)
 simp only [zaP _ bd30, List.map_toArray, List.map_cons, List.map_nil, eX, ↓reduceIte, Nat.reduceEqDiff, Int.reduceToNat]
 refine (ixpart h t).mono ?_
 rintro v15 H15 ⟨hl15, pb, po, rfl, hpa⟩
 obtain ⟨pc, pT, ps, hpb, hps, hph, hpg, sa, sc, rfl, hcp⟩ := hpa
 have hps0 : pc[po + 0]? = some _ := hps
 try simp only [eX, ↓reduceIte, Nat.reduceEqDiff, Int.reduceToNat]
 refine hK _ _ ?_; clear hK K
 refine zaj rfl ?_
 refine zac (fun K hK r => ?_)
 simp only [x_extract, i_extract, List.getElem?_toArray, List.getElem?_cons_zero, List.getElem?_cons_succ, zaf, eX, ↓reduceIte, Nat.reduceEqDiff, Int.reduceToNat]
 refine hK _ _ ?_; clear hK K
 refine zac (fun K hK r => ?_)
 simp only [x_extract, i_extract, List.getElem?_toArray, List.getElem?_cons_zero, List.getElem?_cons_succ, zaf, eX, ↓reduceIte, Nat.reduceEqDiff, Int.reduceToNat]
 refine hK _ _ ?_; clear hK K
 refine zaE rfl ?_
 refine zaE rfl ?_
 refine zae ?_
 try simp only [Ex.thnH, Ex.inBlockH, ↓reduceIte, Nat.reduceEqDiff]
 refine hK4 _ _ ?_; try clear hK4 K4
 refine zad (fun K5 hK5 => ?_)
 refine zab ?_
 refine zaj rfl ?_
 refine zaj rfl ?_
 (first | refine OW_split (d := 19) rfl (fun g19 => ?_) (fun g19 => ?_) | skip)
 all_goals try (exfalso; exact cnA g19)
 all_goals (try simp only [decide_eq_true_eq, decide_eq_false_iff_not, Bool.not_eq_true, Bool.not_eq_false, Bool.and_eq_true, Bool.or_eq_true, Bool.or_eq_false_iff, Bool.not_eq_eq_eq_not, Bool.not_true, Bool.not_false] at g19)
 all_goals
  try simp only [eX, ↓reduceIte, Nat.reduceEqDiff, Int.reduceToNat]
  first
  |refine zaq rfl (zaa (by decide)) rfl (fun K hK r => ?_)
   simp only [zaA, eX, ↓reduceIte, Nat.reduceEqDiff, Int.reduceToNat]
   refine hK _ _ ?_; clear hK K
  |refine zar rfl (zaa (by decide)) rfl ?_
   simp only [eX, ↓reduceIte, Nat.reduceEqDiff, Int.reduceToNat]
  first
  |refine zaq rfl (zaa (by decide)) rfl (fun K hK r => ?_)
   simp only [zaA, eX, ↓reduceIte, Nat.reduceEqDiff, Int.reduceToNat]
   refine hK _ _ ?_; clear hK K
  |refine zar rfl (zaa (by decide)) rfl ?_
   simp only [eX, ↓reduceIte, Nat.reduceEqDiff, Int.reduceToNat]
  first
  |refine zaq rfl (zaa (by decide)) rfl (fun K hK r => ?_)
   simp (disch := (first | omega | decide)) only [zaM, zaN, b_leq, zat, zau, zav, zax, zaz, zay, Bool.not_true, Bool.not_false, eX, ↓reduceIte, Nat.reduceEqDiff, Int.reduceToNat]
   refine hK _ _ ?_; clear hK K
  |refine zar rfl (zaa (by decide)) rfl ?_
   simp only [eX, ↓reduceIte, Nat.reduceEqDiff, Int.reduceToNat]
  refine zac (fun K hK r => ?_)
  simp only [x_pick, l_asBool, HL.ite_bool, if_true, if_false, Bool.false_eq_true, eX, ↓reduceIte, Nat.reduceEqDiff, Int.reduceToNat]
  refine hK _ _ ?_; clear hK K
  refine zae ?_
  try simp only [Ex.thnH, Ex.inBlockH, ↓reduceIte, Nat.reduceEqDiff]
  refine hK5 _ _ ?_; try clear hK5 K5
  refine CW_cond (fun r => rfl) (fun c23 => ?_) (fun c23 => ?_)
  ·first
   |(exfalso; exact cnA c23; done)
   |skip
    have hlh : lo ≤ hi := by simp at c23; omega
    have hfb := from_beh hpg.rise ho hlh
    have hbc : behN (tabE E t) hi ≤ sc := Nat.le_trans (behN_le _ _) hcp
    obtain ⟨R4, hR4⟩ : ∃ R : Hp, R = emptyHp.upd pb (.cells pc pT) := ⟨_, rfl⟩
    refine CW_drawR [0, 0, 0, 1, 0, 0, 2, 0, 0, 2, 0, 2, 0] [0, 1, 2, 3, 4, 5, 6, 7, 8, 9, 10, 11, 12] R4 (by kernel_rfl) (by kernel_rfl) (by subst hR4; exact le_put (le_empty _) hbA) (fun lR4 => ?_)
    have hRb4 : R4 pb = some (.cells pc pT) := by rw [hR4]; exact zan _ _ _
    apply zah rfl (zaa (by decide)) rfl
    ·intro r
     simp only [zaA, eX, ↓reduceIte, Nat.reduceEqDiff]
     exact ⟨rfl, Le.refl _⟩
    simp only [eX, ↓reduceIte, Nat.reduceEqDiff, Int.reduceToNat]
    apply zah rfl (zaa (by decide)) rfl
    ·intro r
     rw [zaQ _ _ rfl]
     exact ⟨rfl, Le.refl _⟩
    simp only [eX, ↓reduceIte, Nat.reduceEqDiff, Int.reduceToNat]
    apply zah rfl (zaa (by decide)) rfl
    ·intro r
     simp only [zai, fa71_0, zaC, Nat.reduceAdd, Nat.zero_add, eX, ↓reduceIte, Nat.reduceEqDiff]
     exact ⟨rfl, Le.refl _⟩
    simp only [eX, ↓reduceIte, Nat.reduceEqDiff, Int.reduceToNat]
    apply TW_look rfl (zaa (by decide)) rfl
    ·intro r
     simp only [zas, eX, ↓reduceIte, Nat.reduceEqDiff]
     refine zag Try.underlying33 rfl hbA ldA ?_
     exact ⟨rfl, Le.refl _⟩
    simp only [eX, ↓reduceIte, Nat.reduceEqDiff, Int.reduceToNat]
    apply zah rfl (zaa (by decide)) rfl
    ·intro r
     simp only [zaA, eX, ↓reduceIte, Nat.reduceEqDiff]
     exact ⟨rfl, Le.refl _⟩
    simp only [eX, ↓reduceIte, Nat.reduceEqDiff, Int.reduceToNat]
    apply zah rfl (zaa (by decide)) rfl
    ·intro r
     simp only [zaA, eX, ↓reduceIte, Nat.reduceEqDiff]
     exact ⟨rfl, Le.refl _⟩
    simp only [eX, ↓reduceIte, Nat.reduceEqDiff, Int.reduceToNat]
    refine TW_chain rfl (zaa (by decide)) rfl (fun K hK r => ?_)
    simp only [zaP _ bd37, List.map_toArray, List.map_cons, List.map_nil, eX, ↓reduceIte, Nat.reduceEqDiff, Int.reduceToNat]
    refine (from_ok _ pb po pc pT ⟨_, 0, none, tabE E t⟩ hpb hps hph hpg.rise hn lo).mono ?_
    rintro v H' ⟨rfl, hq⟩
    have hq := hq.symm
    subst hq
    try simp only [eX, ↓reduceIte, Nat.reduceEqDiff, Int.reduceToNat]
    refine hK _ _ leA ?_; clear hK K
    apply zah rfl (zaa (by decide)) rfl
    ·intro r
     simp only [zaA, eX, ↓reduceIte, Nat.reduceEqDiff]
     exact ⟨rfl, Le.refl _⟩
    simp only [eX, ↓reduceIte, Nat.reduceEqDiff, Int.reduceToNat]
    apply zah rfl (zaa (by decide)) rfl
    ·intro r
     simp only [zaA, eX, ↓reduceIte, Nat.reduceEqDiff]
     exact ⟨rfl, Le.refl _⟩
    simp only [eX, ↓reduceIte, Nat.reduceEqDiff, Int.reduceToNat]
    refine TW_chain rfl (zaa (by decide)) rfl (fun K hK r => ?_)
    simp only [zaP _ bd38, List.map_toArray, List.map_cons, List.map_nil, eX, ↓reduceIte, Nat.reduceEqDiff, Int.reduceToNat]
    refine (behind_ok _ pb po pc pT ⟨_, 0, none, tabE E t⟩ hpb hps hph hpg.rise hn hi hi1 hi2).mono ?_
    rintro v H' ⟨rfl, hq⟩
    have hq := hq.symm
    subst hq
    try simp only [eX, ↓reduceIte, Nat.reduceEqDiff, Int.reduceToNat]
    refine hK _ _ leA ?_; clear hK K
    apply zah rfl (zaa (by decide)) rfl
    ·intro r
     simp only [x_slice, Option.map_some, Option.map_none, eX, ↓reduceIte, Nat.reduceEqDiff]
     refine Lt_sliceS Try.underlying33 sz38 zaO (bound_some (by have := behN_le (tabE E t) hi; omega)) (bound_some (by omega)) (by simpa using hfb) (by simpa using hbc) (Nat.le_refl _) (by simp) ?_
     exact ⟨rfl, Le.refl _⟩
    simp only [eX, ↓reduceIte, Nat.reduceEqDiff, Int.reduceToNat]
    refine TW_chain rfl (zaa (by decide)) rfl (fun K hK r => ?_)
    simp only [zaP _ bd34, List.map_toArray, List.map_cons, List.map_nil, eX, ↓reduceIte, Nat.reduceEqDiff, Int.reduceToNat]
    have hcut : ((ens (tabE E t)).drop (fromN (tabE E t) lo * 2)).take ((behN (tabE E t) hi - fromN (tabE E t) lo) * 2) = ens (betE (tabE E t) lo hi) := by rw [ens_drop, ens_take, betE_cut hpg.rise ho hlh]
    have hbl : behN (tabE E t) hi - fromN (tabE E t) lo = (betE (tabE E t) lo hi).length := by
     rw [← betE_cut hpg.rise ho hlh, List.length_take, List.length_drop]
     have := behN_le (tabE E t) hi
     omega
    have hsl := hph.slice hfb (behN_le _ _) hbc
    rw [hcut, hbl] at hsl
    refine (clnE_ok _ _ (betE (tabE E t) lo hi).length (ens (betE (tabE E t) lo hi)) ?_ (ens_plain _) (by have := betE_len (tabE E t) lo hi; omega)).mono ?_
    ·simp only [Int.toNat_natCast, hbl]
     exact hsl
    rintro v35 H35 ⟨hl35, rs, ho35, hr35⟩
    have lR4n : Le R4 H35 := Le.trans (by rw [hR4]; exact le_put (le_empty _) hpb) hl35
    try simp only [eX, ↓reduceIte, Nat.reduceEqDiff, Int.reduceToNat]
    refine hK _ _ leA ?_; clear hK K
    apply zah rfl (zaa (by decide)) rfl
    ·intro r
     simp only [x_assign, eX, ↓reduceIte, Nat.reduceEqDiff]
     exact ⟨rfl, Le.refl _⟩
    simp only [eX, ↓reduceIte, Nat.reduceEqDiff, Int.reduceToNat]
    refine TW_nil ?_
    try simp only [Ex.thnH, Ex.inBlockH, ↓reduceIte, Nat.reduceEqDiff]
    refine hK3 _ _ ?_; try clear hK3 K3
    refine zad (fun K6 hK6 => ?_)
    refine zab ?_
    refine zaj rfl ?_
    refine zac (fun K hK r => ?_)
    simp only [zaP _ bd39, List.map_toArray, List.map_cons, List.map_nil, eX, ↓reduceIte, Nat.reduceEqDiff, Int.reduceToNat]
    refine (seq_of (Le.trans hl15 hl35) ho35 (fun r hr => zam hl15 (hr35 r hr)) (by have := betE_len (tabE E t) lo hi; omega)).mono ?_
    rintro v37 H37 hq37
    try simp only [eX, ↓reduceIte, Nat.reduceEqDiff, Int.reduceToNat]
    refine hK _ _ ?_; clear hK K
    refine zaE rfl ?_
    refine zae ?_
    try simp only [Ex.thnH, Ex.inBlockH, ↓reduceIte, Nat.reduceEqDiff]
    refine hK6 _ _ ?_; try clear hK6 K6
    refine CW_ret ?_
    try simp only [Ex.thnH, Ex.inBlockH, ↓reduceIte, Nat.reduceEqDiff]
    exact ⟨[_], ⟨rfl, trivial⟩, _, Le.refl _, hq37⟩
  ·first
   |(exfalso; exact cnA c23; done)
   |skip
    have hno : ¬ lo ≤ hi ∨ tabE E t = [] := by
     by_cases hlh : lo ≤ hi
     ·refine .inr (h.tab_nil ?_)
      first
      |exact g19
      |(simp [hlh] at c23; done)
     ·exact .inl hlh
    refine CW_skip ?_
    try simp only [Ex.thnH, Ex.inBlockH, ↓reduceIte, Nat.reduceEqDiff]
    refine hK3 _ _ ?_; try clear hK3 K3
    refine zad (fun K7 hK7 => ?_)
    refine zab ?_
    refine zaj rfl ?_
    refine zac (fun K hK r => ?_)
    simp only [zaP _ bd39, List.map_toArray, List.map_cons, List.map_nil, eX, ↓reduceIte, Nat.reduceEqDiff, Int.reduceToNat]
    refine (seq_of (l := []) (rs := none) hl15 (OwnS.nil _ _ _) (fun r hr => by cases hr) (by simp)).mono ?_
    rintro v37 H37 hq37
    try simp only [eX, ↓reduceIte, Nat.reduceEqDiff, Int.reduceToNat]
    refine hK _ _ ?_; clear hK K
    refine zaE rfl ?_
    refine zae ?_
    try simp only [Ex.thnH, Ex.inBlockH, ↓reduceIte, Nat.reduceEqDiff]
    refine hK7 _ _ ?_; try clear hK7 K7
    refine CW_ret ?_
    try simp only [Ex.thnH, Ex.inBlockH, ↓reduceIte, Nat.reduceEqDiff]
    refine ⟨[_], ⟨rfl, trivial⟩, _, Le.refl _, ?_⟩
    have he : betE (tabE E t) lo hi = [] := by
     rcases hno with h9 | h9
     ·exact betE_empty h9
     ·rw [h9]; rfl
    rw [he]
    exact hq37
end Go.Proofs.Ytjhohnbdhopllaa.HL
end
section
namespace Go.Proofs.Ytjhohnbdhopllaa.HL
open Go Go.Proofs
set_option linter.unusedSimpArgs false
set_option linter.unusedVariables false
attribute [local irreducible] Lt Lq CW OW TW CallH
theorem XV.le {K K' : Hp} {x : Value} {E : Nat → List En} (h : XV K x E) (hl : Le K K') : XV K' x E := by
  rcases h with h | ⟨b, rfl, hX⟩
  · exact .inl h
  · exact .inr ⟨b, rfl, hX.le hl⟩
theorem none_new {N K : Hp} (hnew : ∀ b, N b ≠ none → K b = none) {b : Nat} {o : Obj} (hb : K b = some o) : N b = none := by
  cases hc : N b with
  | none => rfl
  | some o' => have := hnew b (by rw [hc]; simp); rw [this] at hb; cases hb
theorem take_ens {l : List En} {k : Nat} (h : k < l.length) : ens (l.take k) ++ (l.getD k default).c = ens (l.take (k + 1)) := by
  rw [take_snocA h, ens_app]; simp [ens]
set_option maxRecDepth 100000 in
set_option maxHeartbeats 1000000 in
theorem list_ok (G : Hp) (x : Value) (E : Nat → List En) (h : XV G x E) (t lo hi : Int) (hi1 : -9223372036854775808 ≤ hi) (hi2 : hi ≤ 9223372036854775807) (hn : (tabE E t).length ≤ 100000) (ho : OkE (tabE E t)) : CallH Try.prog 11 #[x, .int .i64 t, .int .i64 lo, .int .i64 hi] G (fun v G' => Le G G' ∧ ∃ rs, OwnS G' 38 2 v (betE (tabE E t) lo hi).length (ens (betE (tabE E t) lo hi)) rs ∧ ∀ r, rs = some r → G r = none) := by
 refine zaD (l := [_, _, _, _]) (rl := [.tmp 8]) (n := 23) Try.func11 rfl rfl rfl rfl rfl ?_
 simp only [envOf, Nat.reduceAdd]
 refine zad (fun K1 hK1 => ?_)
 refine zab ?_
 refine zaE rfl ?_
 refine zae ?_
 try simp only [Ex.thnH, Ex.inBlockH, ↓reduceIte, Nat.reduceEqDiff]
 refine hK1 _ _ ?_; try clear hK1 K1
 refine zad (fun K2 hK2 => ?_)
 refine zab ?_
 refine zac (fun K hK r => ?_)
 simp only [x_buildSlice, List.map_toArray, List.map_cons, List.map_nil, eX, ↓reduceIte, Nat.reduceEqDiff, Int.reduceToNat]
 refine Lt_buildSlice (vs := []) Try.underlying33 sz38 zr38 rfl bsA (by first | decide | (simp; done)) ?_
 simp only [List.flatMap_cons, List.flatMap_nil, Value.cells, List.append_nil, List.cons_append, List.nil_append, List.length_cons, List.length_nil, Nat.zero_add, Nat.reduceAdd]
 intro b11 hb11
 have f11_G : G b11 = none := zam lhA hb11
 try simp only [eX, ↓reduceIte, Nat.reduceEqDiff, Int.reduceToNat]
 refine hK _ _ ?_; clear hK K
 refine zac (fun K hK r => ?_)
 simp only [x_alloc, zr33, zaf, Value.cells, eX, ↓reduceIte, Nat.reduceEqDiff, Int.reduceToNat]
 intro b9 hb9
 try have n9_b11 : b11 ≠ b9 := zal hbA hb9
 have f9_G : G b9 = none := zam lhA hb9
 try simp only [eX, ↓reduceIte, Nat.reduceEqDiff, Int.reduceToNat]
 refine hK _ _ ?_; clear hK K
 refine OW_op rfl (lt_none) (fun K hK r => ?_)
 simp only [x_store, eX, ↓reduceIte, Nat.reduceEqDiff, Int.reduceToNat]
 refine Lt_storeAt1 sz33 hbA bdA plA fzA ?_
 try simp only [setL0, setL1, setL2, setL3, setL4, setL5, setL6, setL7, setL8, setL9]
 try simp only [eX, ↓reduceIte, Nat.reduceEqDiff, Int.reduceToNat]
 refine hK _ _ ?_; clear hK K
 refine zae ?_
 try simp only [Ex.thnH, Ex.inBlockH, ↓reduceIte, Nat.reduceEqDiff]
 refine hK2 _ _ ?_; try clear hK2 K2
 refine zad (fun K3 hK3 => ?_)
 refine zad (fun K4 hK4 => ?_)
 refine zab ?_
 refine zaj rfl ?_
 refine zaj rfl ?_
 refine zaj rfl ?_
 refine zaj rfl ?_
 refine zac (fun K hK r => ?_)
 simp only [zaP _ bd15, List.map_toArray, List.map_cons, List.map_nil, eX, ↓reduceIte, Nat.reduceEqDiff, Int.reduceToNat]
 refine (between_ok _ x E (h.le lhA) t lo hi hi1 hi2 hn ho).mono ?_
 rintro v16 HB ⟨hlB, N, hlN, hnew, hit⟩
 have kB_b9 := hlB b9 _ hbA
 have hN_b9 : N b9 = none := none_new hnew hbA
 have kB_b11 := hlB b11 _ hbA
 have hN_b11 : N b11 = none := none_new hnew hbA
 have lGB : Le G HB := Le.trans lhA hlB
 obtain ⟨l, hl⟩ : ∃ l, l = betE (tabE E t) lo hi := ⟨_, rfl⟩
 have hll : l.length ≤ 100000 := by rw [hl]; exact Nat.le_trans (betE_len _ _ _) hn
 rw [← hl] at hit
 have hGc : G b9 = none := f9_G
 have hNc := hN_b9
 try simp only [eX, ↓reduceIte, Nat.reduceEqDiff, Int.reduceToNat]
 refine hK _ _ ?_; clear hK K
 refine zae ?_
 try simp only [Ex.thnH, Ex.inBlockH, ↓reduceIte, Nat.reduceEqDiff]
 refine hK4 _ _ ?_; try clear hK4 K4
 refine CW_block ?_
 refine CW_rangeFunc (fun r => rfl) (hit) (fun i H_ => ∃ sv rs, H_ b9 = some (.cells #[sv] 33) ∧ OwnS H_ 38 2 sv i (ens (l.take i)) rs ∧ rs ≠ some b9 ∧ (∀ r, rs = some r → G r = none ∧ N r = none) ∧ Le G H_ ∧ Le N H_) ?_ ?_ (by decide) ?_ ?_
 ·skip
  rintro i H_ ⟨_, _, _, _, _, _, _, h9⟩
  exact h9
 ·skip
  exact ⟨_, some b11, kB_b9, ⟨rfl, .inr ⟨b11, 0, _, rfl, kB_b11, Nat.le_refl _, rfl, rfl, rfl⟩⟩, (fun hh => n9_b11 (by injection hh)), (fun r hr => by cases hr; exact ⟨f11_G, hN_b11⟩), lGB, hlN⟩
 ·intro l_ i_ hi_ H_ hI_ args_ F_ hT_ hF_
  obtain ⟨sv_, rs_, hc_, ho_, hrb_, hr_, hlG_, hlN_⟩ := hI_
  obtain ⟨rfl, rfl⟩ := hT_
  rw [join_empty]
  obtain ⟨sa_, sc_, rfl⟩ := ho_.holds.form
  refine ⟨rfl, ?_⟩
  simp only [putAll, List.zip_cons_cons, List.zip_nil_right, List.zip_nil_left, eX, ↓reduceIte, Nat.reduceEqDiff, Int.reduceToNat]
  refine zab ?_
  refine zac (fun K hK r => ?_)
  simp only [x_alloc, zr38, zaf, Value.cells, eX, ↓reduceIte, Nat.reduceEqDiff, Int.reduceToNat]
  intro b10 hb10
  try have n10_b9 : b9 ≠ b10 := zal hbA hb10
  try simp only [eX, ↓reduceIte, Nat.reduceEqDiff, Int.reduceToNat]
  refine hK _ _ ?_; clear hK K
  refine OW_op rfl (lt_none) (fun K hK r => ?_)
  simp only [x_store, eX, ↓reduceIte, Nat.reduceEqDiff, Int.reduceToNat]
  first | refine Lt_storeAll sz38 bdA hbA bdA plA (by decide) ?_ | refine Lt_storeAtA sz38 bdA hbA bdA plA (by decide) ?_
  try simp only [eX, ↓reduceIte, Nat.reduceEqDiff, Int.reduceToNat]
  refine hK _ _ ?_; clear hK K
  refine zae ?_
  try simp only [Ex.thnH, Ex.inBlockH, ↓reduceIte, Nat.reduceEqDiff]
  first | refine ⟨rfl, ?_⟩ | refine ⟨trivial, ?_⟩
  refine CW_block ?_
  refine zab ?_
  refine zac (fun K hK r => ?_)
  simp only [zas, eX, ↓reduceIte, Nat.reduceEqDiff, Int.reduceToNat]
  refine zag Try.underlying33 rfl hbA ldA ?_
  try simp only [eX, ↓reduceIte, Nat.reduceEqDiff, Int.reduceToNat]
  refine hK _ _ ?_; clear hK K
  refine zac (fun K hK r => ?_)
  simp only [zas, eX, ↓reduceIte, Nat.reduceEqDiff, Int.reduceToNat]
  first | refine Lt_loadAll Try.underlying38 rfl sz38 hbA bdA ?_ | refine Lt_loadAtA Try.underlying38 rfl sz38 hbA bdA ?_
  try simp only [List.extract_toArray, List.extract_eq_take_drop, Nat.zero_add, Nat.reduceAdd, Nat.reduceSub, Nat.sub_zero, List.drop_succ_cons, List.drop_zero, List.take_succ_cons, List.take_zero, List.take_nil, List.drop_nil]
  try simp only [eX, ↓reduceIte, Nat.reduceEqDiff, Int.reduceToNat]
  refine hK _ _ ?_; clear hK K
  refine zac (fun K hK r => ?_)
  simp only [x_buildSlice, List.map_toArray, List.map_cons, List.map_nil, eX, ↓reduceIte, Nat.reduceEqDiff, Int.reduceToNat]
  refine Lt_buildSlice (vs := [_]) Try.underlying33 sz38 zr38 rfl bsA (by first | decide | (simp; done)) ?_
  simp only [List.flatMap_cons, List.flatMap_nil, Value.cells, List.append_nil, List.cons_append, List.nil_append, List.length_cons, List.length_nil, Nat.zero_add, Nat.reduceAdd]
  intro b20 hb20
  try have n20_b9 : b9 ≠ b20 := zal hbA hb20
  try have n20_b10 : b10 ≠ b20 := zal hbA hb20
  try simp only [eX, ↓reduceIte, Nat.reduceEqDiff, Int.reduceToNat]
  refine hK _ _ ?_; clear hK K
  refine zac (fun K hK r => ?_)
  simp only [zaG, l_append, List.map_toArray, List.map_cons, List.map_nil, eX, ↓reduceIte, Nat.reduceEqDiff, Int.reduceToNat]
  refine Lt_append Try.underlying33 Try.underlying33 (by simp) sz38 by38 (by decide) zr38 rfl _ (n := i_) (m := 1) (cs := ens (l.take i_)) (ds := (l.getD i_ default).c) (rs := rs_) (OwnS.make (OwnS.make ho_ hb10) hb20) (len_slice _ _ _) (fun Kx => first_slice (w := 2) (n := 1) (cs := (l.getD i_ default).c) ⟨rfl, .inr ⟨b20, 0, 1, _, _, _, rfl, hbA, by simp, by simp⟩⟩ Kx) rfl (by intro z hz; simp at hz; first | (subst hz; rfl) | (rcases hz with rfl | rfl <;> rfl)) (by omega) ?_
  intro v21 H21 rs21 hg21 ho21 hr21
  have hk9 := hg21.known b9 _ hbA hrb_
  have hps : plainCell v21 = true := by obtain ⟨_, _, q⟩ := ho21.holds.form; rw [q]; rfl
  refine hK _ _ ?_; clear hK K
  refine OW_op rfl (lt_none) (fun K hK r => ?_)
  simp only [x_store, eX, ↓reduceIte, Nat.reduceEqDiff, Int.reduceToNat]
  refine Lt_storeAt1 sz33 hbA bdA plA fzA ?_
  try simp only [setL0, setL1, setL2, setL3, setL4, setL5, setL6, setL7, setL8, setL9]
  try simp only [eX, ↓reduceIte, Nat.reduceEqDiff, Int.reduceToNat]
  refine hK _ _ ?_; clear hK K
  refine zae ?_
  try simp only [Ex.thnH, Ex.inBlockH, ↓reduceIte, Nat.reduceEqDiff]
  have f1 := zam hlG_ hb10
  have f2 : G b20 = none := zam (zao hlG_ f1) hb20
  have f3 : N b10 = none := zam hlN_ hb10
  have f4 : N b20 = none := zam (zao hlN_ f3) hb20
  have hrb21 : rs21 ≠ some b9 := fun hh => by
   rcases hr21 _ hh with h9 | h9
   ·exact hrb_ h9
   ·rw [(hbA : ((H_.upd b10 (.cells (l.getD i_ default).c.toArray 38)).upd b20 (.cells (l.getD i_ default).c.toArray 38)) b9 = some _)] at h9; cases h9
  have hGI : Le G H21 := hg21.le (H0 := G) (zao (zao hlG_ f1) f2) (fun r hr => (hr_ r hr).1)
  have hNI : Le N H21 := hg21.le (H0 := N) (zao (zao hlN_ f3) f4) (fun r hr => (hr_ r hr).2)
  refine ⟨v21, rs21, zan _ _ _, ?_, hrb21, fun r hr => ?_, zao hGI hGc, zao hNI hNc⟩
  ·rw [take_ens hi_] at ho21
   exact ho21.upd hrb21
  ·rcases hr21 r hr with h9 | h9
   ·exact hr_ r h9
   ·exact ⟨zam (zao (zao hlG_ f1) f2) h9, zam (zao (zao hlN_ f3) f4) h9⟩
 intro H_ hI_
 obtain ⟨sv_, rs_, hc_, ho_, hrb_, hr_, hlG_, hlN_⟩ := hI_
 rw [List.take_length] at ho_
 obtain ⟨sa_, sc_, rfl⟩ := ho_.holds.form
 try simp only [Ex.thnH, Ex.inBlockH, ↓reduceIte, Nat.reduceEqDiff]
 refine hK3 _ _ ?_; try clear hK3 K3
 refine zad (fun K5 hK5 => ?_)
 refine zab ?_
 refine zac (fun K hK r => ?_)
 simp only [zas, eX, ↓reduceIte, Nat.reduceEqDiff, Int.reduceToNat]
 refine zag Try.underlying33 rfl hbA ldA ?_
 try simp only [eX, ↓reduceIte, Nat.reduceEqDiff, Int.reduceToNat]
 refine hK _ _ ?_; clear hK K
 refine zaE rfl ?_
 refine zae ?_
 try simp only [Ex.thnH, Ex.inBlockH, ↓reduceIte, Nat.reduceEqDiff]
 refine hK5 _ _ ?_; try clear hK5 K5
 refine CW_ret ?_
 try simp only [Ex.thnH, Ex.inBlockH, ↓reduceIte, Nat.reduceEqDiff]
 rw [← hl]
 exact ⟨[_], ⟨rfl, trivial⟩, _, Le.refl _, hlG_, rs_, ho_, fun r hr => (hr_ r hr).1⟩
end Go.Proofs.Ytjhohnbdhopllaa.HL
end
section
namespace Go.Proofs.Ytjhohnbdhopllaa.HL
open Go
set_option linter.unusedSimpArgs false
set_option linter.unusedVariables false
theorem StX.grow {X : Hp → Prop} {G G2 K K' : Hp} {E : TypeId} {w n n' : Nat} {v v' : Value} {cs cs' : List Value} {rs rs' : Option Nat} (h : StX X G2 K) (hl : Le G G2) (ho : OwnS G2 E w v n cs rs) (hr : ∀ r, rs = some r → G r = none)
    (hg : Grow K rs K') (ho' : OwnS K' E w v' n' cs' rs') (hr' : ∀ r, rs' = some r → rs = some r ∨ K r = none) :
    ∃ G4, StX X G4 K' ∧ Le G G4 ∧ OwnS G4 E w v' n' cs' rs' ∧ ∀ r, rs' = some r → G r = none := by
  obtain ⟨F, h1, h2, h3, h4⟩ := h
  have hrF : ∀ b, F b ≠ none → rs ≠ some b := fun b hb e => ho.known b e (h4 b hb)
  have hr4 : ∀ r, rs' = some r → G r = none := fun r e => by
    rcases hr' r e with h9 | h9
    · exact hr r h9
    · exact zam (Le.trans hl h3) h9
  refine ⟨fun b => if rs' = some b then K' b else if rs = some b then none else G2 b, ⟨F, h1, fun b o hb => ?_, fun b o hb => ?_, fun b hb => ?_⟩, fun b o hb => ?_, ho'.stay (fun b o hb hk => ?_), hr4⟩
  · exact hg.known b o (h2 _ _ hb) (hrF b (by rw [hb]; simp))
  · try simp only at hb
    split at hb
    · exact hb
    · split at hb
      · cases hb
      · exact hg.known b o (h3 _ _ hb) (by assumption)
  · try simp only
    have e1 : rs' ≠ some b := fun e => by
      rcases hr' b e with h9 | h9
      · exact hrF b hb h9
      · exact hb (zam h2 h9)
    rw [if_neg e1, if_neg (hrF b hb)]
    exact h4 b hb
  · try simp only
    have e1 : rs' ≠ some b := fun e => by rw [hr4 b e] at hb; cases hb
    have e2 : rs ≠ some b := fun e => by rw [hr b e] at hb; cases hb
    rw [if_neg e1, if_neg e2]
    exact hl _ _ hb
  · try simp only
    rw [if_pos hb]; exact hk
theorem StX.wide {X : Hp → Prop} {H K K' : Hp} (h : StX X H K) (hl : Le K K') : ∃ H', StX X H' K' ∧ Le H H' ∧ ∀ b o, K' b = some o → K b = none → H' b = some o := by
  obtain ⟨F, h1, h2, h3, h4⟩ := h
  refine ⟨fun b => match F b with | some _ => none | none => K' b, ⟨F, h1, Le.trans h2 hl, fun b o hb => ?_, fun b hb => ?_⟩, fun b o hb => ?_, fun b o hb hn => ?_⟩
  · try simp only at hb
    cases hf : F b with
    | some o' => rw [hf] at hb; cases hb
    | none => rw [hf] at hb; exact hb
  · try simp only
    cases hf : F b with
    | some o' => rfl
    | none => exact absurd hf hb
  · try simp only
    cases hf : F b with
    | some o' => rw [h4 b (by rw [hf]; simp)] at hb; cases hb
    | none => exact hl _ _ (h3 _ _ hb)
  · try simp only
    cases hf : F b with
    | some o' => rw [h2 _ _ hf] at hn; cases hn
    | none => exact hb
end Go.Proofs.Ytjhohnbdhopllaa.HL
end
section
namespace Go.Proofs.Ytjhohnbdhopllaa.HL
open Go Go.Proofs
set_option linter.unusedSimpArgs false
set_option linter.unusedVariables false
attribute [local irreducible] Lt Lq CW OW TW CallH
theorem GXo.le {g : Nat} {l : List En} {F K : Hp} (h : GXo g l F) (hl : Le F K) : GXo g l K := by
  obtain ⟨s, rs, h1, h2, h3⟩ := h
  exact ⟨s, rs, hl _ _ h1, h2.le hl, h3⟩
theorem gx_new {G K : Hp} {g : Nat} {s : Value} {l : List En} {rs : Option Nat} (hl : Le G K) (hs : K g = some (.cells #[s] 82)) (ho : OwnS K 38 2 s l.length (ens l) rs) (hr : ∀ r, rs = some r → G r = none) (hb : G g = none) (hne : rs ≠ some g) : StX (GXo g l) G K := by
  refine StX.of (F := fun x => if x = g ∨ rs = some x then K x else none) ⟨s, rs, ?_, ho.stay (fun b o hb hk => ?_), hne⟩ (fun x o hx => ?_) hl (fun x hx => ?_)
  · show (if _ then _ else _) = _
    rw [if_pos (.inl rfl)]; exact hs
  · show (if _ then _ else _) = _
    rw [if_pos (.inr hb)]; exact hk
  · try simp only at hx
    split at hx
    · exact hx
    · cases hx
  · try simp only at hx
    split at hx
    · rename_i hor
      rcases hor with rfl | h1
      · exact hb
      · exact hr x h1
    · exact absurd rfl hx
set_option maxRecDepth 100000 in
set_option maxHeartbeats 1000000 in
theorem top_ok (G : Hp) (x : Value) (E : Nat → List En) (h : XV G x E) (t n : Int) (hn : (tabE E t).length ≤ 100000) (S : List En) (hS : S.Perm (tabE E t)) (hSp : S.Pairwise glE) : CallH Try.prog 12 #[x, .int .i64 t, .int .i64 n] G (fun v G' => Le G G' ∧ ∃ rs, OwnS G' 38 2 v (S.take n.toNat).length (ens (S.take n.toNat)) rs ∧ ∀ r, rs = some r → G r = none) := by
 refine zaD (l := [_, _, _]) (rl := [.tmp 6]) (n := 46) Try.func12 rfl rfl rfl rfl rfl ?_
 simp only [envOf, Nat.reduceAdd]
 have hSl := hS.length_eq
 refine zad (fun K1 hK1 => ?_)
 refine zab ?_
 refine zaE rfl ?_
 refine zae ?_
 try simp only [Ex.thnH, Ex.inBlockH, ↓reduceIte, Nat.reduceEqDiff]
 refine hK1 _ _ ?_; try clear hK1 K1
 refine zad (fun K2 hK2 => ?_)
 refine zab ?_
 refine zaj rfl ?_
 refine zaj rfl ?_
 refine zac (fun K hK r => ?_)
 simp only [zaP _ bd30, List.map_toArray, List.map_cons, List.map_nil, eX, ↓reduceIte, Nat.reduceEqDiff, Int.reduceToNat]
 refine (ixpart h t).mono ?_
 rintro v16 H16 ⟨hl16, pb, po, rfl, hpa⟩
 obtain ⟨pc, pT, ps, hpb, hps, hph, hpg, sa, sc, rfl, hcp⟩ := hpa
 have hps0 : pc[po + 0]? = some _ := hps
 try simp only [eX, ↓reduceIte, Nat.reduceEqDiff, Int.reduceToNat]
 refine hK _ _ ?_; clear hK K
 refine zaj rfl ?_
 refine zac (fun K hK r => ?_)
 simp only [x_extract, i_extract, List.getElem?_toArray, List.getElem?_cons_zero, List.getElem?_cons_succ, zaf, eX, ↓reduceIte, Nat.reduceEqDiff, Int.reduceToNat]
 refine hK _ _ ?_; clear hK K
 refine zac (fun K hK r => ?_)
 simp only [x_extract, i_extract, List.getElem?_toArray, List.getElem?_cons_zero, List.getElem?_cons_succ, zaf, eX, ↓reduceIte, Nat.reduceEqDiff, Int.reduceToNat]
 refine hK _ _ ?_; clear hK K
 refine zaE rfl ?_
 refine zaE rfl ?_
 refine zae ?_
 try simp only [Ex.thnH, Ex.inBlockH, ↓reduceIte, Nat.reduceEqDiff]
 refine hK2 _ _ ?_; try clear hK2 K2
 refine zad (fun K3 hK3 => ?_)
 refine zab ?_
 refine zaj rfl ?_
 refine zac (fun K hK r => ?_)
 rw [zaQ _ _ rfl]
 simp only [eX, ↓reduceIte, Nat.reduceEqDiff, Int.reduceToNat]
 refine hK _ _ ?_; clear hK K
 refine zac (fun K hK r => ?_)
 simp only [zai, fa71_0, zaC, Nat.reduceAdd, Nat.zero_add, eX, ↓reduceIte, Nat.reduceEqDiff, Int.reduceToNat]
 refine hK _ _ ?_; clear hK K
 refine zac (fun K hK r => ?_)
 simp only [zas, eX, ↓reduceIte, Nat.reduceEqDiff, Int.reduceToNat]
 refine zag Try.underlying33 rfl hbA ldA ?_
 try simp only [eX, ↓reduceIte, Nat.reduceEqDiff, Int.reduceToNat]
 refine hK _ _ ?_; clear hK K
 refine zac (fun K hK r => ?_)
 simp only [zaP _ bd34, List.map_toArray, List.map_cons, List.map_nil, eX, ↓reduceIte, Nat.reduceEqDiff, Int.reduceToNat]
 refine (clnE_ok _ _ (tabE E t).length (ens (tabE E t)) hph (ens_plain _) (by omega)).mono ?_
 rintro v23 H23 ⟨hl23, rs23, ho23, hr23⟩
 have lG23 : Le G H23 := Le.trans hl16 hl23
 have hps23 : plainCell v23 = true := by obtain ⟨_, _, q⟩ := ho23.holds.form; rw [q]; rfl
 try simp only [eX, ↓reduceIte, Nat.reduceEqDiff, Int.reduceToNat]
 refine hK _ _ ?_; clear hK K
 refine zac (fun K hK r => ?_)
 simp only [x_alloc, zr82, zaf, Value.cells, eX, ↓reduceIte, Nat.reduceEqDiff, Int.reduceToNat]
 intro b9 hb9
 have f9_G : G b9 = none := zam lhA hb9
 try simp only [eX, ↓reduceIte, Nat.reduceEqDiff, Int.reduceToNat]
 refine hK _ _ ?_; clear hK K
 refine OW_op rfl (lt_none) (fun K hK r => ?_)
 simp only [x_store, eX, ↓reduceIte, Nat.reduceEqDiff, Int.reduceToNat]
 refine Lt_storeAt1 sz82 hbA bdA plA fzA ?_
 try simp only [setL0, setL1, setL2, setL3, setL4, setL5, setL6, setL7, setL8, setL9]
 try simp only [eX, ↓reduceIte, Nat.reduceEqDiff, Int.reduceToNat]
 refine hK _ _ ?_; clear hK K
 refine zae ?_
 try simp only [Ex.thnH, Ex.inBlockH, ↓reduceIte, Nat.reduceEqDiff]
 refine hK3 _ _ ?_; try clear hK3 K3
 refine zad (fun K4 hK4 => ?_)
 refine zab ?_
 refine zac (fun K hK r => ?_)
 simp only [x_makeInterface, i_makeInterface, Try.underlying85, zaf, eX, ↓reduceIte, Nat.reduceEqDiff, Int.reduceToNat]
 refine hK _ _ ?_; clear hK K
 refine zac (fun K hK r => ?_)
 simp only [zaP _ bd35, List.map_toArray, List.map_cons, List.map_nil, eX, ↓reduceIte, Nat.reduceEqDiff, Int.reduceToNat]
 have hS9 : StX (GXo b9 (tabE E t)) G (H23.upd b9 (.cells #[v23] 82)) := gx_new (zao lG23 f9_G) (zan _ _ _) (ho23.make hb9) (fun r hr => zam hl16 (hr23 r hr)) f9_G (ho23.ne_fresh hb9)
 refine (hS9.call1 (V := fun v => v = .tuple #[]) (Y := fun F => ∃ l', GXo b9 l' F ∧ l'.Perm (tabE E t) ∧ HpF l' l'.length 0) (fun F hF => init_ok F b9 _ hF (by omega))).mono ?_
 rintro v25 H25 ⟨rfl, F25, ⟨l25, hX25, hp25, hh25⟩, hq25⟩
 have hS25 : StX (GXo b9 l25) G H25 := ⟨F25, hX25, hq25⟩
 try simp only [eX, ↓reduceIte, Nat.reduceEqDiff, Int.reduceToNat]
 refine hK _ _ ?_; clear hK K
 refine zae ?_
 try simp only [Ex.thnH, Ex.inBlockH, ↓reduceIte, Nat.reduceEqDiff]
 refine hK4 _ _ ?_; try clear hK4 K4
 refine zad (fun K5 hK5 => ?_)
 refine zab ?_
 refine zaE rfl ?_
 refine zae ?_
 try simp only [Ex.thnH, Ex.inBlockH, ↓reduceIte, Nat.reduceEqDiff]
 refine hK5 _ _ ?_; try clear hK5 K5
 refine zad (fun K6 hK6 => ?_)
 refine CW_block ?_
 refine CW_loop (fun m e H_ => ∃ (k : Nat) (G2 : Hp) (oa : Option Addr) (oc : Nat) (rs : Option Nat) (l : List En), k ≤ S.length ∧ k ≤ n.toNat ∧ m = S.length - k ∧ StX (GXo b9 l) G2 H_ ∧ l.Perm (S.drop k) ∧ HpF l l.length 0 ∧ Le G G2 ∧ OwnS G2 38 2 (.slice oa k oc) k (ens (S.take k)) rs ∧ (∀ r, rs = some r → G r = none) ∧ Env.has [(2, .int .i64 n), (9, .pointer (some ⟨b9, 0, none⟩)), (10, .slice oa k oc)] e) (S.length) ?_ ?_
 ·skip
  exact ⟨0, G, none, 0, none, l25, Nat.zero_le _, Nat.zero_le _, rfl, hS25, by rw [List.drop_zero]; exact hp25.trans hS.symm, hh25, Le.refl _, OwnS.nil _ _ _, (fun r hr => by cases hr), rfl, rfl, rfl, trivial⟩
 intro m_ e_ H_ hI_
 obtain ⟨k, G2, oa_, oc_, rs_, l_, hkS_, hkn, hmk, hS_, hp_, hh_, hlG_, ho_, hr_, he⟩ := hI_
 have hle_ : l_.length = S.length - k := by rw [hp_.length_eq, List.length_drop]
 have hGx : GXo b9 l_ H_ := hS_.all (fun F hF hl => hF.le hl)
 obtain ⟨sg, rg, hg9, hog, hrg⟩ := hGx
 obtain ⟨ga, gc, rfl⟩ := hog.holds.form
 refine CW_env he.sub ?_; clear he e_
 refine zad (fun K7 hK7 => ?_)
 refine zad (fun K8 hK8 => ?_)
 refine zab ?_
 refine zaj rfl ?_
 refine zac (fun K hK r => ?_)
 simp only [zaG, l_len, List.map_toArray, List.map_cons, List.map_nil, zaH _ _ Try.underlying33, eX, ↓reduceIte, Nat.reduceEqDiff, Int.reduceToNat]
 refine hK _ _ ?_; clear hK K
 refine zaj rfl ?_
 refine zac (fun K hK r => ?_)
 simp (disch := (first | omega | decide)) only [zaM, zaN, b_lss, zat, zau, zav, zax, zaz, zay, Bool.not_true, Bool.not_false, eX, ↓reduceIte, Nat.reduceEqDiff, Int.reduceToNat]
 refine hK _ _ ?_; clear hK K
 refine zaj rfl ?_
 (first | refine OW_split (d := 30) rfl (fun g30 => ?_) (fun g30 => ?_) | skip)
 all_goals try (exfalso; exact cnA g30)
 all_goals (try simp only [decide_eq_true_eq, decide_eq_false_iff_not, Bool.not_eq_true, Bool.not_eq_false, Bool.and_eq_true, Bool.or_eq_true, Bool.or_eq_false_iff, Bool.not_eq_eq_eq_not, Bool.not_true, Bool.not_false] at g30)
 all_goals
  try simp only [eX, ↓reduceIte, Nat.reduceEqDiff, Int.reduceToNat]
  first
  |refine zaq rfl (zaa (by decide)) rfl (fun K hK r => ?_)
   simp only [zas, eX, ↓reduceIte, Nat.reduceEqDiff, Int.reduceToNat]
   refine zag Try.underlying82 rfl hbA ldA ?_
   try simp only [eX, ↓reduceIte, Nat.reduceEqDiff, Int.reduceToNat]
   refine hK _ _ ?_; clear hK K
  |refine zar rfl (zaa (by decide)) rfl ?_
   simp only [eX, ↓reduceIte, Nat.reduceEqDiff, Int.reduceToNat]
  first
  |refine zaq rfl (zaa (by decide)) rfl (fun K hK r => ?_)
   simp only [zaG, l_len, List.map_toArray, List.map_cons, List.map_nil, zaH _ _ Try.underlying82, eX, ↓reduceIte, Nat.reduceEqDiff, Int.reduceToNat]
   refine hK _ _ ?_; clear hK K
  |refine zar rfl (zaa (by decide)) rfl ?_
   simp only [eX, ↓reduceIte, Nat.reduceEqDiff, Int.reduceToNat]
  first
  |refine zaq rfl (zaa (by decide)) rfl (fun K hK r => ?_)
   simp (disch := (first | omega | decide)) only [zaM, zaN, b_gtr, zat, zau, zav, zax, zaz, zay, Bool.not_true, Bool.not_false, eX, ↓reduceIte, Nat.reduceEqDiff, Int.reduceToNat]
   refine hK _ _ ?_; clear hK K
  |refine zar rfl (zaa (by decide)) rfl ?_
   simp only [eX, ↓reduceIte, Nat.reduceEqDiff, Int.reduceToNat]
  refine zac (fun K hK r => ?_)
  simp only [x_pick, l_asBool, HL.ite_bool, if_true, if_false, Bool.false_eq_true, eX, ↓reduceIte, Nat.reduceEqDiff, Int.reduceToNat]
  refine hK _ _ ?_; clear hK K
  refine zae ?_
  try simp only [Ex.thnH, Ex.inBlockH, ↓reduceIte, Nat.reduceEqDiff]
  refine hK8 _ _ ?_; try clear hK8 K8
  refine CW_cond (fun r => rfl) (fun c34 => ?_) (fun c34 => ?_)
  ·first
   |(exfalso; exact cnA c34; done)
   |skip
    have hkS : k < S.length := by simp at c34; omega
    have hkn2 : (k : Int) < n := by omega
    refine CW_skip ?_
    try simp only [Ex.thnH, Ex.inBlockH, ↓reduceIte, Nat.reduceEqDiff]
    refine hK7 _ _ ?_; try clear hK7 K7
    refine CW_block ?_
    refine zad (fun K9 hK9 => ?_)
    refine zab ?_
    refine zac (fun K hK r => ?_)
    simp only [x_makeInterface, i_makeInterface, Try.underlying85, zaf, eX, ↓reduceIte, Nat.reduceEqDiff, Int.reduceToNat]
    refine hK _ _ ?_; clear hK K
    refine zac (fun K hK r => ?_)
    simp only [zaP _ bd36, List.map_toArray, List.map_cons, List.map_nil, eX, ↓reduceIte, Nat.reduceEqDiff, Int.reduceToNat]
    refine (hS_.call1 (V := fun v => v = .iface 38 (.agg (at_ l_ 0).c.toArray)) (Y := fun F => ∃ l', GXo b9 l' F ∧ (at_ l_ 0 :: l').Perm l_ ∧ HpF l' l'.length 0) (fun F hF => hpop_ok F b9 l_ hF (by omega) (by omega) hh_)).mono ?_
    rintro v37 H37 ⟨rfl, F37, ⟨l37, hX37, hp37, hh37⟩, hq37⟩
    have hS37 : StX (GXo b9 l37) G2 H37 := ⟨F37, hX37, hq37⟩
    rw [top_next hSp hp_ hh_ hkS]
    try simp only [eX, ↓reduceIte, Nat.reduceEqDiff, Int.reduceToNat]
    refine hK _ _ ?_; clear hK K
    refine zac (fun K hK r => ?_)
    simp only [x_typeAssert, eX, ↓reduceIte, Nat.reduceEqDiff, Int.reduceToNat]
    first | rw [t_same _ _ _ Try.underlying38 (by simp)] | rw [t_other _ _ _ _ Try.underlying38 (by simp) (by decide) _ _ zr38] | rw [t_nil _ _ _ Try.underlying38 (by simp) _ zr38]
    try simp only [if_true, Bool.false_eq_true, if_false]
    try simp only [eX, ↓reduceIte, Nat.reduceEqDiff, Int.reduceToNat]
    refine hK _ _ ?_; clear hK K
    refine zaj rfl ?_
    refine zac (fun K hK r => ?_)
    simp only [x_extract, i_extract, List.getElem?_toArray, List.getElem?_cons_zero, List.getElem?_cons_succ, zaf, eX, ↓reduceIte, Nat.reduceEqDiff, Int.reduceToNat]
    refine hK _ _ ?_; clear hK K
    refine zac (fun K hK r => ?_)
    simp only [x_extract, i_extract, List.getElem?_toArray, List.getElem?_cons_zero, List.getElem?_cons_succ, zaf, eX, ↓reduceIte, Nat.reduceEqDiff, Int.reduceToNat]
    refine hK _ _ ?_; clear hK K
    refine zac (fun K hK r => ?_)
    simp only [x_alloc, zr38, zaf, Value.cells, eX, ↓reduceIte, Nat.reduceEqDiff, Int.reduceToNat]
    intro b11 hb11
    try have n11_b9 : b9 ≠ b11 := zal hbA hb11
    try simp only [eX, ↓reduceIte, Nat.reduceEqDiff, Int.reduceToNat]
    refine hK _ _ ?_; clear hK K
    refine OW_op rfl (lt_none) (fun K hK r => ?_)
    simp only [x_store, eX, ↓reduceIte, Nat.reduceEqDiff, Int.reduceToNat]
    first | refine Lt_storeAll sz38 bdA hbA bdA plA (by decide) ?_ | refine Lt_storeAtA sz38 bdA hbA bdA plA (by decide) ?_
    try simp only [eX, ↓reduceIte, Nat.reduceEqDiff, Int.reduceToNat]
    refine hK _ _ ?_; clear hK K
    refine zaE rfl ?_
    refine zae ?_
    try simp only [Ex.thnH, Ex.inBlockH, ↓reduceIte, Nat.reduceEqDiff]
    refine hK9 _ _ ?_; try clear hK9 K9
    refine zab ?_
    refine zaj rfl ?_
    refine zac (fun K hK r => ?_)
    simp only [zas, eX, ↓reduceIte, Nat.reduceEqDiff, Int.reduceToNat]
    first | refine Lt_loadAll Try.underlying38 rfl sz38 hbA bdA ?_ | refine Lt_loadAtA Try.underlying38 rfl sz38 hbA bdA ?_
    try simp only [List.extract_toArray, List.extract_eq_take_drop, Nat.zero_add, Nat.reduceAdd, Nat.reduceSub, Nat.sub_zero, List.drop_succ_cons, List.drop_zero, List.take_succ_cons, List.take_zero, List.take_nil, List.drop_nil]
    try simp only [eX, ↓reduceIte, Nat.reduceEqDiff, Int.reduceToNat]
    refine hK _ _ ?_; clear hK K
    refine zac (fun K hK r => ?_)
    simp only [x_buildSlice, List.map_toArray, List.map_cons, List.map_nil, eX, ↓reduceIte, Nat.reduceEqDiff, Int.reduceToNat]
    refine Lt_buildSlice (vs := [_]) Try.underlying33 sz38 zr38 rfl bsA (by first | decide | (simp; done)) ?_
    simp only [List.flatMap_cons, List.flatMap_nil, Value.cells, List.append_nil, List.cons_append, List.nil_append, List.length_cons, List.length_nil, Nat.zero_add, Nat.reduceAdd]
    intro b43 hb43
    try have n43_b9 : b9 ≠ b43 := zal hbA hb43
    try have n43_b11 : b11 ≠ b43 := zal hbA hb43
    try simp only [eX, ↓reduceIte, Nat.reduceEqDiff, Int.reduceToNat]
    refine hK _ _ ?_; clear hK K
    refine zac (fun K hK r => ?_)
    simp only [zaG, l_append, List.map_toArray, List.map_cons, List.map_nil, eX, ↓reduceIte, Nat.reduceEqDiff, Int.reduceToNat]
    have h11 := (hS37.put (.inl hb11) (.cells (at_ S k).c.toArray 38)).put (.inl hb43) (.cells (at_ S k).c.toArray 38)
    have f11_2 : G2 b11 = none := zam hS37.old hb11
    have f43_2 : G2 b43 = none := zam (zao hS37.old f11_2) hb43
    have hlG2 : Le G2 ((G2.upd b11 (.cells (at_ S k).c.toArray 38)).upd b43 (.cells (at_ S k).c.toArray 38)) := zao (zao (Le.refl _) f11_2) f43_2
    have ho2 := ho_.le hlG2
    refine Lt_append Try.underlying33 Try.underlying33 (by simp) sz38 by38 (by decide) zr38 rfl _ (n := k) (m := 1) (cs := ens (S.take k)) (ds := (at_ S k).c) (rs := rs_) (ho2.le h11.old) (len_slice _ _ _) (fun Kx => first_slice (w := 2) (n := 1) (cs := (at_ S k).c) ⟨rfl, .inr ⟨b43, 0, 1, _, _, _, rfl, (zan _ _ _), by simp, by simp⟩⟩ Kx) rfl (by intro z hz; simp at hz; rcases hz with rfl | rfl <;> rfl) (by omega) ?_
    intro v44 H44 rs44 hg44 ho44 hr44
    obtain ⟨G4, hS44, hlG4, ho44', hn44⟩ := StX.grow h11 (Le.trans hlG_ hlG2) ho2 hr_ hg44 ho44 hr44
    obtain ⟨sa44, sc44, rfl⟩ := ho44.holds.form
    rw [take_ens hkS] at ho44'
    refine hK _ _ ?_; clear hK K
    refine zaE rfl ?_
    refine zae ?_
    try simp only [Ex.thnH, Ex.inBlockH, ↓reduceIte, Nat.reduceEqDiff]
    exact ⟨S.length - (k + 1), by omega, k + 1, G4, sa44, sc44, rs44, l37, by omega, by omega, rfl, hS44, top_rest hkS hp_ (top_next hSp hp_ hh_ hkS) hp37, hh37, hlG4, ho44', hn44, rfl, rfl, rfl, trivial⟩
  ·first
   |(exfalso; exact cnA c34; done)
   |skip
    have hfin : S.take n.toNat = S.take k := by
     by_cases hkn2 : (k : Int) < n
     ·have hk9 : k = S.length := by
       first
       |(exfalso; omega)
       |(rw [decide_eq_false_iff_not] at c34; omega)
       |(simp only [decide_eq_false_iff_not, gt_iff_lt] at c34; omega)
      rw [hk9, List.take_length, List.take_of_length_le (by omega)]
     ·rw [show n.toNat = k from by omega]
    refine CW_exit ?_
    try simp only [Ex.thnH, Ex.inBlockH, ↓reduceIte, Nat.reduceEqDiff]
    refine hK6 _ _ ?_; try clear hK6 K6
    refine zad (fun K10 hK10 => ?_)
    refine zab ?_
    refine zaj rfl ?_
    refine zaE rfl ?_
    refine zae ?_
    try simp only [Ex.thnH, Ex.inBlockH, ↓reduceIte, Nat.reduceEqDiff]
    refine hK10 _ _ ?_; try clear hK10 K10
    refine CW_ret ?_
    try simp only [Ex.thnH, Ex.inBlockH, ↓reduceIte, Nat.reduceEqDiff]
    refine ⟨[_], ⟨rfl, trivial⟩, _, Le.refl _, Le.trans hlG_ hS_.old, rs_, ?_, hr_⟩
    rw [hfin, show (S.take k).length = k from by rw [List.length_take]; omega]
    exact ho_.le hS_.old
end Go.Proofs.Ytjhohnbdhopllaa.HL
end
section
namespace Go.Proofs.Ytjhohnbdhopllaa.HL
open Go Go.Proofs
set_option linter.unusedSimpArgs false
set_option linter.unusedVariables false
attribute [local irreducible] Lt Lq CW OW TW CallH
def mvN (k : Nat) (mm : Nat → Nat) (j : Nat) : Value := if j < k then .map (some (mm j)) else .map none
def mkN (k : Nat) (mm : Nat → Nat) : Array Value := #[.slice none 0 0, mvN k mm 0, .slice none 0 0, mvN k mm 1, .slice none 0 0, mvN k mm 2, .slice none 0 0, mvN k mm 3]
theorem mkN_set {k : Nat} (h : k < 4) (mm : Nat → Nat) (r : Nat) : (mkN k mm).setIfInBounds (k * 2 + 1) (.map (some r)) = mkN (k + 1) (fun j => if j = k then r else mm j) := by
  match k, h with
  | 0, _ => rfl
  | 1, _ => rfl
  | 2, _ => rfl
  | 3, _ => rfl
structure NewIx (G H : Hp) (b k : Nat) (mm : Nat → Nat) : Prop where
  blk : H b = some (.cells (mkN k mm) 74)
  nb : G b = none
  mp : ∀ j, j < k → H (mm j) = some (.map #[] 0) ∧ G (mm j) = none ∧ mm j ≠ b
  ap : ∀ i j, i < k → j < k → i ≠ j → mm i ≠ mm j
  le : Le G H
theorem NewIx.step {G H : Hp} {b k : Nat} {mm : Nat → Nat} (h : NewIx G H b k mm) (hk : k < 4) {r : Nat} (hr : H r = none) : NewIx G ((H.upd r (.map #[] 0)).upd b (.cells ((mkN k mm).setIfInBounds (k * 2 + 1) (.map (some r))) 74)) b (k + 1) (fun j => if j = k then r else mm j) := by
  have hrb : b ≠ r := zal h.blk hr
  refine ⟨by rw [zan, mkN_set hk], h.nb, fun j hj => ?_, fun i j hi hj hij => ?_, ?_⟩
  · by_cases e : j = k
    · subst e
      simp only [if_true]
      exact ⟨by rw [zap _ _ (Ne.symm hrb), zan], zam h.le hr, Ne.symm hrb⟩
    · simp only [e, if_false]
      obtain ⟨h1, h2, h3⟩ := h.mp j (by omega)
      exact ⟨by rw [zap _ _ h3, zap _ _ (zal h1 hr)]; exact h1, h2, h3⟩
  · by_cases e : i = k
    · subst e
      have e2 : j ≠ i := fun hh => hij hh.symm
      simp only [if_true, e2, if_false]
      exact fun hh => zal (h.mp j (by omega)).1 hr hh.symm
    · by_cases e2 : j = k
      · subst e2
        simp only [if_true, e, if_false]
        exact zal (h.mp i (by omega)).1 hr
      · simp only [e, e2, if_false]
        exact h.ap i j (by omega) (by omega) hij
  · exact zao (zao h.le (zam h.le hr)) h.nb
theorem NewIx.done {G H : Hp} {b : Nat} {mm : Nat → Nat} (h : NewIx G H b 4 mm) : StX (IX b (fun _ => [])) G H := by
  refine StX.of (F := fun x => if x = b ∨ x = mm 0 ∨ x = mm 1 ∨ x = mm 2 ∨ x = mm 3 then H x else none) ⟨fun t => ⟨.slice none 0 0, mm t, none, []⟩, ⟨?_, fun t ht => ?_, fun t ht => ⟨(h.mp t ht).2.2, fun hh => by cases hh⟩, fun t u ht hu htu => ⟨h.ap t u ht hu htu, (fun hh => by cases hh), fun r hr => by cases hr⟩⟩, fun t _ => rfl⟩ (fun x o hx => ?_) h.le (fun x hx => ?_)
  · rw [if_pos (.inl rfl)]; exact h.blk
  · refine ⟨OwnS.nil _ _ _, ⟨#[], 0, ?_, fun e he => by simp at he, List.Pairwise.nil, fun k => rfl⟩, GoodE.nil⟩
    show (if _ then _ else _) = _
    rw [if_pos (.inr (by match t, ht with
      | 0, _ => exact .inl rfl
      | 1, _ => exact .inr (.inl rfl)
      | 2, _ => exact .inr (.inr (.inl rfl))
      | 3, _ => exact .inr (.inr (.inr rfl))))]
    exact (h.mp t ht).1
  · try simp only at hx
    split at hx
    · exact hx
    · cases hx
  · try simp only at hx
    split at hx
    · rename_i hor
      rcases hor with rfl | rfl | rfl | rfl | rfl
      · exact h.nb
      · exact (h.mp 0 (by omega)).2.1
      · exact (h.mp 1 (by omega)).2.1
      · exact (h.mp 2 (by omega)).2.1
      · exact (h.mp 3 (by omega)).2.1
    · exact absurd rfl hx
set_option maxRecDepth 100000 in
set_option maxHeartbeats 1000000 in
theorem new_ok (G : Hp) : CallH Try.prog 9 #[] G (fun v G' => ∃ b, v = .pointer (some ⟨b, 0, none⟩) ∧ StX (IX b (fun _ => [])) G G') := by
 refine zaD (l := []) (rl := [.tmp 0]) (n := 17) Try.func9 rfl rfl rfl rfl rfl ?_
 simp only [envOf, Nat.reduceAdd]
 refine zad (fun K1 hK1 => ?_)
 refine zab ?_
 refine zaE rfl ?_
 refine zae ?_
 try simp only [Ex.thnH, Ex.inBlockH, ↓reduceIte, Nat.reduceEqDiff]
 refine hK1 _ _ ?_; try clear hK1 K1
 refine zad (fun K2 hK2 => ?_)
 refine zab ?_
 refine zac (fun K hK r => ?_)
 simp only [x_build, bp74, List.map_toArray, List.map_cons, List.map_nil, eX, ↓reduceIte, Nat.reduceEqDiff, Int.reduceToNat]
 simp only [fill_nil, zaf, List.setIfInBounds_toArray, List.set_cons_zero, List.set_cons_succ]
 try simp only [eX, ↓reduceIte, Nat.reduceEqDiff, Int.reduceToNat]
 refine hK _ _ ?_; clear hK K
 refine zac (fun K hK r => ?_)
 simp only [x_box, Value.cells, eX, ↓reduceIte, Nat.reduceEqDiff, Int.reduceToNat]
 intro b4 hb4
 have f4_G : G b4 = none := zam lhA hb4
 try simp only [eX, ↓reduceIte, Nat.reduceEqDiff, Int.reduceToNat]
 refine hK _ _ ?_; clear hK K
 refine zaE rfl ?_
 refine zae ?_
 try simp only [Ex.thnH, Ex.inBlockH, ↓reduceIte, Nat.reduceEqDiff]
 refine hK2 _ _ ?_; try clear hK2 K2
 refine zad (fun K3 hK3 => ?_)
 refine zad (fun K4 hK4 => ?_)
 refine zab ?_
 refine zaj rfl ?_
 refine zae ?_
 try simp only [Ex.thnH, Ex.inBlockH, ↓reduceIte, Nat.reduceEqDiff]
 refine hK4 _ _ ?_; try clear hK4 K4
 refine CW_block ?_
 refine CW_loop (fun m e H_ => ∃ (k : Nat) (mm : Nat → Nat), k ≤ 4 ∧ m = 4 - k ∧ NewIx G H_ b4 k mm ∧ Env.has [(1, .pointer (some ⟨b4, 0, none⟩)), (5, .int .i64 k)] e) (4) ?_ ?_
 ·skip
  exact ⟨0, fun _ => 0, by omega, by omega, ⟨zan _ _ _, f4_G, (fun j hj => absurd hj (by omega)), (fun i j hi => absurd hi (by omega)), lhA⟩, rfl, rfl, trivial⟩
 intro m_ e_ H_ hI_
 obtain ⟨k, mm, hk, rfl, hN, he⟩ := hI_
 have hb_4 := hN.blk
 refine CW_env he.sub ?_; clear he e_
 refine zad (fun K5 hK5 => ?_)
 refine zab ?_
 refine zac (fun K hK r => ?_)
 simp (disch := (first | omega | decide)) only [zaM, zaN, b_lss, zat, zau, zav, zax, zaz, zay, Bool.not_true, Bool.not_false, eX, ↓reduceIte, Nat.reduceEqDiff, Int.reduceToNat]
 refine hK _ _ ?_; clear hK K
 refine zae ?_
 try simp only [Ex.thnH, Ex.inBlockH, ↓reduceIte, Nat.reduceEqDiff]
 refine hK5 _ _ ?_; try clear hK5 K5
 refine zad (fun K6 hK6 => ?_)
 refine CW_cond (fun r => rfl) (fun c6 => ?_) (fun c6 => ?_)
 ·first
  |(exfalso; exact cnA c6; done)
  |skip
   (try simp only [decide_eq_true_eq, decide_eq_false_iff_not, Bool.not_eq_true, Bool.not_eq_false, Bool.and_eq_true, Bool.or_eq_true, Bool.or_eq_false_iff, Bool.not_eq_eq_eq_not, Bool.not_true, Bool.not_false] at c6)
   have hk4 : k < 4 := by omega
   refine CW_skip ?_
   try simp only [Ex.thnH, Ex.inBlockH, ↓reduceIte, Nat.reduceEqDiff]
   refine hK6 _ _ ?_; try clear hK6 K6
   refine zad (fun K7 hK7 => ?_)
   refine CW_block ?_
   refine zad (fun K8 hK8 => ?_)
   refine zab ?_
   refine zaj rfl ?_
   refine zaE rfl ?_
   refine zae ?_
   try simp only [Ex.thnH, Ex.inBlockH, ↓reduceIte, Nat.reduceEqDiff]
   refine hK8 _ _ ?_; try clear hK8 K8
   refine zab ?_
   refine zaj rfl ?_
   refine zaj rfl ?_
   refine zac (fun K hK r => ?_)
   simp only [x_makeMap, Option.map_none, eX, ↓reduceIte, Nat.reduceEqDiff, Int.reduceToNat]
   refine Lt_makeMap ?_
   intro b10 hb10
   try have n10_b4 : b4 ≠ b10 := zal hbA hb10
   try simp only [eX, ↓reduceIte, Nat.reduceEqDiff, Int.reduceToNat]
   refine hK _ _ ?_; clear hK K
   refine zac (fun K hK r => ?_)
   rw [zaQ _ _ rfl]
   simp only [eX, ↓reduceIte, Nat.reduceEqDiff, Int.reduceToNat]
   refine hK _ _ ?_; clear hK K
   refine zac (fun K hK r => ?_)
   simp only [zai, fa74_0, zaC, Nat.reduceAdd, Nat.zero_add, eX, ↓reduceIte, Nat.reduceEqDiff, Int.reduceToNat]
   refine hK _ _ ?_; clear hK K
   refine zac (fun K hK r => ?_)
   simp only [zaF, eX, ↓reduceIte, Nat.reduceEqDiff, Int.reduceToNat]
   refine Lt_indexA Try.underlying72 sz71 ixA ixA ?_
   try simp only [zaC, Nat.mul_one, Nat.zero_add, Int.reduceToNat]
   try simp only [eX, ↓reduceIte, Nat.reduceEqDiff, Int.reduceToNat]
   refine hK _ _ ?_; clear hK K
   refine zac (fun K hK r => ?_)
   simp only [zai, fa71_1, zaC, Nat.reduceAdd, Nat.zero_add, eX, ↓reduceIte, Nat.reduceEqDiff, Int.reduceToNat]
   refine hK _ _ ?_; clear hK K
   refine OW_op rfl (lt_none) (fun K hK r => ?_)
   simp only [x_store, eX, ↓reduceIte, Nat.reduceEqDiff, Int.reduceToNat]
   refine Lt_storeAt1 sz69 hbA (by show _ < 8; omega) plA fzA ?_
   try simp only [Int.toNat_natCast]
   refine hK _ _ ?_; clear hK K
   refine zae ?_
   try simp only [Ex.thnH, Ex.inBlockH, ↓reduceIte, Nat.reduceEqDiff]
   refine hK7 _ _ ?_; try clear hK7 K7
   refine zab ?_
   refine zac (fun K hK r => ?_)
   simp (disch := (first | omega | decide)) only [zaM, zaN, b_add, zaI, zaL, zaK, wrap_u8, eX, ↓reduceIte, Nat.reduceEqDiff, Int.reduceToNat]
   refine hK _ _ ?_; clear hK K
   refine zaj rfl ?_
   refine zae ?_
   try simp only [Ex.thnH, Ex.inBlockH, ↓reduceIte, Nat.reduceEqDiff]
   exact ⟨4 - (k + 1), by omega, k + 1, _, by omega, rfl, hN.step hk4 hb10, rfl, rfl, trivial⟩
 ·first
  |(exfalso; exact cnA c6; done)
  |skip
   (try simp only [decide_eq_true_eq, decide_eq_false_iff_not, Bool.not_eq_true, Bool.not_eq_false, Bool.and_eq_true, Bool.or_eq_true, Bool.or_eq_false_iff, Bool.not_eq_eq_eq_not, Bool.not_true, Bool.not_false] at c6)
   obtain rfl : k = 4 := by omega
   refine CW_exit ?_
   try simp only [Ex.thnH, Ex.inBlockH, ↓reduceIte, Nat.reduceEqDiff]
   refine hK3 _ _ ?_; try clear hK3 K3
   refine zad (fun K9 hK9 => ?_)
   refine zab ?_
   refine zaj rfl ?_
   refine zaE rfl ?_
   refine zae ?_
   try simp only [Ex.thnH, Ex.inBlockH, ↓reduceIte, Nat.reduceEqDiff]
   refine hK9 _ _ ?_; try clear hK9 K9
   refine CW_ret ?_
   try simp only [Ex.thnH, Ex.inBlockH, ↓reduceIte, Nat.reduceEqDiff]
   exact ⟨[_], ⟨rfl, trivial⟩, _, Le.refl _, b4, rfl, hN.done⟩
end Go.Proofs.Ytjhohnbdhopllaa.HL
end
