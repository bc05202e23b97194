/- Parts of the proof, one behind the other: R48, R60, R50, R51, R61, R62. -/
import Derived.Test.YtcjdkfhmlnfedaaX5
set_option linter.unusedSimpArgs false
set_option linter.unusedVariables false
section
namespace Go.Proofs.Ytcjdkfhmlnfedaa.HL
open Go Go.Proofs
set_option linter.unusedSimpArgs false
set_option linter.unusedVariables false
attribute [local irreducible] Lt Lq CW OW TW CallH
set_option maxRecDepth 100000 in
set_option maxHeartbeats 16000000 in
theorem rcrash_ok (H : Hp) (a : Option Addr) (cap : Nat) (X : List RDX) (hX : RX H a cap X) (m : RSt) (hm : m.dv = rdv X) (hl : X.length ≤ 5) (n : Nat) (hn : n ≤ 1000000) (hg : ∀ i, i < X.length → RG n (X.getD i default).d) (ka : Option Addr) (kc : Nat) (l : List Kp) (hk : Holds H 3 (.slice ka l.length kc) l.length (kps l)) (hkl : l.length ≤ 1000) : CallH Try.prog 19 #[m.v (.slice a X.length cap), .slice ka l.length kc] H (fun v H' => ∃ a' cap' X', X'.length = X.length ∧ Le H H' ∧ v = (m.cr l).v (.slice a' X'.length cap') ∧ RX H' a' cap' X' ∧ (m.cr l).dv = rdv X') := by
 refine zaB (l := [_, _]) (rl := [.cell 4 38]) (n := 111) Try.func19 rfl rfl rfl rfl rfl ?_
 simp only [envOf, Nat.reduceAdd]
 have hlen : m.dv.length = X.length := by rw [hm]; simp
 have hclen : (m.cr l).dv.length = X.length := by simp only [RSt.cr, List.length_mapIdx, hlen]
 refine zad (fun K1 hK1 => ?_)
 refine zaa ?_
 refine zac (fun K hK r => ?_)
 simp only [x_box, Value.cells, eX, ↓reduceIte, Nat.reduceEqDiff, Int.reduceToNat]
 intro b2 hb2
 have f2_H : H b2 = none := zaj lhA hb2
 try simp only [eX, ↓reduceIte, Nat.reduceEqDiff, Int.reduceToNat]
 refine hK _ _ ?_; clear hK K
 refine zac (fun K hK r => ?_)
 simp only [x_alloc, zr38, zal, Value.cells, eX, ↓reduceIte, Nat.reduceEqDiff, Int.reduceToNat]
 intro b4 hb4
 try have n4_b2 : b2 ≠ b4 := zai hbA hb4
 have f4_H : H b4 = none := zaj lhA hb4
 try simp only [eX, ↓reduceIte, Nat.reduceEqDiff, Int.reduceToNat]
 refine hK _ _ ?_; clear hK K
 refine zae ?_
 try simp only [Ex.thnH, Ex.inBlockH, ↓reduceIte, Nat.reduceEqDiff]
 refine hK1 _ _ ?_; try clear hK1 K1
 refine zad (fun K2 hK2 => ?_)
 refine zaa ?_
 refine zac (fun K hK r => ?_)
 simp only [zah, fa38_1, zap, Nat.reduceAdd, Nat.zero_add, eX, ↓reduceIte, Nat.reduceEqDiff, Int.reduceToNat]
 refine hK _ _ ?_; clear hK K
 refine zac (fun K hK r => ?_)
 simp only [zan, eX, ↓reduceIte, Nat.reduceEqDiff, Int.reduceToNat]
 refine zak Try.underlying3 rfl hbA ldA ?_
 try simp only [eX, ↓reduceIte, Nat.reduceEqDiff, Int.reduceToNat]
 refine hK _ _ ?_; clear hK K
 refine zac (fun K hK r => ?_)
 simp only [zah, fa38_2, zap, Nat.reduceAdd, Nat.zero_add, eX, ↓reduceIte, Nat.reduceEqDiff, Int.reduceToNat]
 refine hK _ _ ?_; clear hK K
 refine zac (fun K hK r => ?_)
 simp only [zan, eX, ↓reduceIte, Nat.reduceEqDiff, Int.reduceToNat]
 refine zak Try.underlying3 rfl hbA ldA ?_
 try simp only [eX, ↓reduceIte, Nat.reduceEqDiff, Int.reduceToNat]
 refine hK _ _ ?_; clear hK K
 refine zac (fun K hK r => ?_)
 simp only [x_build, bp38, List.map_toArray, List.map_cons, List.map_nil, eX, ↓reduceIte, Nat.reduceEqDiff, Int.reduceToNat]
 rw [fill_one rfl clA bdA]
 rw [fill_one rfl clA bdA]
 simp only [fill_nil, zal, List.setIfInBounds_toArray, List.set_cons_zero, List.set_cons_succ]
 try simp only [eX, ↓reduceIte, Nat.reduceEqDiff, Int.reduceToNat]
 refine hK _ _ ?_; clear hK K
 refine zac (fun K hK r => ?_)
 simp only [x_alloc, zr38, zal, Value.cells, eX, ↓reduceIte, Nat.reduceEqDiff, Int.reduceToNat]
 intro b5 hb5
 try have n5_b2 : b2 ≠ b5 := zai hbA hb5
 try have n5_b4 : b4 ≠ b5 := zai hbA hb5
 have f5_H : H b5 = none := zaj lhA hb5
 try simp only [eX, ↓reduceIte, Nat.reduceEqDiff, Int.reduceToNat]
 refine hK _ _ ?_; clear hK K
 refine zbq rfl (zaJ) (fun K hK r => ?_)
 simp only [zaL, eX, ↓reduceIte, Nat.reduceEqDiff, Int.reduceToNat]
 first | refine zaz sz38 bdA hbA bdA plA (by decide) ?_ | refine zaI sz38 bdA hbA bdA plA (by decide) ?_
 try simp only [eX, ↓reduceIte, Nat.reduceEqDiff, Int.reduceToNat]
 refine hK _ _ ?_; clear hK K
 refine zae ?_
 try simp only [Ex.thnH, Ex.inBlockH, ↓reduceIte, Nat.reduceEqDiff]
 refine hK2 _ _ ?_; try clear hK2 K2
 refine zad (fun K3 hK3 => ?_)
 refine zad (fun K4 hK4 => ?_)
 refine zaa ?_
 refine zao rfl ?_
 refine zae ?_
 try simp only [Ex.thnH, Ex.inBlockH, ↓reduceIte, Nat.reduceEqDiff]
 refine hK4 _ _ ?_; try clear hK4 K4
 refine zaV ?_
 refine CW_loop (fun m_ e H_ => ∃ (k : Nat) (v : Value) (rs : Option Nat) (Y : List RDX) (G : Hp), k ≤ X.length ∧ m_ = X.length - k ∧ NC H H_ (m.cr l).dv k v rs Y G ∧ G b2 = none ∧ G b4 = none ∧ G b5 = none ∧ H_ b2 = some (.cells (m.c (.slice a X.length cap)).toArray 38) ∧ H_ b4 = some (.cells #[.slice none 0 0, .int .i64 0, .int .i64 0, .bool false, .bool false] 38) ∧ H_ b5 = some (.cells #[v, .int .i64 m.steps, .int .i64 m.left, .bool false, .bool false] 38) ∧ Env.has [(1, .slice ka l.length kc), (2, .pointer (some ⟨b2, 0, none⟩)), (4, .pointer (some ⟨b4, 0, none⟩)), (5, .pointer (some ⟨b5, 0, none⟩)), (6, .int .i64 k)] e) (X.length) ?_ ?_
 ·skip
  refine ⟨0, .slice none 0 0, none, [], emptyHp, by omega, by omega, ⟨rfl, OwnS.nil _ _ _, (fun x hx => by simp at hx), le_empty _, (fun b hb => absurd rfl hb), (fun r hr => by cases hr), lhA, rfl⟩, rfl, rfl, rfl, hbA, hbA, hbA, rfl, rfl, rfl, rfl, rfl, trivial⟩
 intro m_ e_ H_ hI_
 obtain ⟨k, v, rs, Y, G, hkl_, rfl, hN, g2, g4, g5, k2, k4, k5, he⟩ := hI_
 refine CW_env he.sub ?_; clear he e_
 obtain ⟨HA, hHA⟩ : ∃ G : Hp, G = H_ := ⟨_, rfl⟩
 subst hHA
 have hOld := hN.old
 obtain ⟨va, vc, rfl⟩ := hN.own.holds.form
 refine zad (fun K5 hK5 => ?_)
 refine zad (fun K6 hK6 => ?_)
 refine zaa ?_
 refine zam rfl ?_
 refine zac (fun K hK r => ?_)
 simp only [zah, fa38_0, zap, Nat.reduceAdd, Nat.zero_add, eX, ↓reduceIte, Nat.reduceEqDiff, Int.reduceToNat]
 refine hK _ _ ?_; clear hK K
 refine zac (fun K hK r => ?_)
 simp only [zan, eX, ↓reduceIte, Nat.reduceEqDiff, Int.reduceToNat]
 refine zak Try.underlying36 rfl hbA ldA ?_
 try simp only [eX, ↓reduceIte, Nat.reduceEqDiff, Int.reduceToNat]
 refine hK _ _ ?_; clear hK K
 refine zac (fun K hK r => ?_)
 simp only [zaM, l_len, List.map_toArray, List.map_cons, List.map_nil, zaS _ _ Try.underlying36, eX, ↓reduceIte, Nat.reduceEqDiff, Int.reduceToNat]
 refine hK _ _ ?_; clear hK K
 refine zac (fun K hK r => ?_)
 simp (disch := (first | omega | decide)) only [zaF, zaH, b_lss, zaq, zar, zat, zau, zas, zav, Bool.not_true, Bool.not_false, eX, ↓reduceIte, Nat.reduceEqDiff, Int.reduceToNat]
 refine hK _ _ ?_; clear hK K
 refine zae ?_
 try simp only [Ex.thnH, Ex.inBlockH, ↓reduceIte, Nat.reduceEqDiff]
 refine hK6 _ _ ?_; try clear hK6 K6
 refine zaG (fun r => rfl) (fun c23 => ?_) (fun c23 => ?_)
 ·first
  |(exfalso; exact cnA c23; done)
  |skip
   (try simp only [decide_eq_true_eq, decide_eq_false_iff_not, Bool.not_eq_true, Bool.not_eq_false, Bool.and_eq_true, Bool.or_eq_true, Bool.or_eq_false_iff, Bool.not_eq_eq_eq_not, Bool.not_true, Bool.not_false] at c23)
   obtain ⟨bw, ow, cw, Tw, Fw, ew, hbw, hsw, atw⟩ := hX.h.at (by omega)
   have hxok := hX.ok _ (getD_mem' (show k < X.length by omega))
   have hgx := hg k (by omega)
   have hL := hgx.lo
   have hwl := Nat.le_trans hgx.w hn
   have mk := Nat.mul_le_mul_right 2 (show k + 1 ≤ X.length by omega)
   refine zaO ?_
   try simp only [Ex.thnH, Ex.inBlockH, ↓reduceIte, Nat.reduceEqDiff]
   refine hK5 _ _ ?_; try clear hK5 K5
   refine zad (fun K7 hK7 => ?_)
   refine zaV ?_
   refine zad (fun K8 hK8 => ?_)
   refine zaa ?_
   refine zac (fun K hK r => ?_)
   simp only [zah, fa38_0, zap, Nat.reduceAdd, Nat.zero_add, eX, ↓reduceIte, Nat.reduceEqDiff, Int.reduceToNat]
   refine hK _ _ ?_; clear hK K
   refine zac (fun K hK r => ?_)
   simp only [zan, eX, ↓reduceIte, Nat.reduceEqDiff, Int.reduceToNat]
   refine zak Try.underlying36 rfl hbA ldA ?_
   try simp only [eX, ↓reduceIte, Nat.reduceEqDiff, Int.reduceToNat]
   refine hK _ _ ?_; clear hK K
   refine zam rfl ?_
   refine zac (fun K hK r => ?_)
   simp only [zaK, eX, ↓reduceIte, Nat.reduceEqDiff, Int.reduceToNat]
   refine zbi Try.underlying36 sz87 ew ixA ixA ?_
   try simp only [Int.toNat_natCast]
   refine hK _ _ ?_; clear hK K
   refine zac (fun K hK r => ?_)
   simp only [zan, eX, ↓reduceIte, Nat.reduceEqDiff, Int.reduceToNat]
   refine zaC Try.underlying87 rfl sz87 (hOld _ _ hbw) (by omega) ?_
   rw [ext_at RDX.len atw rfl k (by omega) hsw]
   refine hK _ _ ?_; clear hK K
   refine zac (fun K hK r => ?_)
   simp only [x_alloc, zr87, zal, Value.cells, eX, ↓reduceIte, Nat.reduceEqDiff, Int.reduceToNat]
   intro b7 hb7
   try have n7_b2 : b2 ≠ b7 := zai hbA hb7
   try have n7_b4 : b4 ≠ b7 := zai hbA hb7
   try have n7_b5 : b5 ≠ b7 := zai hbA hb7
   have f7_H : H b7 = none := zaj lhA hb7
   try simp only [eX, ↓reduceIte, Nat.reduceEqDiff, Int.reduceToNat]
   refine hK _ _ ?_; clear hK K
   refine zbq rfl (zaJ) (fun K hK r => ?_)
   simp only [zaL, eX, ↓reduceIte, Nat.reduceEqDiff, Int.reduceToNat]
   first | refine zaz sz87 bdA hbA bdA plA (by decide) ?_ | refine zaI sz87 bdA hbA bdA plA (by decide) ?_
   try simp only [eX, ↓reduceIte, Nat.reduceEqDiff, Int.reduceToNat]
   refine hK _ _ ?_; clear hK K
   refine zae ?_
   try simp only [Ex.thnH, Ex.inBlockH, ↓reduceIte, Nat.reduceEqDiff]
   refine hK8 _ _ ?_; try clear hK8 K8
   refine zad (fun K9 hK9 => ?_)
   refine zaa ?_
   refine zac (fun K hK r => ?_)
   simp only [zbn, List.map_toArray, List.map_cons, List.map_nil, eX, ↓reduceIte, Nat.reduceEqDiff, Int.reduceToNat]
   refine zbm (vs := []) Try.underlying84 sz45 zr45 rfl bsA (by first | decide | (simp; done)) ?_
   simp only [List.flatMap_cons, List.flatMap_nil, Value.cells, List.append_nil, List.cons_append, List.nil_append, List.length_cons, List.length_nil, Nat.zero_add, Nat.reduceAdd]
   intro b31 hb31
   try have n31_b2 : b2 ≠ b31 := zai hbA hb31
   try have n31_b4 : b4 ≠ b31 := zai hbA hb31
   try have n31_b5 : b5 ≠ b31 := zai hbA hb31
   try have n31_b7 : b7 ≠ b31 := zai hbA hb31
   have f31_H : H b31 = none := zaj lhA hb31
   try simp only [eX, ↓reduceIte, Nat.reduceEqDiff, Int.reduceToNat]
   refine hK _ _ ?_; clear hK K
   refine zac (fun K hK r => ?_)
   simp only [zah, fa87_0, zap, Nat.reduceAdd, Nat.zero_add, eX, ↓reduceIte, Nat.reduceEqDiff, Int.reduceToNat]
   refine hK _ _ ?_; clear hK K
   refine zac (fun K hK r => ?_)
   simp only [zan, eX, ↓reduceIte, Nat.reduceEqDiff, Int.reduceToNat]
   refine zak Try.underlying84 rfl hbA ldA ?_
   try simp only [eX, ↓reduceIte, Nat.reduceEqDiff, Int.reduceToNat]
   refine hK _ _ ?_; clear hK K
   refine zac (fun K hK r => ?_)
   simp only [zaM, l_append, List.map_toArray, List.map_cons, List.map_nil, eX, ↓reduceIte, Nat.reduceEqDiff, Int.reduceToNat]
   obtain ⟨HQ, hHQ⟩ : ∃ G : Hp, G = HA.upd b7 (.cells (X.getD k default).c.toArray 87) := ⟨_, rfl⟩
   have h31 : HQ b31 = none := by rw [hHQ]; exact hb31
   rw [← hHQ]
   refine Lt_appendNew Try.underlying84 sz45 by45 (by decide) zr45 rfl _ (m := (X.getD k default).d.sec.length) (ds := secs (X.getD k default).d.sec) (zax _ _ _) (hxok.s.le (Le.trans hOld (Le.trans (le_upd _ _ _ hb7) (by rw [hHQ]; exact le_upd _ _ _ hb31)))) (secs_plain _) (by have := hgx.hi; omega) ?_
   intro v34 H34 rs34 hg34 ho34 hr34
   have lQ34 : Le HQ H34 := fun z o hz => hg34.known z o ((zaA _ _ (zai hz h31)).trans hz) (fun e => by cases e; rw [h31] at hz; cases hz)
   obtain ⟨rb, c34, c34', rfl, rfl, hc34, hn34, hs34⟩ := ho34.full hL
   have hrn : HQ rb = none := (hr34 rb rfl).elim (fun e => by rw [e]; exact h31) (fun e => upd_none e)
   refine hK _ _ ?_; clear hK K
   refine zao rfl ?_
   refine zae ?_
   try simp only [Ex.thnH, Ex.inBlockH, ↓reduceIte, Nat.reduceEqDiff]
   refine hK9 _ _ ?_; try clear hK9 K9
   refine zad (fun K10 hK10 => ?_)
   refine zad (fun K11 hK11 => ?_)
   refine zaa ?_
   refine zao rfl ?_
   refine zae ?_
   try simp only [Ex.thnH, Ex.inBlockH, ↓reduceIte, Nat.reduceEqDiff]
   refine hK11 _ _ ?_; try clear hK11 K11
   refine zaV ?_
   refine CW_loop (fun m_ e H_ => ∃ j : Nat, j ≤ (X.getD k default).d.wait.length ∧ m_ = (X.getD k default).d.wait.length - j ∧ Le HQ H_ ∧ OwnS H_ 45 64 (.slice (some ⟨rb, 0, none⟩) (X.getD k default).d.sec.length c34) (X.getD k default).d.sec.length (secs (crW (fun n => keepOf l (k : Int) n) (X.getD k default).d.wait (X.getD k default).d.sec j)) (some rb) ∧ Env.has [(1, .slice ka l.length kc), (2, .pointer (some ⟨b2, 0, none⟩)), (4, .pointer (some ⟨b4, 0, none⟩)), (5, .pointer (some ⟨b5, 0, none⟩)), (6, .int .i64 k), (7, .pointer (some ⟨b7, 0, none⟩)), (8, .slice (some ⟨rb, 0, none⟩) (X.getD k default).d.sec.length c34), (9, .int .i64 j)] e) ((X.getD k default).d.wait.length) ?_ ?_
   ·skip
    exact ⟨0, by omega, by omega, lQ34, ho34, rfl, rfl, rfl, rfl, rfl, rfl, rfl, rfl, trivial⟩
   intro m_ e_ H_ hI_
   obtain ⟨j, hj, rfl, hlQ, hO, he⟩ := hI_
   refine CW_env he.sub ?_; clear he e_
   obtain ⟨HB, hHB⟩ : ∃ G : Hp, G = H_ := ⟨_, rfl⟩
   subst hHB
   have k7 : HB b7 = some (.cells (X.getD k default).c.toArray 87) := hlQ _ _ (by rw [hHQ]; exact zax _ _ _)
   have hkk : Le H HB := Le.trans hOld (Le.trans (by rw [hHQ]; exact le_upd _ _ _ hb7) hlQ)
   refine zad (fun K12 hK12 => ?_)
   refine zad (fun K13 hK13 => ?_)
   refine zaa ?_
   refine zam rfl ?_
   refine zac (fun K hK r => ?_)
   simp only [zah, fa87_1, zap, Nat.reduceAdd, Nat.zero_add, eX, ↓reduceIte, Nat.reduceEqDiff, Int.reduceToNat]
   refine hK _ _ ?_; clear hK K
   refine zac (fun K hK r => ?_)
   simp only [zan, eX, ↓reduceIte, Nat.reduceEqDiff, Int.reduceToNat]
   refine zak Try.underlying85 rfl hbA ldA ?_
   try simp only [eX, ↓reduceIte, Nat.reduceEqDiff, Int.reduceToNat]
   refine hK _ _ ?_; clear hK K
   refine zac (fun K hK r => ?_)
   simp only [zaM, l_len, List.map_toArray, List.map_cons, List.map_nil, zaS _ _ Try.underlying85, eX, ↓reduceIte, Nat.reduceEqDiff, Int.reduceToNat]
   refine hK _ _ ?_; clear hK K
   refine zac (fun K hK r => ?_)
   simp (disch := (first | omega | decide)) only [zaF, zaH, b_lss, zaq, zar, zat, zau, zas, zav, Bool.not_true, Bool.not_false, eX, ↓reduceIte, Nat.reduceEqDiff, Int.reduceToNat]
   refine hK _ _ ?_; clear hK K
   refine zae ?_
   try simp only [Ex.thnH, Ex.inBlockH, ↓reduceIte, Nat.reduceEqDiff]
   refine hK13 _ _ ?_; try clear hK13 K13
   refine zaG (fun r => rfl) (fun c39 => ?_) (fun c39 => ?_)
   ·first
    |(exfalso; exact cnA c39; done)
    |skip
     (try simp only [decide_eq_true_eq, decide_eq_false_iff_not, Bool.not_eq_true, Bool.not_eq_false, Bool.and_eq_true, Bool.or_eq_true, Bool.or_eq_false_iff, Bool.not_eq_eq_eq_not, Bool.not_true, Bool.not_false] at c39)
     obtain ⟨bv, ov, cv, Tv, Fv, ev, hbv, hsv, atv⟩ := hxok.w.at (by omega)
     have hik := hgx.at_ j (by omega)
     have mj := Nat.mul_le_mul_right 65 (show j + 1 ≤ (X.getD k default).d.wait.length by omega)
     have mi := Nat.mul_le_mul_right 64 (show ((X.getD k default).d.wait.getD j default).at_.toNat + 1 ≤ (X.getD k default).d.sec.length by omega)
     refine zaO ?_
     try simp only [Ex.thnH, Ex.inBlockH, ↓reduceIte, Nat.reduceEqDiff]
     refine hK12 _ _ ?_; try clear hK12 K12
     refine CW_cut (fun e H_ => Le HQ H_ ∧ OwnS H_ 45 64 (.slice (some ⟨rb, 0, none⟩) (X.getD k default).d.sec.length c34) (X.getD k default).d.sec.length (secs (crW (fun n => keepOf l (k : Int) n) (X.getD k default).d.wait (X.getD k default).d.sec (j + 1))) (some rb) ∧ Env.has [(1, .slice ka l.length kc), (2, .pointer (some ⟨b2, 0, none⟩)), (4, .pointer (some ⟨b4, 0, none⟩)), (5, .pointer (some ⟨b5, 0, none⟩)), (6, .int .i64 k), (7, .pointer (some ⟨b7, 0, none⟩)), (8, .slice (some ⟨rb, 0, none⟩) (X.getD k default).d.sec.length c34), (9, .int .i64 j)] e) ?_ ?_
     ·skip
      refine zaV ?_
      refine zad (fun K14 hK14 => ?_)
      refine zaa ?_
      refine zao rfl ?_
      refine zae ?_
      try simp only [Ex.thnH, Ex.inBlockH, ↓reduceIte, Nat.reduceEqDiff]
      refine hK14 _ _ ?_; try clear hK14 K14
      refine zaV ?_
      refine CW_loop (fun m_ e H_ => ∃ q : Nat, q ≤ l.length ∧ m_ = l.length - q ∧ H_ = HB ∧ (∀ t, t < q → ¬ ((l.getD t default).dev = (k : Int) ∧ (l.getD t default).n = (j : Int))) ∧ Env.has [(1, .slice ka l.length kc), (2, .pointer (some ⟨b2, 0, none⟩)), (4, .pointer (some ⟨b4, 0, none⟩)), (5, .pointer (some ⟨b5, 0, none⟩)), (6, .int .i64 k), (7, .pointer (some ⟨b7, 0, none⟩)), (8, .slice (some ⟨rb, 0, none⟩) (X.getD k default).d.sec.length c34), (9, .int .i64 j), (10, .int .i64 q)] e) (l.length) ?_ ?_
      ·skip
       exact ⟨0, by omega, by omega, rfl, (fun t ht => absurd ht (by omega)), rfl, rfl, rfl, rfl, rfl, rfl, rfl, rfl, rfl, trivial⟩
      intro m_ e_ H_ hI_
      obtain ⟨q, hq, rfl, hHe, hno, he⟩ := hI_
      refine CW_env he.sub ?_; clear he e_
      have hHe := hHe.symm
      subst hHe
      refine zad (fun K15 hK15 => ?_)
      refine zad (fun K16 hK16 => ?_)
      refine zaa ?_
      refine zam rfl ?_
      refine zam rfl ?_
      refine zac (fun K hK r => ?_)
      simp only [zaM, l_len, List.map_toArray, List.map_cons, List.map_nil, zaS _ _ Try.underlying46, eX, ↓reduceIte, Nat.reduceEqDiff, Int.reduceToNat]
      refine hK _ _ ?_; clear hK K
      refine zac (fun K hK r => ?_)
      simp (disch := (first | omega | decide)) only [zaF, zaH, b_lss, zaq, zar, zat, zau, zas, zav, Bool.not_true, Bool.not_false, eX, ↓reduceIte, Nat.reduceEqDiff, Int.reduceToNat]
      refine hK _ _ ?_; clear hK K
      refine zae ?_
      try simp only [Ex.thnH, Ex.inBlockH, ↓reduceIte, Nat.reduceEqDiff]
      refine hK16 _ _ ?_; try clear hK16 K16
      refine zaG (fun r => rfl) (fun c45 => ?_) (fun c45 => ?_)
      ·first
       |(exfalso; exact cnA c45; done)
       |skip
        (try simp only [decide_eq_true_eq, decide_eq_false_iff_not, Bool.not_eq_true, Bool.not_eq_false, Bool.and_eq_true, Bool.or_eq_true, Bool.or_eq_false_iff, Bool.not_eq_eq_eq_not, Bool.not_true, Bool.not_false] at c45)
        obtain ⟨bk, ok, ck, Tk, Fk, ek, hbk, hsk, atk⟩ := hk.at (by omega)
        refine zaO ?_
        try simp only [Ex.thnH, Ex.inBlockH, ↓reduceIte, Nat.reduceEqDiff]
        refine hK15 _ _ ?_; try clear hK15 K15
        refine zad (fun K17 hK17 => ?_)
        refine zaV ?_
        refine zad (fun K18 hK18 => ?_)
        refine zad (fun K19 hK19 => ?_)
        refine zaa ?_
        refine zam rfl ?_
        refine zam rfl ?_
        refine zac (fun K hK r => ?_)
        simp only [zaK, eX, ↓reduceIte, Nat.reduceEqDiff, Int.reduceToNat]
        refine zbi Try.underlying46 sz113 ek ixA ixA ?_
        try simp only [Int.toNat_natCast]
        refine hK _ _ ?_; clear hK K
        refine zac (fun K hK r => ?_)
        simp only [zah, fa113_0, zap, Nat.reduceAdd, Nat.zero_add, eX, ↓reduceIte, Nat.reduceEqDiff, Int.reduceToNat]
        refine hK _ _ ?_; clear hK K
        refine zac (fun K hK r => ?_)
        simp only [zan, eX, ↓reduceIte, Nat.reduceEqDiff, Int.reduceToNat]
        refine zak Try.underlying3 rfl ((show Le H _ from lhA) _ _ hbk) (v := .int .i64 (l.getD q default).dev) (by first | exact cell_at Kp.len atk rfl q (by omega) 0 (by decide) | (rw [cell_at Kp.len atk rfl q (by omega) 0 (by decide)]; rfl)) ?_
        refine hK _ _ ?_; clear hK K
        refine zam rfl ?_
        refine zac (fun K hK r => ?_)
        simp (disch := (first | omega | decide)) only [zaF, zaH, b_neq, zaq, zar, zat, zau, zas, zav, Bool.not_true, Bool.not_false, eX, ↓reduceIte, Nat.reduceEqDiff, Int.reduceToNat]
        refine hK _ _ ?_; clear hK K
        refine zam rfl ?_
        (first | refine zbc (d := 55) rfl (fun g55 => ?_) (fun g55 => ?_) | skip)
        all_goals try (exfalso; exact cnA g55)
        all_goals (try simp only [decide_eq_true_eq, decide_eq_false_iff_not, Bool.not_eq_true, Bool.not_eq_false, Bool.and_eq_true, Bool.or_eq_true, Bool.or_eq_false_iff, Bool.not_eq_eq_eq_not, Bool.not_true, Bool.not_false] at g55)
        all_goals
         try simp only [eX, ↓reduceIte, Nat.reduceEqDiff, Int.reduceToNat]
         first
         |refine zaf rfl (zab (by decide)) rfl (fun K hK r => ?_)
          simp only [zaU, eX, ↓reduceIte, Nat.reduceEqDiff, Int.reduceToNat]
          refine hK _ _ ?_; clear hK K
         |refine zag rfl (zab (by decide)) rfl ?_
          simp only [eX, ↓reduceIte, Nat.reduceEqDiff, Int.reduceToNat]
         first
         |refine zaf rfl (zab (by decide)) rfl (fun K hK r => ?_)
          simp only [zaU, eX, ↓reduceIte, Nat.reduceEqDiff, Int.reduceToNat]
          refine hK _ _ ?_; clear hK K
         |refine zag rfl (zab (by decide)) rfl ?_
          simp only [eX, ↓reduceIte, Nat.reduceEqDiff, Int.reduceToNat]
         first
         |refine zaf rfl (zab (by decide)) rfl (fun K hK r => ?_)
          simp only [zaK, eX, ↓reduceIte, Nat.reduceEqDiff, Int.reduceToNat]
          refine zbi Try.underlying46 sz113 ek ixA ixA ?_
          try simp only [Int.toNat_natCast]
          refine hK _ _ ?_; clear hK K
         |refine zag rfl (zab (by decide)) rfl ?_
          simp only [eX, ↓reduceIte, Nat.reduceEqDiff, Int.reduceToNat]
         first
         |refine zaf rfl (zab (by decide)) rfl (fun K hK r => ?_)
          simp only [zah, fa113_1, zap, Nat.reduceAdd, Nat.zero_add, eX, ↓reduceIte, Nat.reduceEqDiff, Int.reduceToNat]
          refine hK _ _ ?_; clear hK K
         |refine zag rfl (zab (by decide)) rfl ?_
          simp only [eX, ↓reduceIte, Nat.reduceEqDiff, Int.reduceToNat]
         first
         |refine zaf rfl (zab (by decide)) rfl (fun K hK r => ?_)
          simp only [zan, eX, ↓reduceIte, Nat.reduceEqDiff, Int.reduceToNat]
          refine zak Try.underlying3 rfl ((show Le H _ from lhA) _ _ hbk) (v := .int .i64 (l.getD q default).n) (by first | exact cell_at Kp.len atk rfl q (by omega) 1 (by decide) | (rw [cell_at Kp.len atk rfl q (by omega) 1 (by decide)]; rfl)) ?_
          refine hK _ _ ?_; clear hK K
         |refine zag rfl (zab (by decide)) rfl ?_
          simp only [eX, ↓reduceIte, Nat.reduceEqDiff, Int.reduceToNat]
         first
         |refine zaf rfl (zab (by decide)) rfl (fun K hK r => ?_)
          simp only [zaU, eX, ↓reduceIte, Nat.reduceEqDiff, Int.reduceToNat]
          refine hK _ _ ?_; clear hK K
         |refine zag rfl (zab (by decide)) rfl ?_
          simp only [eX, ↓reduceIte, Nat.reduceEqDiff, Int.reduceToNat]
         first
         |refine zaf rfl (zab (by decide)) rfl (fun K hK r => ?_)
          simp (disch := (first | omega | decide)) only [zaF, zaH, b_neq, zaq, zar, zat, zau, zas, zav, Bool.not_true, Bool.not_false, eX, ↓reduceIte, Nat.reduceEqDiff, Int.reduceToNat]
          refine hK _ _ ?_; clear hK K
         |refine zag rfl (zab (by decide)) rfl ?_
          simp only [eX, ↓reduceIte, Nat.reduceEqDiff, Int.reduceToNat]
         refine zac (fun K hK r => ?_)
         simp only [zbp, zaZ, HL.ite_bool, if_true, if_false, Bool.false_eq_true, eX, ↓reduceIte, Nat.reduceEqDiff, Int.reduceToNat]
         refine hK _ _ ?_; clear hK K
         refine zae ?_
         try simp only [Ex.thnH, Ex.inBlockH, ↓reduceIte, Nat.reduceEqDiff]
         refine hK19 _ _ ?_; try clear hK19 K19
         refine zaG (fun r => rfl) (fun c63 => ?_) (fun c63 => ?_)
         ·first
          |(exfalso; exact cnA c63; done)
          |skip
           (try simp only [decide_eq_true_eq, decide_eq_false_iff_not, Bool.not_eq_true, Bool.not_eq_false, Bool.and_eq_true, Bool.or_eq_true, Bool.or_eq_false_iff, Bool.not_eq_eq_eq_not, Bool.not_true, Bool.not_false] at c63)
           have hno1 : ¬ ((l.getD q default).dev = (k : Int) ∧ (l.getD q default).n = (j : Int)) := by omega
           refine CW_exit ?_
           try simp only [Ex.thnH, Ex.inBlockH, ↓reduceIte, Nat.reduceEqDiff]
           refine hK17 _ _ ?_; try clear hK17 K17
           refine zaa ?_
           refine zam rfl ?_
           refine zac (fun K hK r => ?_)
           simp (disch := (first | omega | decide)) only [zaF, zaH, b_add, zaw, zaE, zaD, zaQ, eX, ↓reduceIte, Nat.reduceEqDiff, Int.reduceToNat]
           refine hK _ _ ?_; clear hK K
           refine zao rfl ?_
           refine zae ?_
           try simp only [Ex.thnH, Ex.inBlockH, ↓reduceIte, Nat.reduceEqDiff]
           refine ⟨l.length - (q + 1), by omega, q + 1, by omega, rfl, rfA, (fun t ht => ?_), rfl, rfl, rfl, rfl, rfl, rfl, rfl, rfl, rfl, trivial⟩
           by_cases e : t = q
           ·subst e; exact hno1
           ·exact hno t (by omega)
         ·first
          |(exfalso; exact cnA c63; done)
          |skip
           (try simp only [decide_eq_true_eq, decide_eq_false_iff_not, Bool.not_eq_true, Bool.not_eq_false, Bool.and_eq_true, Bool.or_eq_true, Bool.or_eq_false_iff, Bool.not_eq_eq_eq_not, Bool.not_true, Bool.not_false] at c63)
           have hyes : (l.getD q default).dev = (k : Int) ∧ (l.getD q default).n = (j : Int) := by omega
           refine zaO ?_
           try simp only [Ex.thnH, Ex.inBlockH, ↓reduceIte, Nat.reduceEqDiff]
           refine hK18 _ _ ?_; try clear hK18 K18
           refine zad (fun K20 hK20 => ?_)
           refine zaa ?_
           refine zac (fun K hK r => ?_)
           simp only [zah, fa87_1, zap, Nat.reduceAdd, Nat.zero_add, eX, ↓reduceIte, Nat.reduceEqDiff, Int.reduceToNat]
           refine hK _ _ ?_; clear hK K
           refine zac (fun K hK r => ?_)
           simp only [zan, eX, ↓reduceIte, Nat.reduceEqDiff, Int.reduceToNat]
           refine zak Try.underlying85 rfl hbA ldA ?_
           try simp only [eX, ↓reduceIte, Nat.reduceEqDiff, Int.reduceToNat]
           refine hK _ _ ?_; clear hK K
           refine zam rfl ?_
           refine zac (fun K hK r => ?_)
           simp only [zaK, eX, ↓reduceIte, Nat.reduceEqDiff, Int.reduceToNat]
           refine zbi Try.underlying85 sz115 ev ixA ixA ?_
           try simp only [Int.toNat_natCast]
           refine hK _ _ ?_; clear hK K
           refine zac (fun K hK r => ?_)
           simp only [zan, eX, ↓reduceIte, Nat.reduceEqDiff, Int.reduceToNat]
           refine zaC Try.underlying115 rfl sz115 (hkk _ _ hbv) (by omega) ?_
           rw [ext_at Wt.len atv rfl j (by omega) hsv]
           refine hK _ _ ?_; clear hK K
           refine zac (fun K hK r => ?_)
           simp only [x_alloc, zr115, zal, Value.cells, eX, ↓reduceIte, Nat.reduceEqDiff, Int.reduceToNat]
           intro b11 hb11
           try have n11_b2 : b2 ≠ b11 := zai hbA hb11
           try have n11_b4 : b4 ≠ b11 := zai hbA hb11
           try have n11_b5 : b5 ≠ b11 := zai hbA hb11
           try have n11_b7 : b7 ≠ b11 := zai hbA hb11
           try have n11_b31 : b31 ≠ b11 := zai hbA hb11
           have f11_H : H b11 = none := zaj lhA hb11
           try simp only [eX, ↓reduceIte, Nat.reduceEqDiff, Int.reduceToNat]
           refine hK _ _ ?_; clear hK K
           refine zbq rfl (zaJ) (fun K hK r => ?_)
           simp only [zaL, eX, ↓reduceIte, Nat.reduceEqDiff, Int.reduceToNat]
           refine zaz sz115 (by rw [List.size_toArray, Wt.len]) hbA (by simp [Sec.h]) (Wt.plain _) (by decide) ?_
           refine hK _ _ ?_; clear hK K
           refine zae ?_
           try simp only [Ex.thnH, Ex.inBlockH, ↓reduceIte, Nat.reduceEqDiff]
           refine hK20 _ _ ?_; try clear hK20 K20
           refine zad (fun K21 hK21 => ?_)
           refine zaa ?_
           refine zao rfl ?_
           refine zae ?_
           try simp only [Ex.thnH, Ex.inBlockH, ↓reduceIte, Nat.reduceEqDiff]
           refine hK21 _ _ ?_; try clear hK21 K21
           refine zad (fun K22 hK22 => ?_)
           refine zad (fun K23 hK23 => ?_)
           refine zaa ?_
           refine zam rfl ?_
           refine zam rfl ?_
           refine zac (fun K hK r => ?_)
           simp only [zaK, eX, ↓reduceIte, Nat.reduceEqDiff, Int.reduceToNat]
           refine zbi Try.underlying46 sz113 ek ixA ixA ?_
           try simp only [Int.toNat_natCast]
           refine hK _ _ ?_; clear hK K
           refine zac (fun K hK r => ?_)
           simp only [zah, fa113_2, zap, Nat.reduceAdd, Nat.zero_add, eX, ↓reduceIte, Nat.reduceEqDiff, Int.reduceToNat]
           refine hK _ _ ?_; clear hK K
           refine zac (fun K hK r => ?_)
           simp only [zan, eX, ↓reduceIte, Nat.reduceEqDiff, Int.reduceToNat]
           refine zak Try.underlying3 rfl ((show Le H _ from lhA) _ _ hbk) (v := .int .i64 (l.getD q default).tear) (by first | exact cell_at Kp.len atk rfl q (by omega) 2 (by decide) | (rw [cell_at Kp.len atk rfl q (by omega) 2 (by decide)]; rfl)) ?_
           refine hK _ _ ?_; clear hK K
           refine zac (fun K hK r => ?_)
           simp (disch := (first | omega | decide)) only [zaF, zaH, b_gtr, zaq, zar, zat, zau, zas, zav, Bool.not_true, Bool.not_false, eX, ↓reduceIte, Nat.reduceEqDiff, Int.reduceToNat]
           refine hK _ _ ?_; clear hK K
           refine zam rfl ?_
           (first | refine zbc (d := 75) rfl (fun g75 => ?_) (fun g75 => ?_) | skip)
           all_goals try (exfalso; exact cnA g75)
           all_goals (try simp only [decide_eq_true_eq, decide_eq_false_iff_not, Bool.not_eq_true, Bool.not_eq_false, Bool.and_eq_true, Bool.or_eq_true, Bool.or_eq_false_iff, Bool.not_eq_eq_eq_not, Bool.not_true, Bool.not_false] at g75)
           all_goals
            try simp only [eX, ↓reduceIte, Nat.reduceEqDiff, Int.reduceToNat]
            first
            |refine zaf rfl (zab (by decide)) rfl (fun K hK r => ?_)
             simp only [zaU, eX, ↓reduceIte, Nat.reduceEqDiff, Int.reduceToNat]
             refine hK _ _ ?_; clear hK K
            |refine zag rfl (zab (by decide)) rfl ?_
             simp only [eX, ↓reduceIte, Nat.reduceEqDiff, Int.reduceToNat]
            first
            |refine zaf rfl (zab (by decide)) rfl (fun K hK r => ?_)
             simp only [zaU, eX, ↓reduceIte, Nat.reduceEqDiff, Int.reduceToNat]
             refine hK _ _ ?_; clear hK K
            |refine zag rfl (zab (by decide)) rfl ?_
             simp only [eX, ↓reduceIte, Nat.reduceEqDiff, Int.reduceToNat]
            first
            |refine zaf rfl (zab (by decide)) rfl (fun K hK r => ?_)
             simp only [zaK, eX, ↓reduceIte, Nat.reduceEqDiff, Int.reduceToNat]
             refine zbi Try.underlying46 sz113 ek ixA ixA ?_
             try simp only [Int.toNat_natCast]
             refine hK _ _ ?_; clear hK K
            |refine zag rfl (zab (by decide)) rfl ?_
             simp only [eX, ↓reduceIte, Nat.reduceEqDiff, Int.reduceToNat]
            first
            |refine zaf rfl (zab (by decide)) rfl (fun K hK r => ?_)
             simp only [zah, fa113_2, zap, Nat.reduceAdd, Nat.zero_add, eX, ↓reduceIte, Nat.reduceEqDiff, Int.reduceToNat]
             refine hK _ _ ?_; clear hK K
            |refine zag rfl (zab (by decide)) rfl ?_
             simp only [eX, ↓reduceIte, Nat.reduceEqDiff, Int.reduceToNat]
            first
            |refine zaf rfl (zab (by decide)) rfl (fun K hK r => ?_)
             simp only [zan, eX, ↓reduceIte, Nat.reduceEqDiff, Int.reduceToNat]
             refine zak Try.underlying3 rfl ((show Le H _ from lhA) _ _ hbk) (v := .int .i64 (l.getD q default).tear) (by first | exact cell_at Kp.len atk rfl q (by omega) 2 (by decide) | (rw [cell_at Kp.len atk rfl q (by omega) 2 (by decide)]; rfl)) ?_
             refine hK _ _ ?_; clear hK K
            |refine zag rfl (zab (by decide)) rfl ?_
             simp only [eX, ↓reduceIte, Nat.reduceEqDiff, Int.reduceToNat]
            first
            |refine zaf rfl (zab (by decide)) rfl (fun K hK r => ?_)
             simp (disch := (first | omega | decide)) only [zaF, zaH, b_lss, zaq, zar, zat, zau, zas, zav, Bool.not_true, Bool.not_false, eX, ↓reduceIte, Nat.reduceEqDiff, Int.reduceToNat]
             refine hK _ _ ?_; clear hK K
            |refine zag rfl (zab (by decide)) rfl ?_
             simp only [eX, ↓reduceIte, Nat.reduceEqDiff, Int.reduceToNat]
            refine zac (fun K hK r => ?_)
            simp only [zbp, zaZ, HL.ite_bool, if_true, if_false, Bool.false_eq_true, eX, ↓reduceIte, Nat.reduceEqDiff, Int.reduceToNat]
            refine hK _ _ ?_; clear hK K
            refine zae ?_
            try simp only [Ex.thnH, Ex.inBlockH, ↓reduceIte, Nat.reduceEqDiff]
            refine hK23 _ _ ?_; try clear hK23 K23
            refine zaG (fun r => rfl) (fun c82 => ?_) (fun c82 => ?_)
            ·first
             |(exfalso; exact cnA c82; done)
             |skip
              (try simp only [decide_eq_true_eq, decide_eq_false_iff_not, Bool.not_eq_true, Bool.not_eq_false, Bool.and_eq_true, Bool.or_eq_true, Bool.or_eq_false_iff, Bool.not_eq_eq_eq_not, Bool.not_true, Bool.not_false] at c82)
              refine zaa ?_
              refine zam rfl ?_
              refine zam rfl ?_
              refine zac (fun K hK r => ?_)
              simp only [zaK, eX, ↓reduceIte, Nat.reduceEqDiff, Int.reduceToNat]
              refine zbi Try.underlying46 sz113 ek ixA ixA ?_
              try simp only [Int.toNat_natCast]
              refine hK _ _ ?_; clear hK K
              refine zac (fun K hK r => ?_)
              simp only [zah, fa113_2, zap, Nat.reduceAdd, Nat.zero_add, eX, ↓reduceIte, Nat.reduceEqDiff, Int.reduceToNat]
              refine hK _ _ ?_; clear hK K
              refine zac (fun K hK r => ?_)
              simp only [zan, eX, ↓reduceIte, Nat.reduceEqDiff, Int.reduceToNat]
              refine zak Try.underlying3 rfl ((show Le H _ from lhA) _ _ hbk) (v := .int .i64 (l.getD q default).tear) (by first | exact cell_at Kp.len atk rfl q (by omega) 2 (by decide) | (rw [cell_at Kp.len atk rfl q (by omega) 2 (by decide)]; rfl)) ?_
              obtain ⟨mo, hmo, hmo2⟩ : ∃ mo : Nat, (mo : Int) = (l.getD q default).tear ∧ mo = (if 0 < (l.getD q default).tear ∧ (l.getD q default).tear < 64 then (l.getD q default).tear.toNat else 64) := ⟨(l.getD q default).tear.toNat, by omega, by rw [if_pos (by omega)]⟩
              refine hK _ _ ?_; clear hK K
              refine zao rfl ?_
              refine zae ?_
              try simp only [Ex.thnH, Ex.inBlockH, ↓reduceIte, Nat.reduceEqDiff]
              refine hK22 _ _ ?_; try clear hK22 K22
              refine zad (fun K24 hK24 => ?_)
              refine zad (fun K25 hK25 => ?_)
              refine zaa ?_
              refine zao rfl ?_
              refine zae ?_
              try simp only [Ex.thnH, Ex.inBlockH, ↓reduceIte, Nat.reduceEqDiff]
              refine hK25 _ _ ?_; try clear hK25 K25
              refine zaV ?_
              refine CW_loop (fun m_ e H_ => ∃ b : Nat, b ≤ mo ∧ m_ = mo - b ∧ Le HQ H_ ∧ OwnS H_ 45 64 (.slice (some ⟨rb, 0, none⟩) (X.getD k default).d.sec.length c34) (X.getD k default).d.sec.length (secs ((crW (fun n => keepOf l (k : Int) n) (X.getD k default).d.wait (X.getD k default).d.sec j).set ((X.getD k default).d.wait.getD j default).at_.toNat (mixS ((X.getD k default).d.wait.getD j default).x ((crW (fun n => keepOf l (k : Int) n) (X.getD k default).d.wait (X.getD k default).d.sec j).getD ((X.getD k default).d.wait.getD j default).at_.toNat default) b))) (some rb) ∧ H_ b11 = some (.cells ((X.getD k default).d.wait.getD j default).c.toArray 115) ∧ Env.has [(1, .slice ka l.length kc), (2, .pointer (some ⟨b2, 0, none⟩)), (4, .pointer (some ⟨b4, 0, none⟩)), (5, .pointer (some ⟨b5, 0, none⟩)), (6, .int .i64 k), (7, .pointer (some ⟨b7, 0, none⟩)), (8, .slice (some ⟨rb, 0, none⟩) (X.getD k default).d.sec.length c34), (9, .int .i64 j), (10, .int .i64 q), (11, .pointer (some ⟨b11, 0, none⟩)), (12, .int .i64 (mo : Int)), (13, .int .i64 b)] e) (mo) ?_ ?_
              ·skip
               refine ⟨0, by omega, by omega, Le.trans hlQ (le_upd _ _ _ (by assumption)), ?_, zax _ _ _, rfl, rfl, rfl, rfl, rfl, rfl, rfl, rfl, rfl, rfl, ?_, rfl, trivial⟩
               ·rw [set_same (by rw [crW_len]; omega)]
                exact hO.make (by assumption)
               ·first
                |(show some (Value.int _ _) = some (Value.int _ _); rw [hmo]; done)
                |(show some (Value.int _ _) = some (Value.int _ _); rw [hmo]; rfl)
              intro m_ e_ H_ hI_
              obtain ⟨b, hbm_, rfl, hlQ3, hO3, k11, he⟩ := hI_
              refine CW_env he.sub ?_; clear he e_
              obtain ⟨HD, hHD⟩ : ∃ G : Hp, G = H_ := ⟨_, rfl⟩
              subst hHD
              refine zad (fun K26 hK26 => ?_)
              refine zad (fun K27 hK27 => ?_)
              refine zaa ?_
              refine zam rfl ?_
              refine zam rfl ?_
              refine zac (fun K hK r => ?_)
              simp (disch := (first | omega | decide)) only [zaF, zaH, b_lss, zaq, zar, zat, zau, zas, zav, Bool.not_true, Bool.not_false, eX, ↓reduceIte, Nat.reduceEqDiff, Int.reduceToNat]
              refine hK _ _ ?_; clear hK K
              refine zae ?_
              try simp only [Ex.thnH, Ex.inBlockH, ↓reduceIte, Nat.reduceEqDiff]
              refine hK27 _ _ ?_; try clear hK27 K27
              refine zaG (fun r => rfl) (fun c90 => ?_) (fun c90 => ?_)
              ·first
               |(exfalso; exact cnA c90; done)
               |skip
                (try simp only [decide_eq_true_eq, decide_eq_false_iff_not, Bool.not_eq_true, Bool.not_eq_false, Bool.and_eq_true, Bool.or_eq_true, Bool.or_eq_false_iff, Bool.not_eq_eq_eq_not, Bool.not_true, Bool.not_false] at c90)
                have hb64 : b < 64 := by
                 have : mo ≤ 64 := by rw [hmo2]; split <;> omega
                 omega
                refine zaO ?_
                try simp only [Ex.thnH, Ex.inBlockH, ↓reduceIte, Nat.reduceEqDiff]
                refine hK26 _ _ ?_; try clear hK26 K26
                refine zad (fun K28 hK28 => ?_)
                refine zaV ?_
                obtain ⟨R21, hR21⟩ : ∃ R : Hp, R = emptyHp.upd b11 (.cells ((X.getD k default).d.wait.getD j default).c.toArray 115) := ⟨_, rfl⟩
                refine CW_drawR [0, 0, 1, 0, 0, 0, 0, 1, 0, 0, 3] [0, 1, 2, 3, 4, 5, 6, 7, 8, 9, 10] R21 (by kernel_rfl) (by kernel_rfl) (by subst hR21; exact le_put (le_empty _) k11) (fun lR21 => ?_)
                apply zay rfl (zab (by decide)) rfl
                ·intro r
                 simp only [zaU, eX, ↓reduceIte, Nat.reduceEqDiff]
                 exact ⟨rfl, Le.refl _⟩
                simp only [eX, ↓reduceIte, Nat.reduceEqDiff, Int.reduceToNat]
                apply zay rfl (zab (by decide)) rfl
                ·intro r
                 simp only [zah, fa115_0, zap, Nat.reduceAdd, Nat.zero_add, eX, ↓reduceIte, Nat.reduceEqDiff]
                 exact ⟨rfl, Le.refl _⟩
                simp only [eX, ↓reduceIte, Nat.reduceEqDiff, Int.reduceToNat]
                apply TW_look rfl (zab (by decide)) rfl
                ·intro r
                 simp only [zan, eX, ↓reduceIte, Nat.reduceEqDiff]
                 refine zak Try.underlying3 rfl hbA ldA ?_
                 exact ⟨rfl, Le.refl _⟩
                simp only [eX, ↓reduceIte, Nat.reduceEqDiff, Int.reduceToNat]
                apply zay rfl (zab (by decide)) rfl
                ·intro r
                 simp only [zaU, eX, ↓reduceIte, Nat.reduceEqDiff]
                 exact ⟨rfl, Le.refl _⟩
                simp only [eX, ↓reduceIte, Nat.reduceEqDiff, Int.reduceToNat]
                apply zay rfl (zab (by decide)) rfl
                ·intro r
                 simp only [zaU, eX, ↓reduceIte, Nat.reduceEqDiff]
                 exact ⟨rfl, Le.refl _⟩
                simp only [eX, ↓reduceIte, Nat.reduceEqDiff, Int.reduceToNat]
                apply zay rfl (zab (by decide)) rfl
                ·intro r
                 simp only [zah, fa115_1, zap, Nat.reduceAdd, Nat.zero_add, eX, ↓reduceIte, Nat.reduceEqDiff]
                 exact ⟨rfl, Le.refl _⟩
                simp only [eX, ↓reduceIte, Nat.reduceEqDiff, Int.reduceToNat]
                apply zay rfl (zab (by decide)) rfl
                ·intro r
                 simp only [zaK, eX, ↓reduceIte, Nat.reduceEqDiff]
                 refine Lt_indexA Try.underlying45 sz5 ixA ixA ?_
                 try simp only [zap, Nat.mul_one, Nat.zero_add, Int.toNat_natCast]
                 exact ⟨rfl, Le.refl _⟩
                simp only [eX, ↓reduceIte, Nat.reduceEqDiff, Int.reduceToNat]
                apply TW_look rfl (zab (by decide)) rfl
                ·intro r
                 simp only [zan, eX, ↓reduceIte, Nat.reduceEqDiff]
                 refine zak Try.underlying5 rfl (by rw [hR21]; exact zax _ _ _) (v := .int .u8 (((X.getD k default).d.wait.getD j default).x.b.getD b 0)) (wt_byte _ (by omega)) ?_
                 exact ⟨rfl, Le.refl _⟩
                simp only [eX, ↓reduceIte, Nat.reduceEqDiff, Int.reduceToNat]
                apply zay rfl (zab (by decide)) rfl
                ·intro r
                 simp only [zaK, eX, ↓reduceIte, Nat.reduceEqDiff]
                 refine zbi Try.underlying84 sz45 rfl ixA ixA ?_
                 try simp only [Nat.zero_add]
                 exact ⟨rfl, Le.refl _⟩
                simp only [eX, ↓reduceIte, Nat.reduceEqDiff, Int.reduceToNat]
                apply zay rfl (zab (by decide)) rfl
                ·intro r
                 simp only [zaK, eX, ↓reduceIte, Nat.reduceEqDiff]
                 refine Lt_indexA Try.underlying45 sz5 ixA ixA ?_
                 try simp only [zap, Nat.mul_one, Nat.zero_add, Int.toNat_natCast]
                 exact ⟨rfl, Le.refl _⟩
                simp only [eX, ↓reduceIte, Nat.reduceEqDiff, Int.reduceToNat]
                refine TW_last rfl (zaJ) rfl (fun K hK r => ?_)
                simp only [zaL, eX, ↓reduceIte, Nat.reduceEqDiff, Int.reduceToNat]
                obtain ⟨r_, cap_, cr, e1, e2, hcr, hnr, hsr⟩ := hO3.full hL
                cases e1
                cases e2
                have mc := Nat.mul_le_mul_right 64 (show ((X.getD k default).d.wait.getD j default).at_.toNat + 1 ≤ c34 by omega)
                refine zaY sz5 hcr (by rw [hsr]; omega) (plain_int _ _) fzA ?_
                have hO' := OwnS.byte hO3 hcr (crW_len _ _ _ _).symm (i := ((X.getD k default).d.wait.getD j default).at_.toNat) (by omega) hb64
                refine hK _ _ ?_; clear hK K
                refine TW_nil ?_
                try simp only [Ex.thnH, Ex.inBlockH, ↓reduceIte, Nat.reduceEqDiff]
                refine hK28 _ _ ?_; try clear hK28 K28
                refine zaa ?_
                refine zam rfl ?_
                refine zac (fun K hK r => ?_)
                simp (disch := (first | omega | decide)) only [zaF, zaH, b_add, zaw, zaE, zaD, zaQ, eX, ↓reduceIte, Nat.reduceEqDiff, Int.reduceToNat]
                refine hK _ _ ?_; clear hK K
                refine zao rfl ?_
                refine zae ?_
                try simp only [Ex.thnH, Ex.inBlockH, ↓reduceIte, Nat.reduceEqDiff]
                exact ⟨mo - (b + 1), by omega, b + 1, by omega, rfl, zaP hlQ3 hrn, hO', (zaA _ _ (fun e => hO3.neT k11 (by decide) (by rw [e]))).trans k11, rfl, rfl, rfl, rfl, rfl, rfl, rfl, rfl, rfl, rfl, rfl, rfl, trivial⟩
              ·first
               |(exfalso; exact cnA c90; done)
               |skip
                (try simp only [decide_eq_true_eq, decide_eq_false_iff_not, Bool.not_eq_true, Bool.not_eq_false, Bool.and_eq_true, Bool.or_eq_true, Bool.or_eq_false_iff, Bool.not_eq_eq_eq_not, Bool.not_true, Bool.not_false] at c90)
                have hbm : b = mo := by omega
                have hlF : Le HQ HD := hlQ3
                have hfin : OwnS HD 45 64 (.slice (some ⟨rb, 0, none⟩) (X.getD k default).d.sec.length c34) (X.getD k default).d.sec.length (secs (crW (fun n => keepOf l (k : Int) n) (X.getD k default).d.wait (X.getD k default).d.sec (j + 1))) (some rb) := by
                 rw [crW_at (keepOf_at (by omega) hyes.1 hyes.2 hno) hmo2, ← hbm]
                 exact hO3
                refine CW_exit ?_
                try simp only [Ex.thnH, Ex.inBlockH, ↓reduceIte, Nat.reduceEqDiff]
                refine hK24 _ _ ?_; try clear hK24 K24
                refine CW_exit ?_
                try simp only [Ex.thnH, Ex.inBlockH, ↓reduceIte, Nat.reduceEqDiff]
                exact ⟨hlF, hfin, rfl, rfl, rfl, rfl, rfl, rfl, rfl, rfl, trivial⟩
            ·first
             |(exfalso; exact cnA c82; done)
             |skip
              (try simp only [decide_eq_true_eq, decide_eq_false_iff_not, Bool.not_eq_true, Bool.not_eq_false, Bool.and_eq_true, Bool.or_eq_true, Bool.or_eq_false_iff, Bool.not_eq_eq_eq_not, Bool.not_true, Bool.not_false] at c82)
              obtain ⟨mo, hmo, hmo2⟩ : ∃ mo : Nat, (mo : Int) = 64 ∧ mo = (if 0 < (l.getD q default).tear ∧ (l.getD q default).tear < 64 then (l.getD q default).tear.toNat else 64) := ⟨64, rfl, by rw [if_neg (by omega)]⟩
              refine zaO ?_
              try simp only [Ex.thnH, Ex.inBlockH, ↓reduceIte, Nat.reduceEqDiff]
              refine hK22 _ _ ?_; try clear hK22 K22
              refine zad (fun K29 hK29 => ?_)
              refine zad (fun K30 hK30 => ?_)
              refine zaa ?_
              refine zao rfl ?_
              refine zae ?_
              try simp only [Ex.thnH, Ex.inBlockH, ↓reduceIte, Nat.reduceEqDiff]
              refine hK30 _ _ ?_; try clear hK30 K30
              refine zaV ?_
              refine CW_loop (fun m_ e H_ => ∃ b : Nat, b ≤ mo ∧ m_ = mo - b ∧ Le HQ H_ ∧ OwnS H_ 45 64 (.slice (some ⟨rb, 0, none⟩) (X.getD k default).d.sec.length c34) (X.getD k default).d.sec.length (secs ((crW (fun n => keepOf l (k : Int) n) (X.getD k default).d.wait (X.getD k default).d.sec j).set ((X.getD k default).d.wait.getD j default).at_.toNat (mixS ((X.getD k default).d.wait.getD j default).x ((crW (fun n => keepOf l (k : Int) n) (X.getD k default).d.wait (X.getD k default).d.sec j).getD ((X.getD k default).d.wait.getD j default).at_.toNat default) b))) (some rb) ∧ H_ b11 = some (.cells ((X.getD k default).d.wait.getD j default).c.toArray 115) ∧ Env.has [(1, .slice ka l.length kc), (2, .pointer (some ⟨b2, 0, none⟩)), (4, .pointer (some ⟨b4, 0, none⟩)), (5, .pointer (some ⟨b5, 0, none⟩)), (6, .int .i64 k), (7, .pointer (some ⟨b7, 0, none⟩)), (8, .slice (some ⟨rb, 0, none⟩) (X.getD k default).d.sec.length c34), (9, .int .i64 j), (10, .int .i64 q), (11, .pointer (some ⟨b11, 0, none⟩)), (12, .int .i64 (mo : Int)), (13, .int .i64 b)] e) (mo) ?_ ?_
              ·skip
               refine ⟨0, by omega, by omega, Le.trans hlQ (le_upd _ _ _ (by assumption)), ?_, zax _ _ _, rfl, rfl, rfl, rfl, rfl, rfl, rfl, rfl, rfl, rfl, ?_, rfl, trivial⟩
               ·rw [set_same (by rw [crW_len]; omega)]
                exact hO.make (by assumption)
               ·first
                |(show some (Value.int _ _) = some (Value.int _ _); rw [hmo]; done)
                |(show some (Value.int _ _) = some (Value.int _ _); rw [hmo]; rfl)
              intro m_ e_ H_ hI_
              obtain ⟨b, hbm_, rfl, hlQ3, hO3, k11, he⟩ := hI_
              refine CW_env he.sub ?_; clear he e_
              obtain ⟨HD, hHD⟩ : ∃ G : Hp, G = H_ := ⟨_, rfl⟩
              subst hHD
              refine zad (fun K31 hK31 => ?_)
              refine zad (fun K32 hK32 => ?_)
              refine zaa ?_
              refine zam rfl ?_
              refine zam rfl ?_
              refine zac (fun K hK r => ?_)
              simp (disch := (first | omega | decide)) only [zaF, zaH, b_lss, zaq, zar, zat, zau, zas, zav, Bool.not_true, Bool.not_false, eX, ↓reduceIte, Nat.reduceEqDiff, Int.reduceToNat]
              refine hK _ _ ?_; clear hK K
              refine zae ?_
              try simp only [Ex.thnH, Ex.inBlockH, ↓reduceIte, Nat.reduceEqDiff]
              refine hK32 _ _ ?_; try clear hK32 K32
              refine zaG (fun r => rfl) (fun c90 => ?_) (fun c90 => ?_)
              ·first
               |(exfalso; exact cnA c90; done)
               |skip
                (try simp only [decide_eq_true_eq, decide_eq_false_iff_not, Bool.not_eq_true, Bool.not_eq_false, Bool.and_eq_true, Bool.or_eq_true, Bool.or_eq_false_iff, Bool.not_eq_eq_eq_not, Bool.not_true, Bool.not_false] at c90)
                have hb64 : b < 64 := by
                 have : mo ≤ 64 := by rw [hmo2]; split <;> omega
                 omega
                refine zaO ?_
                try simp only [Ex.thnH, Ex.inBlockH, ↓reduceIte, Nat.reduceEqDiff]
                refine hK31 _ _ ?_; try clear hK31 K31
                refine zad (fun K33 hK33 => ?_)
                refine zaV ?_
                obtain ⟨R21, hR21⟩ : ∃ R : Hp, R = emptyHp.upd b11 (.cells ((X.getD k default).d.wait.getD j default).c.toArray 115) := ⟨_, rfl⟩
                refine CW_drawR [0, 0, 1, 0, 0, 0, 0, 1, 0, 0, 3] [0, 1, 2, 3, 4, 5, 6, 7, 8, 9, 10] R21 (by kernel_rfl) (by kernel_rfl) (by subst hR21; exact le_put (le_empty _) k11) (fun lR21 => ?_)
                apply zay rfl (zab (by decide)) rfl
                ·intro r
                 simp only [zaU, eX, ↓reduceIte, Nat.reduceEqDiff]
                 exact ⟨rfl, Le.refl _⟩
                simp only [eX, ↓reduceIte, Nat.reduceEqDiff, Int.reduceToNat]
                apply zay rfl (zab (by decide)) rfl
                ·intro r
                 simp only [zah, fa115_0, zap, Nat.reduceAdd, Nat.zero_add, eX, ↓reduceIte, Nat.reduceEqDiff]
                 exact ⟨rfl, Le.refl _⟩
                simp only [eX, ↓reduceIte, Nat.reduceEqDiff, Int.reduceToNat]
                apply TW_look rfl (zab (by decide)) rfl
                ·intro r
                 simp only [zan, eX, ↓reduceIte, Nat.reduceEqDiff]
                 refine zak Try.underlying3 rfl hbA ldA ?_
                 exact ⟨rfl, Le.refl _⟩
                simp only [eX, ↓reduceIte, Nat.reduceEqDiff, Int.reduceToNat]
                apply zay rfl (zab (by decide)) rfl
                ·intro r
                 simp only [zaU, eX, ↓reduceIte, Nat.reduceEqDiff]
                 exact ⟨rfl, Le.refl _⟩
                simp only [eX, ↓reduceIte, Nat.reduceEqDiff, Int.reduceToNat]
                apply zay rfl (zab (by decide)) rfl
                ·intro r
                 simp only [zaU, eX, ↓reduceIte, Nat.reduceEqDiff]
                 exact ⟨rfl, Le.refl _⟩
                simp only [eX, ↓reduceIte, Nat.reduceEqDiff, Int.reduceToNat]
                apply zay rfl (zab (by decide)) rfl
                ·intro r
                 simp only [zah, fa115_1, zap, Nat.reduceAdd, Nat.zero_add, eX, ↓reduceIte, Nat.reduceEqDiff]
                 exact ⟨rfl, Le.refl _⟩
                simp only [eX, ↓reduceIte, Nat.reduceEqDiff, Int.reduceToNat]
                apply zay rfl (zab (by decide)) rfl
                ·intro r
                 simp only [zaK, eX, ↓reduceIte, Nat.reduceEqDiff]
                 refine Lt_indexA Try.underlying45 sz5 ixA ixA ?_
                 try simp only [zap, Nat.mul_one, Nat.zero_add, Int.toNat_natCast]
                 exact ⟨rfl, Le.refl _⟩
                simp only [eX, ↓reduceIte, Nat.reduceEqDiff, Int.reduceToNat]
                apply TW_look rfl (zab (by decide)) rfl
                ·intro r
                 simp only [zan, eX, ↓reduceIte, Nat.reduceEqDiff]
                 refine zak Try.underlying5 rfl (by rw [hR21]; exact zax _ _ _) (v := .int .u8 (((X.getD k default).d.wait.getD j default).x.b.getD b 0)) (wt_byte _ (by omega)) ?_
                 exact ⟨rfl, Le.refl _⟩
                simp only [eX, ↓reduceIte, Nat.reduceEqDiff, Int.reduceToNat]
                apply zay rfl (zab (by decide)) rfl
                ·intro r
                 simp only [zaK, eX, ↓reduceIte, Nat.reduceEqDiff]
                 refine zbi Try.underlying84 sz45 rfl ixA ixA ?_
                 try simp only [Nat.zero_add]
                 exact ⟨rfl, Le.refl _⟩
                simp only [eX, ↓reduceIte, Nat.reduceEqDiff, Int.reduceToNat]
                apply zay rfl (zab (by decide)) rfl
                ·intro r
                 simp only [zaK, eX, ↓reduceIte, Nat.reduceEqDiff]
                 refine Lt_indexA Try.underlying45 sz5 ixA ixA ?_
                 try simp only [zap, Nat.mul_one, Nat.zero_add, Int.toNat_natCast]
                 exact ⟨rfl, Le.refl _⟩
                simp only [eX, ↓reduceIte, Nat.reduceEqDiff, Int.reduceToNat]
                refine TW_last rfl (zaJ) rfl (fun K hK r => ?_)
                simp only [zaL, eX, ↓reduceIte, Nat.reduceEqDiff, Int.reduceToNat]
                obtain ⟨r_, cap_, cr, e1, e2, hcr, hnr, hsr⟩ := hO3.full hL
                cases e1
                cases e2
                have mc := Nat.mul_le_mul_right 64 (show ((X.getD k default).d.wait.getD j default).at_.toNat + 1 ≤ c34 by omega)
                refine zaY sz5 hcr (by rw [hsr]; omega) (plain_int _ _) fzA ?_
                have hO' := OwnS.byte hO3 hcr (crW_len _ _ _ _).symm (i := ((X.getD k default).d.wait.getD j default).at_.toNat) (by omega) hb64
                refine hK _ _ ?_; clear hK K
                refine TW_nil ?_
                try simp only [Ex.thnH, Ex.inBlockH, ↓reduceIte, Nat.reduceEqDiff]
                refine hK33 _ _ ?_; try clear hK33 K33
                refine zaa ?_
                refine zam rfl ?_
                refine zac (fun K hK r => ?_)
                simp (disch := (first | omega | decide)) only [zaF, zaH, b_add, zaw, zaE, zaD, zaQ, eX, ↓reduceIte, Nat.reduceEqDiff, Int.reduceToNat]
                refine hK _ _ ?_; clear hK K
                refine zao rfl ?_
                refine zae ?_
                try simp only [Ex.thnH, Ex.inBlockH, ↓reduceIte, Nat.reduceEqDiff]
                exact ⟨mo - (b + 1), by omega, b + 1, by omega, rfl, zaP hlQ3 hrn, hO', (zaA _ _ (fun e => hO3.neT k11 (by decide) (by rw [e]))).trans k11, rfl, rfl, rfl, rfl, rfl, rfl, rfl, rfl, rfl, rfl, rfl, rfl, trivial⟩
              ·first
               |(exfalso; exact cnA c90; done)
               |skip
                (try simp only [decide_eq_true_eq, decide_eq_false_iff_not, Bool.not_eq_true, Bool.not_eq_false, Bool.and_eq_true, Bool.or_eq_true, Bool.or_eq_false_iff, Bool.not_eq_eq_eq_not, Bool.not_true, Bool.not_false] at c90)
                have hbm : b = mo := by omega
                have hlF : Le HQ HD := hlQ3
                have hfin : OwnS HD 45 64 (.slice (some ⟨rb, 0, none⟩) (X.getD k default).d.sec.length c34) (X.getD k default).d.sec.length (secs (crW (fun n => keepOf l (k : Int) n) (X.getD k default).d.wait (X.getD k default).d.sec (j + 1))) (some rb) := by
                 rw [crW_at (keepOf_at (by omega) hyes.1 hyes.2 hno) hmo2, ← hbm]
                 exact hO3
                refine CW_exit ?_
                try simp only [Ex.thnH, Ex.inBlockH, ↓reduceIte, Nat.reduceEqDiff]
                refine hK29 _ _ ?_; try clear hK29 K29
                refine CW_exit ?_
                try simp only [Ex.thnH, Ex.inBlockH, ↓reduceIte, Nat.reduceEqDiff]
                exact ⟨hlF, hfin, rfl, rfl, rfl, rfl, rfl, rfl, rfl, rfl, trivial⟩
      ·first
       |(exfalso; exact cnA c45; done)
       |skip
        (try simp only [decide_eq_true_eq, decide_eq_false_iff_not, Bool.not_eq_true, Bool.not_eq_false, Bool.and_eq_true, Bool.or_eq_true, Bool.or_eq_false_iff, Bool.not_eq_eq_eq_not, Bool.not_true, Bool.not_false] at c45)
        have hqn : q = l.length := by omega
        have hlF : Le HQ HB := hlQ
        have hfin : OwnS HB 45 64 (.slice (some ⟨rb, 0, none⟩) (X.getD k default).d.sec.length c34) (X.getD k default).d.sec.length (secs (crW (fun n => keepOf l (k : Int) n) (X.getD k default).d.wait (X.getD k default).d.sec (j + 1))) (some rb) := by
         rw [crW_no (keepOf_no (fun t ht => hno t (by omega)))]
         exact hO
        refine CW_exit ?_
        try simp only [Ex.thnH, Ex.inBlockH, ↓reduceIte, Nat.reduceEqDiff]
        exact ⟨hlF, hfin, rfl, rfl, rfl, rfl, rfl, rfl, rfl, rfl, trivial⟩
     rintro e_ H2_ ⟨hlQ2, hO2, he⟩
     refine CW_env he.sub ?_; clear he e_
     refine zaa ?_
     refine zam rfl ?_
     refine zac (fun K hK r => ?_)
     simp (disch := (first | omega | decide)) only [zaF, zaH, b_add, zaw, zaE, zaD, zaQ, eX, ↓reduceIte, Nat.reduceEqDiff, Int.reduceToNat]
     refine hK _ _ ?_; clear hK K
     refine zao rfl ?_
     refine zae ?_
     try simp only [Ex.thnH, Ex.inBlockH, ↓reduceIte, Nat.reduceEqDiff]
     exact ⟨(X.getD k default).d.wait.length - (j + 1), by omega, j + 1, by omega, rfl, hlQ2, hO2, rfl, rfl, rfl, rfl, rfl, rfl, rfl, rfl, trivial⟩
   ·first
    |(exfalso; exact cnA c39; done)
    |skip
     (try simp only [decide_eq_true_eq, decide_eq_false_iff_not, Bool.not_eq_true, Bool.not_eq_false, Bool.and_eq_true, Bool.or_eq_true, Bool.or_eq_false_iff, Bool.not_eq_eq_eq_not, Bool.not_true, Bool.not_false] at c39)
     have hjn : j = (X.getD k default).d.wait.length := by omega
     have hAQ : Le HA HQ := by rw [hHQ]; exact le_upd _ _ _ hb7
     have hlA : Le HA HB := Le.trans hAQ hlQ
     have x2 := hN.own.neT k2 (by decide)
     have x4 := hN.own.neT k4 (by decide)
     have x5 := hN.own.neT k5 (by decide)
     have y2 := hlA _ _ k2
     have y4 := hlA _ _ k4
     have y5 := hlA _ _ k5
     have hrA : HA rb = none := zaj hAQ hrn
     obtain ⟨r_, cap_, cr, e1, e2, hcr, hnr, hsr⟩ := hO.full hL
     cases e1
     cases e2
     have ownB := hN.own.stay (H' := HB) (fun b o _ ho => hlA b o ho)
     have hyS : Holds (emptyHp.upd rb (.cells cr 45)) 64 (.slice (some ⟨rb, 0, none⟩) (X.getD k default).d.sec.length c34) (X.getD k default).d.sec.length (secs (crW (fun n => keepOf l (k : Int) n) (X.getD k default).d.wait (X.getD k default).d.sec j)) := (hO.stay (fun b o hb ho => by cases hb; rw [hcr] at ho; cases ho; exact zax _ _ _)).holds
     have zrb : rs ≠ some rb := fun e => hN.own.known rb e hrA
     refine CW_exit ?_
     try simp only [Ex.thnH, Ex.inBlockH, ↓reduceIte, Nat.reduceEqDiff]
     refine hK10 _ _ ?_; try clear hK10 K10
     refine zaa ?_
     refine zac (fun K hK r => ?_)
     simp only [zah, fa38_0, zap, Nat.reduceAdd, Nat.zero_add, eX, ↓reduceIte, Nat.reduceEqDiff, Int.reduceToNat]
     refine hK _ _ ?_; clear hK K
     refine zac (fun K hK r => ?_)
     simp only [zan, eX, ↓reduceIte, Nat.reduceEqDiff, Int.reduceToNat]
     refine zak Try.underlying36 rfl hbA ldA ?_
     try simp only [eX, ↓reduceIte, Nat.reduceEqDiff, Int.reduceToNat]
     refine hK _ _ ?_; clear hK K
     refine zam rfl ?_
     refine zac (fun K hK r => ?_)
     simp only [x_build, bp87, List.map_toArray, List.map_cons, List.map_nil, eX, ↓reduceIte, Nat.reduceEqDiff, Int.reduceToNat]
     rw [fill_one rfl clA bdA]
     simp only [fill_nil, zal, List.setIfInBounds_toArray, List.set_cons_zero, List.set_cons_succ]
     try simp only [eX, ↓reduceIte, Nat.reduceEqDiff, Int.reduceToNat]
     refine hK _ _ ?_; clear hK K
     refine zac (fun K hK r => ?_)
     simp only [zbn, List.map_toArray, List.map_cons, List.map_nil, eX, ↓reduceIte, Nat.reduceEqDiff, Int.reduceToNat]
     refine zbm (vs := [_]) Try.underlying36 sz87 zr87 rfl bsA (by first | decide | (simp; done)) ?_
     simp only [List.flatMap_cons, List.flatMap_nil, Value.cells, List.append_nil, List.cons_append, List.nil_append, List.length_cons, List.length_nil, Nat.zero_add, Nat.reduceAdd]
     intro b107 hb107
     try have n107_b2 : b2 ≠ b107 := zai hbA hb107
     try have n107_b4 : b4 ≠ b107 := zai hbA hb107
     try have n107_b5 : b5 ≠ b107 := zai hbA hb107
     try have n107_b7 : b7 ≠ b107 := zai hbA hb107
     try have n107_b31 : b31 ≠ b107 := zai hbA hb107
     have f107_H : H b107 = none := zaj lhA hb107
     try simp only [eX, ↓reduceIte, Nat.reduceEqDiff, Int.reduceToNat]
     refine hK _ _ ?_; clear hK K
     refine zac (fun K hK r => ?_)
     simp only [zaM, l_append, List.map_toArray, List.map_cons, List.map_nil, eX, ↓reduceIte, Nat.reduceEqDiff, Int.reduceToNat]
     have h107 : HB b107 = none := hb107
     refine Lt_append Try.underlying36 Try.underlying36 (by simp) sz87 by87 (by decide) zr87 rfl _ (n := k) (m := 1) (ds := [.slice (some ⟨rb, 0, none⟩) (X.getD k default).d.sec.length c34, .slice none 0 0]) (ownB.make h107) (fun Kx => len_slice _ _ _ Kx) (fun Kx => first_slice (w := 2) (n := 1) (cs := [.slice (some ⟨rb, 0, none⟩) (X.getD k default).d.sec.length c34, .slice none 0 0]) ⟨rfl, .inr ⟨b107, 0, 1, _, _, _, rfl, hbA, by simp, by simp⟩⟩ Kx) rfl (PlainL.cons (plain_slice _ _ _) (PlainL.cons (plain_slice _ _ _) PlainL.nil)) (by omega) ?_
     intro v108 H108 rs108 hg108 ho108 hr108
     obtain ⟨wa108, wc108, rfl⟩ := ho108.holds.form
     have q108 : ∀ z o, HB z = some o → rs ≠ some z → H108 z = some o := fun z o hz hne => hg108.known z o ((zaA _ _ (zai hz h107)).trans hz) hne
     have z2 := q108 _ _ y2 x2
     have z4 := q108 _ _ y4 x4
     have z5 := q108 _ _ y5 x5
     have zb := q108 _ _ hcr zrb
     have w5 := ho108.neT z5 (by decide)
     have nb5 : rb ≠ b5 := fun e => by subst e; rw [k5] at hrA; cases hrA
     have nb2 : b2 ≠ rb := zai k2 hrA
     have nb4 : b4 ≠ rb := zai k4 hrA
     have nb55 : b5 ≠ rb := zai k5 hrA
     have hr108' : ∀ r, rs108 = some r → rs = some r ∨ (HA r = none ∧ r ≠ rb) := fun r e => (hr108 r e).imp id (fun hn => by
      have h2 := upd_none hn
      exact ⟨zaj hlA h2, fun e => by subst e; rw [hcr] at h2; cases h2⟩)
     refine hK _ _ ?_; clear hK K
     refine zac (fun K hK r => ?_)
     simp only [zah, fa38_0, zap, Nat.reduceAdd, Nat.zero_add, eX, ↓reduceIte, Nat.reduceEqDiff, Int.reduceToNat]
     refine hK _ _ ?_; clear hK K
     refine zbq rfl (zaJ) (fun K hK r => ?_)
     simp only [zaL, eX, ↓reduceIte, Nat.reduceEqDiff, Int.reduceToNat]
     refine zaY sz36 hbA bdA plA fzA ?_
     try simp only [setL0, setL1, setL2, setL3, setL4, setL5, setL6, setL7, setL8, setL9]
     try simp only [eX, ↓reduceIte, Nat.reduceEqDiff, Int.reduceToNat]
     refine hK _ _ ?_; clear hK K
     refine zae ?_
     try simp only [Ex.thnH, Ex.inBlockH, ↓reduceIte, Nat.reduceEqDiff]
     refine hK7 _ _ ?_; try clear hK7 K7
     refine zaa ?_
     refine zam rfl ?_
     refine zac (fun K hK r => ?_)
     simp (disch := (first | omega | decide)) only [zaF, zaH, b_add, zaw, zaE, zaD, zaQ, eX, ↓reduceIte, Nat.reduceEqDiff, Int.reduceToNat]
     refine hK _ _ ?_; clear hK K
     refine zao rfl ?_
     refine zae ?_
     try simp only [Ex.thnH, Ex.inBlockH, ↓reduceIte, Nat.reduceEqDiff]
     have hN' := hN.next (HF := H108.upd b5 (.cells #[.slice wa108 (k + 1) wc108, .int .i64 m.steps, .int .i64 m.left, .bool false, .bool false] 38)) (y := ⟨some ⟨rb, 0, none⟩, c34, none, 0, ⟨(crW (fun n => keepOf l (k : Int) n) (X.getD k default).d.wait (X.getD k default).d.sec j), []⟩⟩) (o := .cells cr 45) (by omega) hrA ⟨by rw [crW_len]; exact hyS, ⟨rfl, .inl ⟨none, 0, rfl, rfl⟩⟩⟩ (by rw [cr_dv _ _ _ (by omega), hm, rdv_at, hjn]) (v' := .slice wa108 (k + 1) wc108) (rs' := rs108) (by simp only [RDX.c, crW_len]; exact ho108.upd w5) ((zaA _ _ nb5).trans zb) (fun x o hx hc => (zaA _ _ (fun e => ?_)).trans (q108 x o (hlA _ _ hx) (fun e => ?_))) hr108'
     refine ⟨X.length - (k + 1), by omega, k + 1, _, rs108, _, _, by omega, rfl, hN', (zaA _ _ nb2).trans g2, (zaA _ _ nb4).trans g4, (zaA _ _ nb55).trans g5, (zaA _ _ (by assumption)).trans z2, (zaA _ _ (by assumption)).trans z4, zax _ _ _, rfl, rfl, rfl, rfl, rfl, trivial⟩
     ·subst e
      rcases hc with h1 | h1
      ·exact h1 g5
      ·exact h1 f5_H
     ·rcases hc with h1 | h1
      ·exact h1 (hN.frr x e).2
      ·exact h1 (hN.frr x e).1
 ·first
  |(exfalso; exact cnA c23; done)
  |skip
   (try simp only [decide_eq_true_eq, decide_eq_false_iff_not, Bool.not_eq_true, Bool.not_eq_false, Bool.and_eq_true, Bool.or_eq_true, Bool.or_eq_false_iff, Bool.not_eq_eq_eq_not, Bool.not_true, Bool.not_false] at c23)
   have hkn : k = X.length := by omega
   refine CW_exit ?_
   try simp only [Ex.thnH, Ex.inBlockH, ↓reduceIte, Nat.reduceEqDiff]
   refine hK3 _ _ ?_; try clear hK3 K3
   refine zad (fun K34 hK34 => ?_)
   refine zaa ?_
   refine zac (fun K hK r => ?_)
   simp only [zan, eX, ↓reduceIte, Nat.reduceEqDiff, Int.reduceToNat]
   first | refine zaN Try.underlying38 rfl sz38 hbA bdA ?_ | refine zaC Try.underlying38 rfl sz38 hbA bdA ?_
   try simp only [List.extract_toArray, List.extract_eq_take_drop, Nat.zero_add, Nat.reduceAdd, Nat.reduceSub, Nat.sub_zero, List.drop_succ_cons, List.drop_zero, List.take_succ_cons, List.take_zero, List.take_nil, List.drop_nil]
   try simp only [eX, ↓reduceIte, Nat.reduceEqDiff, Int.reduceToNat]
   refine hK _ _ ?_; clear hK K
   refine zbq rfl (zaJ) (fun K hK r => ?_)
   simp only [zaL, eX, ↓reduceIte, Nat.reduceEqDiff, Int.reduceToNat]
   first | refine zaz sz38 bdA hbA bdA plA (by decide) ?_ | refine zaI sz38 bdA hbA bdA plA (by decide) ?_
   try simp only [eX, ↓reduceIte, Nat.reduceEqDiff, Int.reduceToNat]
   refine hK _ _ ?_; clear hK K
   refine zae ?_
   try simp only [Ex.thnH, Ex.inBlockH, ↓reduceIte, Nat.reduceEqDiff]
   refine hK34 _ _ ?_; try clear hK34 K34
   refine zaR ?_
   try simp only [Ex.thnH, Ex.inBlockH, ↓reduceIte, Nat.reduceEqDiff]
   refine ⟨[_], ⟨⟨_, rfl, zbd Try.underlying38 rfl sz38 hbA bdA⟩, trivial⟩, _, Le.refl _, va, vc, Y, by rw [hN.len, hkn], ?_, ?_, ⟨?_, fun x hx => (hN.ok x hx).le (zaP hN.le g4)⟩, ?_⟩
   ·exact zaP hOld f4_H
   ·rw [hN.len]; rfl
   ·rw [hN.len]
    exact (hN.own.upd (hN.own.neT k4 (by decide))).holds
   ·rw [hN.dv, List.take_of_length_le (by omega)]
end Go.Proofs.Ytcjdkfhmlnfedaa.HL
end
section
namespace Go.Proofs.Ytcjdkfhmlnfedaa.HL
open Go Go.Proofs
set_option linter.unusedSimpArgs false
set_option linter.unusedVariables false
attribute [local irreducible] Lt Lq CW OW TW CallH
structure PR (k : Nat) (s : St) (m : RSt) : Prop where
  rl : Rl s m
  sm : Sm k s
  sz : ∀ i, i < m.dv.length → 0 < (m.dv.getD i default).sec.length ∧ (m.dv.getD i default).sec.length ≤ 5000
  lf : m.armed = true → m.left ≤ 9223372036854775807
def SzEq (m q : RSt) : Prop := q.dv.length = m.dv.length ∧ ∀ i, i < m.dv.length → (q.dv.getD i default).sec.length = (m.dv.getD i default).sec.length
theorem SzEq.of {m q : RSt} (h : q.dv = m.dv) : SzEq m q := ⟨by rw [h], fun i _ => by rw [h]⟩
theorem SzEq.set {m q : RSt} {k : Nat} {d : RDv} (h : q.dv = m.dv.set k d) (hd : d.sec.length = (m.dv.getD k default).sec.length) : SzEq m q := by
  refine ⟨by rw [h, List.length_set], fun i hi => ?_⟩
  rw [h, getD_set']
  split
  · rename_i e; rw [hd, e.1]
  · rfl
theorem RSt.put_sz (m : RSt) (dev i : Int) (x : Sec) : SzEq m (m.put dev i x).1 := by
  rcases rput_cases m dev i x with ⟨_, e⟩ | ⟨_, _, e⟩ | ⟨_, _, e⟩
  · rw [e]; exact .of rfl
  · rw [e]; exact .of m.step_dv
  · rw [e]; exact .set (k := dev.toNat) rfl rfl
theorem RSt.fl_sz (m : RSt) (dev : Int) : SzEq m (m.fl dev).1 := by
  rcases rfl_cases m dev with ⟨_, e⟩ | ⟨_, _, e⟩ | ⟨_, _, e⟩
  · rw [e]; exact .of rfl
  · rw [e]; exact .of m.step_dv
  · rw [e]; exact .set (k := dev.toNat) rfl (doneL_len _ _)
theorem RSt.cr_sz (m : RSt) (l : List Kp) : SzEq m (m.cr l) := by
  refine ⟨by simp [RSt.cr], fun i hi => ?_⟩
  rw [cr_dv m l i hi]
  exact crW_len _ _ _ _
def LfOk (m : RSt) : Prop := m.armed = true → 0 ≤ m.left ∧ m.left ≤ 9223372036854775807
theorem LfOk.step {m : RSt} (h : LfOk m) : LfOk m.step.1 := by
  unfold RSt.step
  split
  · exact h
  split
  · exact h
  · rename_i h1 h2
    intro ha
    have := h ha
    have hne : m.left ≠ 0 := fun e => h2 ⟨ha, e⟩
    show 0 ≤ (if m.armed = true then IntKind.i64.wrap (m.left - 1) else m.left) ∧ (if m.armed = true then IntKind.i64.wrap (m.left - 1) else m.left) ≤ _
    have ha' : m.armed = true := ha
    rw [if_pos ha', zaw _ (by omega) (by omega)]
    omega
theorem PR.lfo {k : Nat} {s : St} {m : RSt} (h : PR k s m) : LfOk m := fun ha => ⟨(h.rl.le ha).2, h.lf ha⟩
theorem PR.up {k n : Nat} {s : St} {m : RSt} (h : PR k s m) (hn : k ≤ n) : PR n s m := ⟨h.rl, h.sm.up hn, h.sz, h.lf⟩
theorem PR.rg {k : Nat} {s : St} {m : RSt} (h : PR k s m) {X : List RDX} (hm : m.dv = rdv X) : ∀ i, i < X.length → RG k (X.getD i default).d := fun i hi => by
  have hlen : m.dv.length = X.length := by rw [hm]; simp
  have hi' : i < m.dv.length := by omega
  have h1 := h.sz i hi'
  have h2 := h.rl.dv i hi'
  have h3 := h.sm.2 i
  rw [h2.wa] at h3
  have h4 := h2.at_
  rw [hm, rdv_at] at h1 h3 h4
  exact ⟨h1.1, h1.2, h3, h4⟩
theorem PR.len {k : Nat} {s : St} {m : RSt} (h : PR k s m) {X : List RDX} (hm : m.dv = rdv X) : X.length ≤ 5 ∧ s.dv.length = X.length := by
  have hlen : m.dv.length = X.length := by rw [hm]; simp
  have := h.sm.1
  have := h.rl.len
  omega
theorem PR.wt {k : Nat} {s : St} {m : RSt} (h : PR k s m) : ∀ i, (m.dv.getD i default).wait.length ≤ k := fun i => by
  by_cases hi : i < m.dv.length
  · rw [← (h.rl.dv i hi).wa]; exact h.sm.2 i
  · rw [List.getD_eq_getElem?_getD, List.getElem?_eq_none (by omega)]; exact Nat.zero_le _
theorem newS_at (l : List Int) (i : Nat) (hi : i < l.length) : (newSt l).dv.getD i default = newDv (l.getD i default) ∧ (newRs l).dv.getD i default = newR (l.getD i default) := by
  simp [newSt, newRs, List.getD_eq_getElem?_getD, List.getElem?_eq_getElem hi]
theorem good_at {l : List Int} (h : goodN l = true) (i : Nat) (hi : i < l.length) : 1 ≤ l.getD i default ∧ l.getD i default ≤ 4096 := by
  unfold goodN at h
  simp only [Bool.and_eq_true, List.all_eq_true] at h
  have := h.2 (l.getD i default) (by rw [List.getD_eq_getElem?_getD, List.getElem?_eq_getElem hi]; exact List.getElem_mem hi)
  unfold okN at this
  simpa using this
theorem PR.new {l : List Int} (h : goodN l = true) : PR 0 (newSt l) (newRs l) := by
  have hl : l.length ≤ 5 := by
    unfold goodN at h
    simp only [Bool.and_eq_true, decide_eq_true_eq] at h
    exact h.1.2
  refine ⟨⟨rfl, rfl, rfl, fun h => (by cases h), by simp [newSt, newRs], fun i hi => ?_⟩, Sm.new hl, fun i hi => ?_, fun h => by cases h⟩
  · have hi' : i < l.length := by simpa [newRs] using hi
    obtain ⟨e1, e2⟩ := newS_at l i hi'
    have hg := good_at h i hi'
    rw [e1, e2]
    refine ⟨?_, fun j => ?_, rfl, fun k hk => by simp [newR] at hk⟩
    · simp only [newDv, newR, List.length_replicate]; omega
    · show Sec.zero = _
      split
      · rename_i hj
        simp only [newR, List.length_replicate] at hj
        simp only [newR]
        rw [List.getD_eq_getElem?_getD, List.getElem?_replicate, if_pos (by omega)]
        rfl
      · rfl
  · have hi' : i < l.length := by simpa [newRs] using hi
    obtain ⟨e1, e2⟩ := newS_at l i hi'
    have hg := good_at h i hi'
    rw [e2]
    simp only [newR, List.length_replicate]
    omega
theorem PR.put2 {k : Nat} {s : St} {m : RSt} (h : PR k s m) (dev i : Int) (x : Sec) : (m.put dev i x).2 = (s.wr dev i x).2.getD 0 := (h.rl.put h.lf dev i x).2
theorem wr_err (s : St) (dev i : Int) (x : Sec) : errOk (s.wr dev i x).2 := fun k hk => by
  rcases wr_cases s dev i x with ⟨_, e, _⟩ | ⟨_, e, _⟩ | ⟨_, e, _⟩ <;> rw [e] at hk <;> cases hk <;> decide
theorem fl_err (s : St) (dev : Int) : errOk (s.fl dev).2 := fun k hk => by
  rcases fl_cases s dev with ⟨_, e, _⟩ | ⟨_, e, _⟩ | ⟨_, e, _⟩ <;> rw [e] at hk <;> cases hk <;> decide
theorem PR.put {k : Nat} {s : St} {m : RSt} (h : PR k s m) (dev i : Int) (x : Sec) : PR (k + 1) (s.wr dev i x).1 (m.put dev i x).1 := by
  refine ⟨(h.rl.put h.lf _ _ _).1, h.sm.wr _ _ _, fun j hj => ?_, fun ha => ?_⟩
  · obtain ⟨e1, e2⟩ := m.put_sz dev i x
    rw [e1] at hj
    rw [e2 j hj]; exact h.sz j hj
  · have hl : LfOk (m.put dev i x).1 := by
      rcases rput_cases m dev i x with ⟨_, e⟩ | ⟨_, _, e⟩ | ⟨_, _, e⟩
      · rw [e]; exact h.lfo
      · rw [e]; exact h.lfo.step
      · rw [e]; exact h.lfo.step
    exact (hl ha).2
theorem PR.flush {k : Nat} {s : St} {m : RSt} (h : PR k s m) (dev : Int) : PR k (s.fl dev).1 (m.fl dev).1 := by
  refine ⟨(h.rl.flush h.lf _).1, h.sm.fl _, fun j hj => ?_, fun ha => ?_⟩
  · obtain ⟨e1, e2⟩ := m.fl_sz dev
    rw [e1] at hj
    rw [e2 j hj]; exact h.sz j hj
  · have hl : LfOk (m.fl dev).1 := by
      rcases rfl_cases m dev with ⟨_, e⟩ | ⟨_, _, e⟩ | ⟨_, _, e⟩
      · rw [e]; exact h.lfo
      · rw [e]; exact h.lfo.step
      · rw [e]; exact h.lfo.step
    exact (hl ha).2
theorem PR.crash {k : Nat} {s : St} {m : RSt} (h : PR k s m) (l : List Kp) : PR k (s.cr l) (m.cr l) := by
  refine ⟨h.rl.crash _, h.sm.cr _, fun j hj => ?_, fun ha => by cases ha⟩
  obtain ⟨e1, e2⟩ := m.cr_sz l
  rw [e1] at hj
  rw [e2 j hj]; exact h.sz j hj
theorem PR.arm {k : Nat} {s : St} {m : RSt} (h : PR k s m) {n : Int} (h0 : 0 ≤ n) (h1 : n ≤ 9223372036854775807) : PR k { s with armed := true, left := n } { m with armed := true, left := n } :=
  ⟨⟨h.rl.st, h.rl.go, rfl, fun _ => ⟨rfl, h0⟩, h.rl.len, h.rl.dv⟩, h.sm.of_dv rfl, h.sz, fun _ => h1⟩
def RSt.sz0 (m : RSt) : Int := if 0 < m.dv.length then ((m.dv.getD 0 default).sec.length : Int) else 0
theorem PR.sz0 {k : Nat} {s : St} {m : RSt} (h : PR k s m) : s.sz 0 = m.sz0 ∧ 0 ≤ m.sz0 ∧ m.sz0 ≤ 5000 := by
  have hl := h.rl.len
  unfold St.sz RSt.sz0
  by_cases h0 : 0 < m.dv.length
  · have := h.sz 0 h0
    rw [if_pos (by omega), if_pos h0, show (0 : Int).toNat = 0 from rfl, (h.rl.dv 0 h0).sz]
    omega
  · rw [if_neg (by omega), if_neg h0]; omega
def RSt.saveN (m : RSt) (gen ar : Int) (b : List Int) : Nat → RSt × Int
  | 0 => (m, 0)
  | n + 1 => if (m.saveN gen ar b n).2 = 0 then (m.saveN gen ar b n).1.put 0 (2 + ar * areaI m.sz0 + n) (secI gen b n) else m.saveN gen ar b n
def RSt.save (m : RSt) (gen ar : Int) (b : List Int) : RSt × Int :=
  if askI gen ar = false then (m, 1) else if fitsI m.sz0 b.length = false then (m, 4) else if (m.saveN gen ar b (chN b)).2 = 0 then (m.saveN gen ar b (chN b)).1.fl 0 else m.saveN gen ar b (chN b)
theorem wr_num (s : St) (dev i : Int) (x : Sec) : (s.wr dev i x).2.getD 0 = 0 ↔ (s.wr dev i x).2 = none := by
  rcases wr_cases s dev i x with ⟨_, e, _⟩ | ⟨_, e, _⟩ | ⟨_, e, _⟩ <;> rw [e] <;> simp
theorem rsaveN_yes {m : RSt} {gen ar : Int} {b : List Int} {n : Nat} (h : (m.saveN gen ar b n).2 = 0) : m.saveN gen ar b (n + 1) = (m.saveN gen ar b n).1.put 0 (2 + ar * areaI m.sz0 + n) (secI gen b n) := by
  conv => lhs; unfold RSt.saveN
  rw [if_pos h]
theorem rsaveN_no {m : RSt} {gen ar : Int} {b : List Int} {n : Nat} (h : ¬ (m.saveN gen ar b n).2 = 0) : m.saveN gen ar b (n + 1) = m.saveN gen ar b n := by
  conv => lhs; unfold RSt.saveN
  rw [if_neg h]
theorem PR.saveN {k : Nat} {s : St} {m : RSt} (h : PR k s m) (gen ar : Int) (b : List Int) : ∀ n, PR (k + n) (s.saveN gen ar b n).1 (m.saveN gen ar b n).1 ∧ (m.saveN gen ar b n).2 = (s.saveN gen ar b n).2.getD 0 ∧ ((m.saveN gen ar b n).2 = 0 ↔ (s.saveN gen ar b n).2 = none)
  | 0 => ⟨h, rfl, by simp [RSt.saveN, St.saveN]⟩
  | n + 1 => by
    obtain ⟨h1, h2, h3⟩ := PR.saveN h gen ar b n
    by_cases hb : (m.saveN gen ar b n).2 = 0
    · rw [saveN_next (h3.1 hb), rsaveN_yes hb, h.sz0.1]
      have e2 := (h1.rl.put h1.lf 0 (2 + ar * areaI m.sz0 + n) (secI gen b n)).2
      exact ⟨h1.put _ _ _, e2, by rw [e2]; exact wr_num _ _ _ _⟩
    · have hs : ∃ e, (s.saveN gen ar b n).2 = some e := by
        cases hc : (s.saveN gen ar b n).2 with
        | none => exact absurd (h3.2 hc) hb
        | some e => exact ⟨e, rfl⟩
      obtain ⟨e, he⟩ := hs
      rw [show s.saveN gen ar b (n + 1) = s.saveN gen ar b n from saveN_stop he 1, rsaveN_no hb]
      exact ⟨h1.up (by omega), h2, h3⟩
theorem PR.save {k : Nat} {s : St} {m : RSt} (h : PR k s m) (gen ar : Int) (b : List Int) : PR (k + chN b) (s.save gen ar b).1 (m.save gen ar b).1 ∧ (m.save gen ar b).2 = (s.save gen ar b).2.getD 0 := by
  unfold RSt.save St.save
  rw [h.sz0.1]
  split
  · exact ⟨h.up (by omega), rfl⟩
  split
  · exact ⟨h.up (by omega), rfl⟩
  obtain ⟨h1, h2, h3⟩ := h.saveN gen ar b (chN b)
  by_cases hb : (m.saveN gen ar b (chN b)).2 = 0
  · rw [if_pos hb]
    have he := h3.1 hb
    generalize s.saveN gen ar b (chN b) = q at *
    obtain ⟨t, e⟩ := q
    cases he
    exact ⟨h1.flush 0, (h1.rl.flush h1.lf 0).2⟩
  · rw [if_neg hb]
    cases hc : (s.saveN gen ar b (chN b)).2 with
    | none => exact absurd (h3.2 hc) hb
    | some e =>
      generalize s.saveN gen ar b (chN b) = q at *
      obtain ⟨t, e'⟩ := q
      cases hc
      exact ⟨h1, h2⟩
theorem fits_eq {sz n : Int} (h : 0 ≤ areaI sz) : fitsI sz n = (decide (0 ≤ n) && decide (n ≤ 50 * areaI sz)) := by
  unfold fitsI needI
  by_cases h0 : 0 ≤ n
  · rw [decide_eq_true h0, Bool.true_and, Bool.true_and]
    exact decide_eq_decide.2 (by split <;> omega)
  · rw [decide_eq_false h0, Bool.false_and, Bool.false_and]
end Go.Proofs.Ytcjdkfhmlnfedaa.HL
end
section
namespace Go.Proofs.Ytcjdkfhmlnfedaa.HL
open Go Go.Proofs
set_option linter.unusedSimpArgs false
set_option linter.unusedVariables false
attribute [local irreducible] Lt Lq CW OW TW CallH
set_option maxRecDepth 100000 in
set_option maxHeartbeats 1000000 in
theorem rSeal_ok (H : Hp) (st kd : Int) (data : Value) (l : List Int) (hd : Holds H 1 data l.length (u8s l)) :
  CallH Try.prog 40 #[.agg #[.int .i64 st, .int .i64 kd, data]] H (fun v H' => v = .tuple #[.agg (u8s (sealI st kd l)).toArray, .int .i64 ((badI st kd l).getD 0)] ∧ H' = H) := by
 refine zaB (l := [_]) (rl := [.cell 2 45, .tmp 3]) (n := 77) Try.func40 rfl rfl rfl rfl rfl ?_
 simp only [envOf, Nat.reduceAdd]
 obtain ⟨a, cap, rfl⟩ := hd.form
 refine zad (fun K1 hK1 => ?_)
 refine zaa ?_
 refine zac (fun K hK r => ?_)
 simp only [x_box, Value.cells, eX, ↓reduceIte, Nat.reduceEqDiff, Int.reduceToNat]
 intro b1 hb1
 have f1_H : H b1 = none := zaj lhA hb1
 try simp only [eX, ↓reduceIte, Nat.reduceEqDiff, Int.reduceToNat]
 refine hK _ _ ?_; clear hK K
 refine zac (fun K hK r => ?_)
 simp only [x_alloc, zr45, zal, Value.cells, eX, ↓reduceIte, Nat.reduceEqDiff, Int.reduceToNat]
 intro b2 hb2
 try have n2_b1 : b1 ≠ b2 := zai hbA hb2
 have f2_H : H b2 = none := zaj lhA hb2
 try simp only [eX, ↓reduceIte, Nat.reduceEqDiff, Int.reduceToNat]
 refine hK _ _ ?_; clear hK K
 refine zao rfl ?_
 refine zae ?_
 try simp only [Ex.thnH, Ex.inBlockH, ↓reduceIte, Nat.reduceEqDiff]
 refine hK1 _ _ ?_; try clear hK1 K1
 refine zad (fun K2 hK2 => ?_)
 refine zaa ?_
 refine zac (fun K hK r => ?_)
 simp only [x_build, List.map_toArray, List.map_cons, List.map_nil, eX, ↓reduceIte, Nat.reduceEqDiff, Int.reduceToNat]
 rw [l_buildArr Try.underlying45 sz5 zr45]
 simp only [Value.cells]
 simp only [fill_nil, zal, List.setIfInBounds_toArray, List.set_cons_zero, List.set_cons_succ]
 try simp only [eX, ↓reduceIte, Nat.reduceEqDiff, Int.reduceToNat]
 refine hK _ _ ?_; clear hK K
 refine zac (fun K hK r => ?_)
 simp only [x_alloc, zr45, zal, Value.cells, eX, ↓reduceIte, Nat.reduceEqDiff, Int.reduceToNat]
 intro b4 hb4
 try have n4_b1 : b1 ≠ b4 := zai hbA hb4
 try have n4_b2 : b2 ≠ b4 := zai hbA hb4
 have f4_H : H b4 = none := zaj lhA hb4
 try simp only [eX, ↓reduceIte, Nat.reduceEqDiff, Int.reduceToNat]
 refine hK _ _ ?_; clear hK K
 refine zbq rfl (zaJ) (fun K hK r => ?_)
 simp only [zaL, eX, ↓reduceIte, Nat.reduceEqDiff, Int.reduceToNat]
 first | refine zaz sz45 bdA hbA bdA plA (by decide) ?_ | refine zaI sz45 bdA hbA bdA plA (by decide) ?_
 try simp only [eX, ↓reduceIte, Nat.reduceEqDiff, Int.reduceToNat]
 refine hK _ _ ?_; clear hK K
 refine zae ?_
 try simp only [Ex.thnH, Ex.inBlockH, ↓reduceIte, Nat.reduceEqDiff]
 refine hK2 _ _ ?_; try clear hK2 K2
 refine zad (fun K3 hK3 => ?_)
 refine zad (fun K4 hK4 => ?_)
 refine zaa ?_
 refine zac (fun K hK r => ?_)
 simp only [zah, fa105_0, zap, Nat.reduceAdd, Nat.zero_add, eX, ↓reduceIte, Nat.reduceEqDiff, Int.reduceToNat]
 refine hK _ _ ?_; clear hK K
 refine zac (fun K hK r => ?_)
 simp only [zan, eX, ↓reduceIte, Nat.reduceEqDiff, Int.reduceToNat]
 refine zak Try.underlying3 rfl hbA ldA ?_
 try simp only [eX, ↓reduceIte, Nat.reduceEqDiff, Int.reduceToNat]
 refine hK _ _ ?_; clear hK K
 refine zac (fun K hK r => ?_)
 simp (disch := (first | omega | decide)) only [zaF, zaH, b_lss, zaq, zar, zat, zau, zas, zav, Bool.not_true, Bool.not_false, eX, ↓reduceIte, Nat.reduceEqDiff, Int.reduceToNat]
 refine hK _ _ ?_; clear hK K
 refine zam rfl ?_
 (first | refine zbc (d := 12) rfl (fun g12 => ?_) (fun g12 => ?_) | skip)
 all_goals try (exfalso; exact cnA g12)
 all_goals (try simp only [decide_eq_true_eq, decide_eq_false_iff_not, Bool.not_eq_true, Bool.not_eq_false, Bool.and_eq_true, Bool.or_eq_true, Bool.or_eq_false_iff, Bool.not_eq_eq_eq_not, Bool.not_true, Bool.not_false] at g12)
 all_goals
  try simp only [eX, ↓reduceIte, Nat.reduceEqDiff, Int.reduceToNat]
  first
  |refine zaf rfl (zab (by decide)) rfl (fun K hK r => ?_)
   simp only [zah, fa105_0, zap, Nat.reduceAdd, Nat.zero_add, eX, ↓reduceIte, Nat.reduceEqDiff, Int.reduceToNat]
   refine hK _ _ ?_; clear hK K
  |refine zag rfl (zab (by decide)) rfl ?_
   simp only [eX, ↓reduceIte, Nat.reduceEqDiff, Int.reduceToNat]
  first
  |refine zaf rfl (zab (by decide)) rfl (fun K hK r => ?_)
   simp only [zan, eX, ↓reduceIte, Nat.reduceEqDiff, Int.reduceToNat]
   refine zak Try.underlying3 rfl hbA ldA ?_
   try simp only [eX, ↓reduceIte, Nat.reduceEqDiff, Int.reduceToNat]
   refine hK _ _ ?_; clear hK K
  |refine zag rfl (zab (by decide)) rfl ?_
   simp only [eX, ↓reduceIte, Nat.reduceEqDiff, Int.reduceToNat]
  first
  |refine zaf rfl (zab (by decide)) rfl (fun K hK r => ?_)
   simp (disch := (first | omega | decide)) only [zaF, zaH, b_gtr, zaq, zar, zat, zau, zas, zav, Bool.not_true, Bool.not_false, eX, ↓reduceIte, Nat.reduceEqDiff, Int.reduceToNat]
   refine hK _ _ ?_; clear hK K
  |refine zag rfl (zab (by decide)) rfl ?_
   simp only [eX, ↓reduceIte, Nat.reduceEqDiff, Int.reduceToNat]
  refine zac (fun K hK r => ?_)
  simp only [zbp, zaZ, HL.ite_bool, if_true, if_false, Bool.false_eq_true, eX, ↓reduceIte, Nat.reduceEqDiff, Int.reduceToNat]
  refine hK _ _ ?_; clear hK K
  refine zam rfl ?_
  (first | refine zbc (d := 17) rfl (fun g17 => ?_) (fun g17 => ?_) | skip)
  all_goals try (exfalso; exact cnA g17)
  all_goals (try simp only [decide_eq_true_eq, decide_eq_false_iff_not, Bool.not_eq_true, Bool.not_eq_false, Bool.and_eq_true, Bool.or_eq_true, Bool.or_eq_false_iff, Bool.not_eq_eq_eq_not, Bool.not_true, Bool.not_false] at g17)
  all_goals
   try simp only [eX, ↓reduceIte, Nat.reduceEqDiff, Int.reduceToNat]
   first
   |refine zaf rfl (zab (by decide)) rfl (fun K hK r => ?_)
    simp only [zah, fa105_1, zap, Nat.reduceAdd, Nat.zero_add, eX, ↓reduceIte, Nat.reduceEqDiff, Int.reduceToNat]
    refine hK _ _ ?_; clear hK K
   |refine zag rfl (zab (by decide)) rfl ?_
    simp only [eX, ↓reduceIte, Nat.reduceEqDiff, Int.reduceToNat]
   first
   |refine zaf rfl (zab (by decide)) rfl (fun K hK r => ?_)
    simp only [zan, eX, ↓reduceIte, Nat.reduceEqDiff, Int.reduceToNat]
    refine zak Try.underlying3 rfl hbA ldA ?_
    try simp only [eX, ↓reduceIte, Nat.reduceEqDiff, Int.reduceToNat]
    refine hK _ _ ?_; clear hK K
   |refine zag rfl (zab (by decide)) rfl ?_
    simp only [eX, ↓reduceIte, Nat.reduceEqDiff, Int.reduceToNat]
   first
   |refine zaf rfl (zab (by decide)) rfl (fun K hK r => ?_)
    simp (disch := (first | omega | decide)) only [zaF, zaH, b_lss, zaq, zar, zat, zau, zas, zav, Bool.not_true, Bool.not_false, eX, ↓reduceIte, Nat.reduceEqDiff, Int.reduceToNat]
    refine hK _ _ ?_; clear hK K
   |refine zag rfl (zab (by decide)) rfl ?_
    simp only [eX, ↓reduceIte, Nat.reduceEqDiff, Int.reduceToNat]
   refine zac (fun K hK r => ?_)
   simp only [zbp, zaZ, HL.ite_bool, if_true, if_false, Bool.false_eq_true, eX, ↓reduceIte, Nat.reduceEqDiff, Int.reduceToNat]
   refine hK _ _ ?_; clear hK K
   refine zam rfl ?_
   (first | refine zbc (d := 22) rfl (fun g22 => ?_) (fun g22 => ?_) | skip)
   all_goals try (exfalso; exact cnA g22)
   all_goals (try simp only [decide_eq_true_eq, decide_eq_false_iff_not, Bool.not_eq_true, Bool.not_eq_false, Bool.and_eq_true, Bool.or_eq_true, Bool.or_eq_false_iff, Bool.not_eq_eq_eq_not, Bool.not_true, Bool.not_false] at g22)
   all_goals
    try simp only [eX, ↓reduceIte, Nat.reduceEqDiff, Int.reduceToNat]
    first
    |refine zaf rfl (zab (by decide)) rfl (fun K hK r => ?_)
     simp only [zah, fa105_1, zap, Nat.reduceAdd, Nat.zero_add, eX, ↓reduceIte, Nat.reduceEqDiff, Int.reduceToNat]
     refine hK _ _ ?_; clear hK K
    |refine zag rfl (zab (by decide)) rfl ?_
     simp only [eX, ↓reduceIte, Nat.reduceEqDiff, Int.reduceToNat]
    first
    |refine zaf rfl (zab (by decide)) rfl (fun K hK r => ?_)
     simp only [zan, eX, ↓reduceIte, Nat.reduceEqDiff, Int.reduceToNat]
     refine zak Try.underlying3 rfl hbA ldA ?_
     try simp only [eX, ↓reduceIte, Nat.reduceEqDiff, Int.reduceToNat]
     refine hK _ _ ?_; clear hK K
    |refine zag rfl (zab (by decide)) rfl ?_
     simp only [eX, ↓reduceIte, Nat.reduceEqDiff, Int.reduceToNat]
    first
    |refine zaf rfl (zab (by decide)) rfl (fun K hK r => ?_)
     simp (disch := (first | omega | decide)) only [zaF, zaH, b_gtr, zaq, zar, zat, zau, zas, zav, Bool.not_true, Bool.not_false, eX, ↓reduceIte, Nat.reduceEqDiff, Int.reduceToNat]
     refine hK _ _ ?_; clear hK K
    |refine zag rfl (zab (by decide)) rfl ?_
     simp only [eX, ↓reduceIte, Nat.reduceEqDiff, Int.reduceToNat]
    refine zac (fun K hK r => ?_)
    simp only [zbp, zaZ, HL.ite_bool, if_true, if_false, Bool.false_eq_true, eX, ↓reduceIte, Nat.reduceEqDiff, Int.reduceToNat]
    refine hK _ _ ?_; clear hK K
    refine zae ?_
    try simp only [Ex.thnH, Ex.inBlockH, ↓reduceIte, Nat.reduceEqDiff]
    refine hK4 _ _ ?_; try clear hK4 K4
    refine zaG (fun r => rfl) (fun c26 => ?_) (fun c26 => ?_)
    ·first
     |(exfalso; exact cnA c26; done)
     |skip
      (try simp only [decide_eq_true_eq, decide_eq_false_iff_not, Bool.not_eq_true, Bool.not_eq_false, Bool.and_eq_true, Bool.or_eq_true, Bool.or_eq_false_iff, Bool.not_eq_eq_eq_not, Bool.not_true, Bool.not_false] at c26)
      refine zad (fun K5 hK5 => ?_)
      refine zaa ?_
      refine zac (fun K hK r => ?_)
      simp only [zan, eX, ↓reduceIte, Nat.reduceEqDiff, Int.reduceToNat]
      first | refine zaN Try.underlying45 rfl sz45 hbA bdA ?_ | refine zaC Try.underlying45 rfl sz45 hbA bdA ?_
      try simp only [eX, ↓reduceIte, Nat.reduceEqDiff, Int.reduceToNat]
      refine hK _ _ ?_; clear hK K
      refine zbq rfl (zaJ) (fun K hK r => ?_)
      simp only [zaL, eX, ↓reduceIte, Nat.reduceEqDiff, Int.reduceToNat]
      first | refine zaz sz45 bdA hbA bdA plA (by decide) ?_ | refine zaI sz45 bdA hbA bdA plA (by decide) ?_
      try simp only [eX, ↓reduceIte, Nat.reduceEqDiff, Int.reduceToNat]
      refine hK _ _ ?_; clear hK K
      refine zao rfl ?_
      refine zae ?_
      try simp only [Ex.thnH, Ex.inBlockH, ↓reduceIte, Nat.reduceEqDiff]
      refine hK5 _ _ ?_; try clear hK5 K5
      refine zaR ?_
      try simp only [Ex.thnH, Ex.inBlockH, ↓reduceIte, Nat.reduceEqDiff]
      have hb : badI st kd l = some 1 := by simp only [badI]; rw [if_pos (by omega)]
      refine ⟨[_, _], ⟨⟨_, rfl, zbd Try.underlying45 rfl sz45 hbA bdA⟩, rfl, trivial⟩, H, lhA, ?_, rfl⟩
      show Value.tuple #[_, _] = _
      rw [sealI, hb]; simp only [zero_cells]; rfl
    ·first
     |(exfalso; exact cnA c26; done)
     |skip
      (try simp only [decide_eq_true_eq, decide_eq_false_iff_not, Bool.not_eq_true, Bool.not_eq_false, Bool.and_eq_true, Bool.or_eq_true, Bool.or_eq_false_iff, Bool.not_eq_eq_eq_not, Bool.not_true, Bool.not_false] at c26)
      refine zaO ?_
      try simp only [Ex.thnH, Ex.inBlockH, ↓reduceIte, Nat.reduceEqDiff]
      refine hK3 _ _ ?_; try clear hK3 K3
      refine zad (fun K6 hK6 => ?_)
      refine zad (fun K7 hK7 => ?_)
      refine zaa ?_
      refine zac (fun K hK r => ?_)
      simp only [zah, fa105_2, zap, Nat.reduceAdd, Nat.zero_add, eX, ↓reduceIte, Nat.reduceEqDiff, Int.reduceToNat]
      refine hK _ _ ?_; clear hK K
      refine zac (fun K hK r => ?_)
      simp only [zan, eX, ↓reduceIte, Nat.reduceEqDiff, Int.reduceToNat]
      refine zak Try.underlying22 rfl hbA ldA ?_
      try simp only [eX, ↓reduceIte, Nat.reduceEqDiff, Int.reduceToNat]
      refine hK _ _ ?_; clear hK K
      refine zac (fun K hK r => ?_)
      simp only [zaM, l_len, List.map_toArray, List.map_cons, List.map_nil, zaS _ _ Try.underlying22, eX, ↓reduceIte, Nat.reduceEqDiff, Int.reduceToNat]
      refine hK _ _ ?_; clear hK K
      refine zac (fun K hK r => ?_)
      simp (disch := (first | omega | decide)) only [zaF, zaH, b_gtr, zaq, zar, zat, zau, zas, zav, Bool.not_true, Bool.not_false, eX, ↓reduceIte, Nat.reduceEqDiff, Int.reduceToNat]
      refine hK _ _ ?_; clear hK K
      refine zae ?_
      try simp only [Ex.thnH, Ex.inBlockH, ↓reduceIte, Nat.reduceEqDiff]
      refine hK7 _ _ ?_; try clear hK7 K7
      refine zaG (fun r => rfl) (fun c31 => ?_) (fun c31 => ?_)
      ·first
       |(exfalso; exact cnA c31; done)
       |skip
        (try simp only [decide_eq_true_eq, decide_eq_false_iff_not, Bool.not_eq_true, Bool.not_eq_false, Bool.and_eq_true, Bool.or_eq_true, Bool.or_eq_false_iff, Bool.not_eq_eq_eq_not, Bool.not_true, Bool.not_false] at c31)
        refine zad (fun K8 hK8 => ?_)
        refine zaa ?_
        refine zac (fun K hK r => ?_)
        simp only [zan, eX, ↓reduceIte, Nat.reduceEqDiff, Int.reduceToNat]
        first | refine zaN Try.underlying45 rfl sz45 hbA bdA ?_ | refine zaC Try.underlying45 rfl sz45 hbA bdA ?_
        try simp only [eX, ↓reduceIte, Nat.reduceEqDiff, Int.reduceToNat]
        refine hK _ _ ?_; clear hK K
        refine zbq rfl (zaJ) (fun K hK r => ?_)
        simp only [zaL, eX, ↓reduceIte, Nat.reduceEqDiff, Int.reduceToNat]
        first | refine zaz sz45 bdA hbA bdA plA (by decide) ?_ | refine zaI sz45 bdA hbA bdA plA (by decide) ?_
        try simp only [eX, ↓reduceIte, Nat.reduceEqDiff, Int.reduceToNat]
        refine hK _ _ ?_; clear hK K
        refine zao rfl ?_
        refine zae ?_
        try simp only [Ex.thnH, Ex.inBlockH, ↓reduceIte, Nat.reduceEqDiff]
        refine hK8 _ _ ?_; try clear hK8 K8
        refine zaR ?_
        try simp only [Ex.thnH, Ex.inBlockH, ↓reduceIte, Nat.reduceEqDiff]
        have hb : badI st kd l = some 2 := by simp only [badI]; rw [if_neg (by omega), if_pos (by omega)]
        refine ⟨[_, _], ⟨⟨_, rfl, zbd Try.underlying45 rfl sz45 hbA bdA⟩, rfl, trivial⟩, H, lhA, ?_, rfl⟩
        show Value.tuple #[_, _] = _
        rw [sealI, hb]; simp only [zero_cells]; rfl
      ·first
       |(exfalso; exact cnA c31; done)
       |skip
        (try simp only [decide_eq_true_eq, decide_eq_false_iff_not, Bool.not_eq_true, Bool.not_eq_false, Bool.and_eq_true, Bool.or_eq_true, Bool.or_eq_false_iff, Bool.not_eq_eq_eq_not, Bool.not_true, Bool.not_false] at c31)
        refine zaO ?_
        try simp only [Ex.thnH, Ex.inBlockH, ↓reduceIte, Nat.reduceEqDiff]
        refine hK6 _ _ ?_; try clear hK6 K6
        refine zad (fun K9 hK9 => ?_)
        refine zaa ?_
        refine zac (fun K hK r => ?_)
        simp only [zah, fa105_0, zap, Nat.reduceAdd, Nat.zero_add, eX, ↓reduceIte, Nat.reduceEqDiff, Int.reduceToNat]
        refine hK _ _ ?_; clear hK K
        refine zac (fun K hK r => ?_)
        simp only [zan, eX, ↓reduceIte, Nat.reduceEqDiff, Int.reduceToNat]
        refine zak Try.underlying3 rfl hbA ldA ?_
        try simp only [eX, ↓reduceIte, Nat.reduceEqDiff, Int.reduceToNat]
        refine hK _ _ ?_; clear hK K
        refine zao rfl ?_
        refine zae ?_
        try simp only [Ex.thnH, Ex.inBlockH, ↓reduceIte, Nat.reduceEqDiff]
        refine hK9 _ _ ?_; try clear hK9 K9
        refine zad (fun K10 hK10 => ?_)
        refine zad (fun K11 hK11 => ?_)
        refine zaa ?_
        refine zao rfl ?_
        refine zae ?_
        try simp only [Ex.thnH, Ex.inBlockH, ↓reduceIte, Nat.reduceEqDiff]
        refine hK11 _ _ ?_; try clear hK11 K11
        refine zaV ?_
        refine CW_loop (fun m e H_ => ∃ k : Nat, k ≤ 6 ∧ m = 6 - k ∧ Env.has [(1, .pointer (some ⟨b1, 0, none⟩)), (2, .pointer (some ⟨b2, 0, none⟩)), (4, .pointer (some ⟨b4, 0, none⟩)), (5, .int .i64 (dvK k st)), (6, .int .i64 k)] e ∧ H_ = ((H.upd b1 (.cells #[.int .i64 st, .int .i64 kd, .slice a l.length cap] 105)).upd b2 (.cells (Array.replicate 64 (.int .u8 0)) 45)).upd b4 (.cells (u8s (refS st k)).toArray 45)) (6) ?_ ?_
        ·skip
         exact ⟨0, by omega, rfl, ⟨rfl, rfl, rfl, rfl, rfl, trivial⟩, rfl⟩
        intro m_ e_ H_ hI_
        obtain ⟨k, hk6, rfl, he, rfl⟩ := hI_
        refine CW_env he.sub ?_; clear he e_
        have hr := dvK_range k st (by omega) (by omega)
        have hsz := refS_size st k hk6
        have e1 : (dvK k st).tmod 256 = dvK k st % 256 := Int.tmod_eq_emod_of_nonneg hr.1
        have e2 : (dvK k st).tdiv 256 = dvK k st / 256 := Int.tdiv_eq_ediv_of_nonneg hr.1
        refine zad (fun K12 hK12 => ?_)
        refine zad (fun K13 hK13 => ?_)
        refine zaa ?_
        refine zam rfl ?_
        refine zac (fun K hK r => ?_)
        simp (disch := (first | omega | decide)) only [zaF, zaH, b_lss, zaq, zar, zat, zau, zas, zav, Bool.not_true, Bool.not_false, eX, ↓reduceIte, Nat.reduceEqDiff, Int.reduceToNat]
        refine hK _ _ ?_; clear hK K
        refine zae ?_
        try simp only [Ex.thnH, Ex.inBlockH, ↓reduceIte, Nat.reduceEqDiff]
        refine hK13 _ _ ?_; try clear hK13 K13
        refine zaG (fun r => rfl) (fun c36 => ?_) (fun c36 => ?_)
        ·first
         |(exfalso; exact cnA c36; done)
         |skip
          (try simp only [decide_eq_true_eq, decide_eq_false_iff_not, Bool.not_eq_true, Bool.not_eq_false, Bool.and_eq_true, Bool.or_eq_true, Bool.or_eq_false_iff, Bool.not_eq_eq_eq_not, Bool.not_true, Bool.not_false] at c36)
          refine zaO ?_
          try simp only [Ex.thnH, Ex.inBlockH, ↓reduceIte, Nat.reduceEqDiff]
          refine hK12 _ _ ?_; try clear hK12 K12
          refine zad (fun K14 hK14 => ?_)
          refine zaV ?_
          refine zad (fun K15 hK15 => ?_)
          refine zaa ?_
          refine zam rfl ?_
          refine zam rfl ?_
          refine zac (fun K hK r => ?_)
          simp (disch := (first | omega | decide)) only [zaF, zaH, b_rem, zaw, zaE, zaD, zaQ, eX, ↓reduceIte, Nat.reduceEqDiff, Int.reduceToNat]
          refine hK _ _ ?_; clear hK K
          refine zac (fun K hK r => ?_)
          simp (disch := (first | omega | decide)) only [x_convert, c_int _ _ _ _ Try.underlying3 Try.underlying5, zaw, zaE, zaD, zaQ, eX, ↓reduceIte, Nat.reduceEqDiff, Int.reduceToNat]
          refine hK _ _ ?_; clear hK K
          refine zac (fun K hK r => ?_)
          simp only [zaK, eX, ↓reduceIte, Nat.reduceEqDiff, Int.reduceToNat]
          refine Lt_indexA Try.underlying45 sz5 ixA ixA ?_
          try simp only [zap, Nat.mul_one, Nat.zero_add, Int.reduceToNat]
          try simp only [eX, ↓reduceIte, Nat.reduceEqDiff, Int.reduceToNat]
          refine hK _ _ ?_; clear hK K
          refine zbq rfl (zaJ) (fun K hK r => ?_)
          simp only [zaL, eX, ↓reduceIte, Nat.reduceEqDiff, Int.reduceToNat]
          refine zaY sz5 hbA bdA plA fzA ?_
          try simp only [setL0, setL1, setL2, setL3, setL4, setL5, setL6, setL7, setL8, setL9]
          try simp only [eX, ↓reduceIte, Nat.reduceEqDiff, Int.reduceToNat]
          refine hK _ _ ?_; clear hK K
          refine zae ?_
          try simp only [Ex.thnH, Ex.inBlockH, ↓reduceIte, Nat.reduceEqDiff]
          refine hK15 _ _ ?_; try clear hK15 K15
          refine zad (fun K16 hK16 => ?_)
          refine zaa ?_
          refine zam rfl ?_
          refine zac (fun K hK r => ?_)
          simp (disch := (first | omega | decide)) only [zaF, zaH, b_add, zaw, zaE, zaD, zaQ, eX, ↓reduceIte, Nat.reduceEqDiff, Int.reduceToNat]
          refine hK _ _ ?_; clear hK K
          refine zam rfl ?_
          refine zac (fun K hK r => ?_)
          simp (disch := (first | omega | decide)) only [zaF, zaH, b_rem, zaw, zaE, zaD, zaQ, eX, ↓reduceIte, Nat.reduceEqDiff, Int.reduceToNat]
          refine hK _ _ ?_; clear hK K
          refine zac (fun K hK r => ?_)
          simp (disch := (first | omega | decide)) only [x_convert, c_int _ _ _ _ Try.underlying3 Try.underlying5, zaw, zaE, zaD, zaQ, eX, ↓reduceIte, Nat.reduceEqDiff, Int.reduceToNat]
          refine hK _ _ ?_; clear hK K
          refine zac (fun K hK r => ?_)
          simp only [zaK, eX, ↓reduceIte, Nat.reduceEqDiff, Int.reduceToNat]
          refine Lt_indexA Try.underlying45 sz5 ixA ixA ?_
          try simp only [zap, Nat.mul_one, Nat.zero_add, Int.reduceToNat]
          try simp only [eX, ↓reduceIte, Nat.reduceEqDiff, Int.reduceToNat]
          refine hK _ _ ?_; clear hK K
          refine zbq rfl (zaJ) (fun K hK r => ?_)
          simp only [zaL, eX, ↓reduceIte, Nat.reduceEqDiff, Int.reduceToNat]
          refine zaY sz5 hbA bdA plA fzA ?_
          try simp only [setL0, setL1, setL2, setL3, setL4, setL5, setL6, setL7, setL8, setL9]
          try simp only [eX, ↓reduceIte, Nat.reduceEqDiff, Int.reduceToNat]
          refine hK _ _ ?_; clear hK K
          refine zae ?_
          try simp only [Ex.thnH, Ex.inBlockH, ↓reduceIte, Nat.reduceEqDiff]
          refine hK16 _ _ ?_; try clear hK16 K16
          refine zaa ?_
          refine zam rfl ?_
          refine zac (fun K hK r => ?_)
          simp (disch := (first | omega | decide)) only [zaF, zaH, b_quo, zaw, zaE, zaD, zaQ, eX, ↓reduceIte, Nat.reduceEqDiff, Int.reduceToNat]
          refine hK _ _ ?_; clear hK K
          refine zao rfl ?_
          refine zae ?_
          try simp only [Ex.thnH, Ex.inBlockH, ↓reduceIte, Nat.reduceEqDiff]
          refine hK14 _ _ ?_; try clear hK14 K14
          refine zaa ?_
          refine zam rfl ?_
          refine zac (fun K hK r => ?_)
          simp (disch := (first | omega | decide)) only [zaF, zaH, b_add, zaw, zaE, zaD, zaQ, eX, ↓reduceIte, Nat.reduceEqDiff, Int.reduceToNat]
          refine hK _ _ ?_; clear hK K
          refine zao rfl ?_
          refine zae ?_
          try simp only [Ex.thnH, Ex.inBlockH, ↓reduceIte, Nat.reduceEqDiff]
          refine ⟨6 - (k + 1), by omega, k + 1, by omega, rfl, ⟨rfl, rfl, rfl, ?_, rfl, trivial⟩, ?_⟩
          ·show some (Value.int _ _) = _
           rw [dvK_succ, e2]
          ·have e3 : (58 + (k : Int)).toNat = 58 + k := by omega
           rw [Int.toNat_natCast, e3, e1, u8s_set, u8s_set, refS_step st k (by omega)]
        ·first
         |(exfalso; exact cnA c36; done)
         |skip
          (try simp only [decide_eq_true_eq, decide_eq_false_iff_not, Bool.not_eq_true, Bool.not_eq_false, Bool.and_eq_true, Bool.or_eq_true, Bool.or_eq_false_iff, Bool.not_eq_eq_eq_not, Bool.not_true, Bool.not_false] at c36)
          refine CW_exit ?_
          try simp only [Ex.thnH, Ex.inBlockH, ↓reduceIte, Nat.reduceEqDiff]
          refine hK10 _ _ ?_; try clear hK10 K10
          refine zad (fun K17 hK17 => ?_)
          refine zaa ?_
          refine zac (fun K hK r => ?_)
          simp only [zah, fa105_1, zap, Nat.reduceAdd, Nat.zero_add, eX, ↓reduceIte, Nat.reduceEqDiff, Int.reduceToNat]
          refine hK _ _ ?_; clear hK K
          refine zac (fun K hK r => ?_)
          simp only [zan, eX, ↓reduceIte, Nat.reduceEqDiff, Int.reduceToNat]
          refine zak Try.underlying3 rfl hbA ldA ?_
          try simp only [eX, ↓reduceIte, Nat.reduceEqDiff, Int.reduceToNat]
          refine hK _ _ ?_; clear hK K
          refine zac (fun K hK r => ?_)
          simp (disch := (first | omega | decide)) only [x_convert, c_int _ _ _ _ Try.underlying3 Try.underlying5, zaw, zaE, zaD, zaQ, eX, ↓reduceIte, Nat.reduceEqDiff, Int.reduceToNat]
          refine hK _ _ ?_; clear hK K
          refine zac (fun K hK r => ?_)
          simp only [zaK, eX, ↓reduceIte, Nat.reduceEqDiff, Int.reduceToNat]
          refine Lt_indexA Try.underlying45 sz5 ixA ixA ?_
          try simp only [zap, Nat.mul_one, Nat.zero_add, Int.reduceToNat]
          try simp only [eX, ↓reduceIte, Nat.reduceEqDiff, Int.reduceToNat]
          refine hK _ _ ?_; clear hK K
          refine zbq rfl (zaJ) (fun K hK r => ?_)
          simp only [zaL, eX, ↓reduceIte, Nat.reduceEqDiff, Int.reduceToNat]
          refine zaY sz5 hbA bdA plA fzA ?_
          try simp only [setL0, setL1, setL2, setL3, setL4, setL5, setL6, setL7, setL8, setL9]
          try simp only [eX, ↓reduceIte, Nat.reduceEqDiff, Int.reduceToNat]
          refine hK _ _ ?_; clear hK K
          refine zae ?_
          try simp only [Ex.thnH, Ex.inBlockH, ↓reduceIte, Nat.reduceEqDiff]
          refine hK17 _ _ ?_; try clear hK17 K17
          refine zad (fun K18 hK18 => ?_)
          refine zaa ?_
          refine zac (fun K hK r => ?_)
          simp only [zah, fa105_2, zap, Nat.reduceAdd, Nat.zero_add, eX, ↓reduceIte, Nat.reduceEqDiff, Int.reduceToNat]
          refine hK _ _ ?_; clear hK K
          refine zac (fun K hK r => ?_)
          simp only [zan, eX, ↓reduceIte, Nat.reduceEqDiff, Int.reduceToNat]
          refine zak Try.underlying22 rfl hbA ldA ?_
          try simp only [eX, ↓reduceIte, Nat.reduceEqDiff, Int.reduceToNat]
          refine hK _ _ ?_; clear hK K
          refine zac (fun K hK r => ?_)
          simp only [zaM, l_len, List.map_toArray, List.map_cons, List.map_nil, zaS _ _ Try.underlying22, eX, ↓reduceIte, Nat.reduceEqDiff, Int.reduceToNat]
          refine hK _ _ ?_; clear hK K
          refine zac (fun K hK r => ?_)
          simp (disch := (first | omega | decide)) only [x_convert, c_int _ _ _ _ Try.underlying3 Try.underlying5, zaw, zaE, zaD, zaQ, eX, ↓reduceIte, Nat.reduceEqDiff, Int.reduceToNat]
          refine hK _ _ ?_; clear hK K
          refine zac (fun K hK r => ?_)
          simp only [zaK, eX, ↓reduceIte, Nat.reduceEqDiff, Int.reduceToNat]
          refine Lt_indexA Try.underlying45 sz5 ixA ixA ?_
          try simp only [zap, Nat.mul_one, Nat.zero_add, Int.reduceToNat]
          try simp only [eX, ↓reduceIte, Nat.reduceEqDiff, Int.reduceToNat]
          refine hK _ _ ?_; clear hK K
          refine zbq rfl (zaJ) (fun K hK r => ?_)
          simp only [zaL, eX, ↓reduceIte, Nat.reduceEqDiff, Int.reduceToNat]
          refine zaY sz5 hbA bdA plA fzA ?_
          try simp only [setL0, setL1, setL2, setL3, setL4, setL5, setL6, setL7, setL8, setL9]
          try simp only [eX, ↓reduceIte, Nat.reduceEqDiff, Int.reduceToNat]
          refine hK _ _ ?_; clear hK K
          refine zae ?_
          try simp only [Ex.thnH, Ex.inBlockH, ↓reduceIte, Nat.reduceEqDiff]
          refine hK18 _ _ ?_; try clear hK18 K18
          refine zad (fun K19 hK19 => ?_)
          refine zad (fun K20 hK20 => ?_)
          refine zaa ?_
          refine zao rfl ?_
          refine zae ?_
          try simp only [Ex.thnH, Ex.inBlockH, ↓reduceIte, Nat.reduceEqDiff]
          refine hK20 _ _ ?_; try clear hK20 K20
          refine zaV ?_
          refine CW_loop (fun m e H_ => ∃ k : Nat, k ≤ l.length ∧ m = l.length - k ∧ Env.has [(1, .pointer (some ⟨b1, 0, none⟩)), (2, .pointer (some ⟨b2, 0, none⟩)), (4, .pointer (some ⟨b4, 0, none⟩)), (7, .int .i64 k)] e ∧ H_ = ((H.upd b1 (.cells #[.int .i64 st, .int .i64 kd, .slice a l.length cap] 105)).upd b2 (.cells (Array.replicate 64 (.int .u8 0)) 45)).upd b4 (.cells (u8s (refD st kd l k)).toArray 45)) (l.length) ?_ ?_
          ·skip
           obtain rfl : k = 6 := by omega
           exact ⟨0, by omega, rfl, ⟨rfl, rfl, rfl, rfl, trivial⟩, by rw [u8s_set, u8s_set, refD_zero]⟩
          intro m_ e_ H_ hI_
          obtain ⟨k, hk6, rfl, he, rfl⟩ := hI_
          refine CW_env he.sub ?_; clear he e_
          have hsz := refD_size st kd l k (by omega) hk6
          refine zad (fun K21 hK21 => ?_)
          refine zad (fun K22 hK22 => ?_)
          refine zaa ?_
          refine zam rfl ?_
          refine zac (fun K hK r => ?_)
          simp only [zah, fa105_2, zap, Nat.reduceAdd, Nat.zero_add, eX, ↓reduceIte, Nat.reduceEqDiff, Int.reduceToNat]
          refine hK _ _ ?_; clear hK K
          refine zac (fun K hK r => ?_)
          simp only [zan, eX, ↓reduceIte, Nat.reduceEqDiff, Int.reduceToNat]
          refine zak Try.underlying22 rfl hbA ldA ?_
          try simp only [eX, ↓reduceIte, Nat.reduceEqDiff, Int.reduceToNat]
          refine hK _ _ ?_; clear hK K
          refine zac (fun K hK r => ?_)
          simp only [zaM, l_len, List.map_toArray, List.map_cons, List.map_nil, zaS _ _ Try.underlying22, eX, ↓reduceIte, Nat.reduceEqDiff, Int.reduceToNat]
          refine hK _ _ ?_; clear hK K
          refine zac (fun K hK r => ?_)
          simp (disch := (first | omega | decide)) only [zaF, zaH, b_lss, zaq, zar, zat, zau, zas, zav, Bool.not_true, Bool.not_false, eX, ↓reduceIte, Nat.reduceEqDiff, Int.reduceToNat]
          refine hK _ _ ?_; clear hK K
          refine zae ?_
          try simp only [Ex.thnH, Ex.inBlockH, ↓reduceIte, Nat.reduceEqDiff]
          refine hK22 _ _ ?_; try clear hK22 K22
          refine zaG (fun r => rfl) (fun c65 => ?_) (fun c65 => ?_)
          ·first
           |(exfalso; exact cnA c65; done)
           |skip
            (try simp only [decide_eq_true_eq, decide_eq_false_iff_not, Bool.not_eq_true, Bool.not_eq_false, Bool.and_eq_true, Bool.or_eq_true, Bool.or_eq_false_iff, Bool.not_eq_eq_eq_not, Bool.not_true, Bool.not_false] at c65)
            obtain ⟨b0, o0, c0, T0, f0, rfl, hb0, hs0, hc0⟩ := hd.at (by omega)
            have n0_b1 : b0 ≠ b1 := zai hb0 f1_H
            have n0_b2 : b0 ≠ b2 := zai hb0 f2_H
            have n0_b4 : b0 ≠ b4 := zai hb0 f4_H
            refine zaO ?_
            try simp only [Ex.thnH, Ex.inBlockH, ↓reduceIte, Nat.reduceEqDiff]
            refine hK21 _ _ ?_; try clear hK21 K21
            refine zad (fun K23 hK23 => ?_)
            refine zaV ?_
            refine zaa ?_
            refine zam rfl ?_
            refine zac (fun K hK r => ?_)
            simp (disch := (first | omega | decide)) only [zaF, zaH, b_add, zaw, zaE, zaD, zaQ, eX, ↓reduceIte, Nat.reduceEqDiff, Int.reduceToNat]
            refine hK _ _ ?_; clear hK K
            refine zac (fun K hK r => ?_)
            simp only [zah, fa105_2, zap, Nat.reduceAdd, Nat.zero_add, eX, ↓reduceIte, Nat.reduceEqDiff, Int.reduceToNat]
            refine hK _ _ ?_; clear hK K
            refine zac (fun K hK r => ?_)
            simp only [zan, eX, ↓reduceIte, Nat.reduceEqDiff, Int.reduceToNat]
            refine zak Try.underlying22 rfl hbA ldA ?_
            try simp only [eX, ↓reduceIte, Nat.reduceEqDiff, Int.reduceToNat]
            refine hK _ _ ?_; clear hK K
            refine zam rfl ?_
            refine zac (fun K hK r => ?_)
            simp only [zaK, eX, ↓reduceIte, Nat.reduceEqDiff, Int.reduceToNat]
            refine Lt_indexS Try.underlying22 sz5 ixA ixA ?_
            try simp only [zap, Nat.mul_one, Nat.zero_add, Int.reduceToNat]
            try simp only [eX, ↓reduceIte, Nat.reduceEqDiff, Int.reduceToNat]
            refine hK _ _ ?_; clear hK K
            refine zac (fun K hK r => ?_)
            simp only [zan, eX, ↓reduceIte, Nat.reduceEqDiff, Int.reduceToNat]
            refine zak Try.underlying5 rfl hbA (v := .int .u8 (l.getD k 0)) ?_ ?_
            ·simp only [Int.toNat_natCast, Nat.mul_one]
             rw [hc0 k (by omega), List.getElem?_map, getD_of_lt l k (by omega)]; rfl
            refine hK _ _ ?_; clear hK K
            refine zac (fun K hK r => ?_)
            simp only [zaK, eX, ↓reduceIte, Nat.reduceEqDiff, Int.reduceToNat]
            refine Lt_indexA Try.underlying45 sz5 ixA ixA ?_
            try simp only [zap, Nat.mul_one, Nat.zero_add, Int.reduceToNat]
            try simp only [eX, ↓reduceIte, Nat.reduceEqDiff, Int.reduceToNat]
            refine hK _ _ ?_; clear hK K
            refine zbq rfl (zaJ) (fun K hK r => ?_)
            simp only [zaL, eX, ↓reduceIte, Nat.reduceEqDiff, Int.reduceToNat]
            refine zaY sz5 hbA bdA plA fzA ?_
            try simp only [setL0, setL1, setL2, setL3, setL4, setL5, setL6, setL7, setL8, setL9]
            try simp only [eX, ↓reduceIte, Nat.reduceEqDiff, Int.reduceToNat]
            refine hK _ _ ?_; clear hK K
            refine zae ?_
            try simp only [Ex.thnH, Ex.inBlockH, ↓reduceIte, Nat.reduceEqDiff]
            refine hK23 _ _ ?_; try clear hK23 K23
            refine zaa ?_
            refine zam rfl ?_
            refine zac (fun K hK r => ?_)
            simp (disch := (first | omega | decide)) only [zaF, zaH, b_add, zaw, zaE, zaD, zaQ, eX, ↓reduceIte, Nat.reduceEqDiff, Int.reduceToNat]
            refine hK _ _ ?_; clear hK K
            refine zao rfl ?_
            refine zae ?_
            try simp only [Ex.thnH, Ex.inBlockH, ↓reduceIte, Nat.reduceEqDiff]
            refine ⟨l.length - (k + 1), by omega, k + 1, by omega, rfl, ⟨rfl, rfl, rfl, rfl, trivial⟩, ?_⟩
            have e3 : (8 + (k : Int)).toNat = 8 + k := by omega
            rw [e3, u8s_set, refD_step st kd l k (by omega) (by omega)]
          ·first
           |(exfalso; exact cnA c65; done)
           |skip
            (try simp only [decide_eq_true_eq, decide_eq_false_iff_not, Bool.not_eq_true, Bool.not_eq_false, Bool.and_eq_true, Bool.or_eq_true, Bool.or_eq_false_iff, Bool.not_eq_eq_eq_not, Bool.not_true, Bool.not_false] at c65)
            refine CW_exit ?_
            try simp only [Ex.thnH, Ex.inBlockH, ↓reduceIte, Nat.reduceEqDiff]
            refine hK19 _ _ ?_; try clear hK19 K19
            refine zad (fun K24 hK24 => ?_)
            refine zaa ?_
            refine zac (fun K hK r => ?_)
            simp only [zan, eX, ↓reduceIte, Nat.reduceEqDiff, Int.reduceToNat]
            first | refine zaN Try.underlying45 rfl sz45 hbA bdA ?_ | refine zaC Try.underlying45 rfl sz45 hbA bdA ?_
            try simp only [eX, ↓reduceIte, Nat.reduceEqDiff, Int.reduceToNat]
            refine hK _ _ ?_; clear hK K
            refine zbq rfl (zaJ) (fun K hK r => ?_)
            simp only [zaL, eX, ↓reduceIte, Nat.reduceEqDiff, Int.reduceToNat]
            first | refine zaz sz45 bdA hbA bdA plA (by decide) ?_ | refine zaI sz45 bdA hbA bdA plA (by decide) ?_
            try simp only [eX, ↓reduceIte, Nat.reduceEqDiff, Int.reduceToNat]
            refine hK _ _ ?_; clear hK K
            refine zao rfl ?_
            refine zae ?_
            try simp only [Ex.thnH, Ex.inBlockH, ↓reduceIte, Nat.reduceEqDiff]
            refine hK24 _ _ ?_; try clear hK24 K24
            refine zaR ?_
            try simp only [Ex.thnH, Ex.inBlockH, ↓reduceIte, Nat.reduceEqDiff]
            have hb : badI st kd l = none := by simp only [badI]; rw [if_neg (by omega), if_neg (by omega)]
            obtain rfl : k = l.length := by omega
            refine ⟨[_, _], ⟨⟨_, rfl, zbd Try.underlying45 rfl sz45 hbA bdA⟩, rfl, trivial⟩, H, lhA, ?_, rfl⟩
            show Value.tuple #[_, _] = _
            rw [← refD_full st kd l hb, hb]; rfl
end Go.Proofs.Ytcjdkfhmlnfedaa.HL
end
section
namespace Go.Proofs.Ytcjdkfhmlnfedaa.HL
open Go Go.Proofs
set_option linter.unusedSimpArgs false
set_option linter.unusedVariables false
attribute [local irreducible] Lt Lq CW OW TW CallH
set_option maxRecDepth 100000 in
set_option maxHeartbeats 1000000 in
theorem rOpen_R (H : Hp) (L : List Int) (hc : L.length = 64) (hB : ByteL L) :
  CallH Try.prog 66 #[.agg (u8s L).toArray] H (fun v H' => ∃ x, SlabR H H' (opD L) x ∧ v = .tuple #[.agg #[.int .i64 (opS L), .int .i64 (opK L), x], .bool (opE L).isNone]) := by
 refine zaB (l := [_]) (rl := [.cell 2 105, .tmp 3]) (n := 60) Try.func66 rfl rfl rfl rfl rfl ?_
 simp only [envOf, Nat.reduceAdd]
 have h6 : 0 ≤ L.getD 6 0 ∧ L.getD 6 0 ≤ 255 := getD_byte hB 6
 have h7 : 0 ≤ L.getD 7 0 ∧ L.getD 7 0 ≤ 255 := getD_byte hB 7
 refine zad (fun K1 hK1 => ?_)
 refine zaa ?_
 refine zac (fun K hK r => ?_)
 simp only [x_box, Value.cells, eX, ↓reduceIte, Nat.reduceEqDiff, Int.reduceToNat]
 intro b1 hb1
 have f1_H : H b1 = none := zaj lhA hb1
 try simp only [eX, ↓reduceIte, Nat.reduceEqDiff, Int.reduceToNat]
 refine hK _ _ ?_; clear hK K
 refine zac (fun K hK r => ?_)
 simp only [x_alloc, zr105, zal, Value.cells, eX, ↓reduceIte, Nat.reduceEqDiff, Int.reduceToNat]
 intro b2 hb2
 try have n2_b1 : b1 ≠ b2 := zai hbA hb2
 have f2_H : H b2 = none := zaj lhA hb2
 try simp only [eX, ↓reduceIte, Nat.reduceEqDiff, Int.reduceToNat]
 refine hK _ _ ?_; clear hK K
 refine zao rfl ?_
 refine zae ?_
 try simp only [Ex.thnH, Ex.inBlockH, ↓reduceIte, Nat.reduceEqDiff]
 refine hK1 _ _ ?_; try clear hK1 K1
 refine zad (fun K2 hK2 => ?_)
 refine zaa ?_
 refine zac (fun K hK r => ?_)
 simp only [zaK, eX, ↓reduceIte, Nat.reduceEqDiff, Int.reduceToNat]
 refine Lt_indexA Try.underlying45 sz5 ixA ixA ?_
 try simp only [zap, Nat.mul_one, Nat.zero_add, Int.reduceToNat]
 try simp only [eX, ↓reduceIte, Nat.reduceEqDiff, Int.reduceToNat]
 refine hK _ _ ?_; clear hK K
 refine zac (fun K hK r => ?_)
 simp only [zan, eX, ↓reduceIte, Nat.reduceEqDiff, Int.reduceToNat]
 refine zak Try.underlying5 rfl hbA (v := .int .u8 (L.getD 6 0)) (u8s_at L 6 (by omega)) ?_
 refine hK _ _ ?_; clear hK K
 refine zac (fun K hK r => ?_)
 simp (disch := (first | omega | decide)) only [x_convert, c_int _ _ _ _ Try.underlying5 Try.underlying3, zaw, zaE, zaD, zaQ, eX, ↓reduceIte, Nat.reduceEqDiff, Int.reduceToNat]
 refine hK _ _ ?_; clear hK K
 refine zac (fun K hK r => ?_)
 simp only [x_build, bp105, List.map_toArray, List.map_cons, List.map_nil, eX, ↓reduceIte, Nat.reduceEqDiff, Int.reduceToNat]
 rw [fill_one rfl clA bdA]
 simp only [fill_nil, zal, List.setIfInBounds_toArray, List.set_cons_zero, List.set_cons_succ]
 try simp only [eX, ↓reduceIte, Nat.reduceEqDiff, Int.reduceToNat]
 refine hK _ _ ?_; clear hK K
 refine zac (fun K hK r => ?_)
 simp only [x_alloc, zr105, zal, Value.cells, eX, ↓reduceIte, Nat.reduceEqDiff, Int.reduceToNat]
 intro b4 hb4
 try have n4_b1 : b1 ≠ b4 := zai hbA hb4
 try have n4_b2 : b2 ≠ b4 := zai hbA hb4
 have f4_H : H b4 = none := zaj lhA hb4
 try simp only [eX, ↓reduceIte, Nat.reduceEqDiff, Int.reduceToNat]
 refine hK _ _ ?_; clear hK K
 refine zbq rfl (zaJ) (fun K hK r => ?_)
 simp only [zaL, eX, ↓reduceIte, Nat.reduceEqDiff, Int.reduceToNat]
 first | refine zaz sz105 bdA hbA bdA plA (by decide) ?_ | refine zaI sz105 bdA hbA bdA plA (by decide) ?_
 try simp only [eX, ↓reduceIte, Nat.reduceEqDiff, Int.reduceToNat]
 refine hK _ _ ?_; clear hK K
 refine zae ?_
 try simp only [Ex.thnH, Ex.inBlockH, ↓reduceIte, Nat.reduceEqDiff]
 refine hK2 _ _ ?_; try clear hK2 K2
 refine zad (fun K3 hK3 => ?_)
 refine zad (fun K4 hK4 => ?_)
 refine zaa ?_
 refine zao rfl ?_
 refine zae ?_
 try simp only [Ex.thnH, Ex.inBlockH, ↓reduceIte, Nat.reduceEqDiff]
 refine hK4 _ _ ?_; try clear hK4 K4
 refine zaV ?_
 refine CW_loop (fun m e H_ => ∃ k : Nat, k ≤ 6 ∧ m = 6 - k ∧ Env.has [(1, .pointer (some ⟨b1, 0, none⟩)), (2, .pointer (some ⟨b2, 0, none⟩)), (4, .pointer (some ⟨b4, 0, none⟩)), (5, .int .i64 (5 - k))] e ∧ H_ = ((H.upd b1 (.cells (u8s L).toArray 45)).upd b2 (.cells #[.int .i64 0, .int .i64 0, .slice none 0 0] 105)).upd b4 (.cells #[.int .i64 (leI ((L.take 6).drop (6 - k))), .int .i64 (L.getD 6 0), .slice none 0 0] 105)) (6) ?_ ?_
 ·skip
  refine ⟨0, by omega, rfl, ⟨rfl, rfl, rfl, rfl, trivial⟩, ?_⟩
  rw [show (L.take 6).drop (6 - 0) = [] from List.drop_eq_nil_of_le (by simp; omega)]; rfl
 intro m_ e_ H_ hI_
 obtain ⟨k, hk6, rfl, he, rfl⟩ := hI_
 refine CW_env he.sub ?_; clear he e_
 refine zad (fun K5 hK5 => ?_)
 refine zad (fun K6 hK6 => ?_)
 refine zaa ?_
 refine zam rfl ?_
 refine zac (fun K hK r => ?_)
 simp (disch := (first | omega | decide)) only [zaF, zaH, b_geq, zaq, zar, zat, zau, zas, zav, Bool.not_true, Bool.not_false, eX, ↓reduceIte, Nat.reduceEqDiff, Int.reduceToNat]
 refine hK _ _ ?_; clear hK K
 refine zae ?_
 try simp only [Ex.thnH, Ex.inBlockH, ↓reduceIte, Nat.reduceEqDiff]
 refine hK6 _ _ ?_; try clear hK6 K6
 refine zaG (fun r => rfl) (fun c14 => ?_) (fun c14 => ?_)
 ·first
  |(exfalso; exact cnA c14; done)
  |skip
   (try simp only [decide_eq_true_eq, decide_eq_false_iff_not, Bool.not_eq_true, Bool.not_eq_false, Bool.and_eq_true, Bool.or_eq_true, Bool.or_eq_false_iff, Bool.not_eq_eq_eq_not, Bool.not_true, Bool.not_false] at c14)
   refine zaO ?_
   try simp only [Ex.thnH, Ex.inBlockH, ↓reduceIte, Nat.reduceEqDiff]
   refine hK5 _ _ ?_; try clear hK5 K5
   refine zad (fun K7 hK7 => ?_)
   refine zaV ?_
   refine CW_drawE [0, 1, 0, 0, 0, 1, 0, 0, 0, 3] [0, 1, 2, 3, 4, 5, 6, 7, 8, 9] (by kernel_rfl) (by kernel_rfl) (fun R5 hR5 => ?_)
   apply zay rfl (zab (by decide)) rfl
   ·intro r
    simp only [zah, fa105_0, zap, Nat.reduceAdd, Nat.zero_add, eX, ↓reduceIte, Nat.reduceEqDiff]
    exact ⟨rfl, Le.refl _⟩
   simp only [eX, ↓reduceIte, Nat.reduceEqDiff, Int.reduceToNat]
   apply TW_look rfl (zab (by decide)) rfl
   ·intro r
    simp only [zan, eX, ↓reduceIte, Nat.reduceEqDiff]
    refine zak Try.underlying3 rfl hbA ldA ?_
    exact ⟨rfl, Le.refl _⟩
   simp only [eX, ↓reduceIte, Nat.reduceEqDiff, Int.reduceToNat]
   apply zay rfl (zab (by decide)) rfl
   ·intro r
    simp (disch := (first | omega | decide)) only [zaF, zaH, b_mul, zaw, zaE, zaD, zaQ, eX, ↓reduceIte, Nat.reduceEqDiff]
    exact ⟨rfl, Le.refl _⟩
   simp only [eX, ↓reduceIte, Nat.reduceEqDiff, Int.reduceToNat]
   apply zay rfl (zab (by decide)) rfl
   ·intro r
    simp only [zaU, eX, ↓reduceIte, Nat.reduceEqDiff]
    exact ⟨rfl, Le.refl _⟩
   simp only [eX, ↓reduceIte, Nat.reduceEqDiff, Int.reduceToNat]
   apply zay rfl (zab (by decide)) rfl
   ·intro r
    simp only [zaK, eX, ↓reduceIte, Nat.reduceEqDiff]
    refine Lt_indexA Try.underlying45 sz5 ixA ixA ?_
    try simp only [zap, Nat.mul_one, Nat.zero_add, Int.reduceToNat]
    exact ⟨rfl, Le.refl _⟩
   simp only [eX, ↓reduceIte, Nat.reduceEqDiff, Int.reduceToNat]
   apply TW_look rfl (zab (by decide)) rfl
   ·intro r
    simp only [zan, eX, ↓reduceIte, Nat.reduceEqDiff]
    refine zak Try.underlying5 rfl hbA (v := .int .u8 (L.getD (5 - k) 0)) ?_ ?_
    ·rw [← u8s_at L (5 - k) (by omega)]; congr 1 <;> omega
    exact ⟨rfl, Le.refl _⟩
   simp only [eX, ↓reduceIte, Nat.reduceEqDiff, Int.reduceToNat]
   apply zay rfl (zab (by decide)) rfl
   ·intro r
    simp (disch := (first | omega | decide)) only [x_convert, c_int _ _ _ _ Try.underlying5 Try.underlying3, zaw, zaE, zaD, zaQ, eX, ↓reduceIte, Nat.reduceEqDiff]
    exact ⟨rfl, Le.refl _⟩
   simp only [eX, ↓reduceIte, Nat.reduceEqDiff, Int.reduceToNat]
   apply zay rfl (zab (by decide)) rfl
   ·intro r
    simp (disch := (first | omega | decide)) only [zaF, zaH, b_add, zaw, zaE, zaD, zaQ, eX, ↓reduceIte, Nat.reduceEqDiff]
    exact ⟨rfl, Le.refl _⟩
   simp only [eX, ↓reduceIte, Nat.reduceEqDiff, Int.reduceToNat]
   apply zay rfl (zab (by decide)) rfl
   ·intro r
    simp only [zah, fa105_0, zap, Nat.reduceAdd, Nat.zero_add, eX, ↓reduceIte, Nat.reduceEqDiff]
    exact ⟨rfl, Le.refl _⟩
   simp only [eX, ↓reduceIte, Nat.reduceEqDiff, Int.reduceToNat]
   refine TW_last rfl (zaJ) rfl (fun K hK r => ?_)
   simp only [zaL, eX, ↓reduceIte, Nat.reduceEqDiff, Int.reduceToNat]
   refine zaY sz3 hbA bdA plA fzA ?_
   try simp only [setL0, setL1, setL2, setL3, setL4, setL5, setL6, setL7, setL8, setL9]
   try simp only [eX, ↓reduceIte, Nat.reduceEqDiff, Int.reduceToNat]
   refine hK _ _ ?_; clear hK K
   refine TW_nil ?_
   try simp only [Ex.thnH, Ex.inBlockH, ↓reduceIte, Nat.reduceEqDiff]
   refine hK7 _ _ ?_; try clear hK7 K7
   refine zaa ?_
   refine zam rfl ?_
   refine zac (fun K hK r => ?_)
   simp (disch := (first | omega | decide)) only [zaF, zaH, b_sub, zaw, zaE, zaD, zaQ, eX, ↓reduceIte, Nat.reduceEqDiff, Int.reduceToNat]
   refine hK _ _ ?_; clear hK K
   refine zao rfl ?_
   refine zae ?_
   try simp only [Ex.thnH, Ex.inBlockH, ↓reduceIte, Nat.reduceEqDiff]
   have hs := leI_small hc hB k (by omega)
   have hx := getD_byte hB (5 - k)
   refine ⟨6 - (k + 1), by omega, k + 1, by omega, rfl, ⟨rfl, rfl, rfl, ?_, trivial⟩, ?_⟩
   ·show some (Value.int _ _) = _
    congr 2; omega
   ·have e := leI_drop hc (5 - k) (by omega)
    rw [show 5 - k + 1 = 6 - k by omega] at e
    rw [show 6 - (k + 1) = 5 - k by omega, e, zaw (256 * leI ((L.take 6).drop (6 - k))) (by omega) (by omega), zaw (L.getD (5 - k) 0) (by omega) (by omega), zaw _ (by omega) (by omega), Int.add_comm]
 ·first
  |(exfalso; exact cnA c14; done)
  |skip
   (try simp only [decide_eq_true_eq, decide_eq_false_iff_not, Bool.not_eq_true, Bool.not_eq_false, Bool.and_eq_true, Bool.or_eq_true, Bool.or_eq_false_iff, Bool.not_eq_eq_eq_not, Bool.not_true, Bool.not_false] at c14)
   refine CW_exit ?_
   try simp only [Ex.thnH, Ex.inBlockH, ↓reduceIte, Nat.reduceEqDiff]
   refine hK3 _ _ ?_; try clear hK3 K3
   refine zad (fun K8 hK8 => ?_)
   refine zad (fun K9 hK9 => ?_)
   refine zaa ?_
   refine zao rfl ?_
   refine zae ?_
   try simp only [Ex.thnH, Ex.inBlockH, ↓reduceIte, Nat.reduceEqDiff]
   refine hK9 _ _ ?_; try clear hK9 K9
   refine zaV ?_
   refine CW_loop (fun m e H_ => ∃ (k : Nat) (x : Value) (rs : Option Nat), k ≤ (rdOf L).length ∧ m = (rdOf L).length - k ∧ Env.has [(1, .pointer (some ⟨b1, 0, none⟩)), (2, .pointer (some ⟨b2, 0, none⟩)), (4, .pointer (some ⟨b4, 0, none⟩)), (6, .int .i64 k)] e ∧ Le ((H.upd b1 (.cells (u8s L).toArray 45)).upd b2 (.cells #[.int .i64 0, .int .i64 0, .slice none 0 0] 105)) H_ ∧ H_ b4 = some (.cells #[.int .i64 (stOf L), .int .i64 (L.getD 6 0), x] 105) ∧ OwnS H_ 5 1 x k (u8s ((L.drop 8).take k)) rs ∧ (∀ r, rs = some r → ((H.upd b1 (.cells (u8s L).toArray 45)).upd b2 (.cells #[.int .i64 0, .int .i64 0, .slice none 0 0] 105)) r = none) ∧ rs ≠ some b4) ((rdOf L).length) ?_ ?_
   ·skip
    obtain rfl : k = 6 := by omega
    simp only [show leI ((L.take 6).drop (6 - 6)) = stOf L from rfl]
    exact ⟨0, _, none, by omega, rfl, ⟨rfl, rfl, rfl, rfl, trivial⟩, lhA, hbA, OwnS.nil _ _ _, (fun r hr => by cases hr), (by simp)⟩
   intro m_ e_ H_ hI_
   obtain ⟨k, x, rs, hkl, rfl, he, hl1, hx4, hox, hrs, hr4⟩ := hI_
   refine CW_env he.sub ?_; clear he e_
   have hlen := rdOf_len hc
   have kb1 := hl1 b1 _ hbA
   have kb2 := hl1 b2 _ hbA
   have lH : Le H H_ := Le.trans lhA hl1
   have px : plainCell x = true := by obtain ⟨_, _, rfl⟩ := hox.holds.form; rfl
   have hszS : szS L = L.getD 7 0 := rfl
   have hsl : (sealI (stOf L) (kdOf L) (rdOf L)).length = 64 := sealI_len _ _ _
   refine zad (fun K10 hK10 => ?_)
   refine zad (fun K11 hK11 => ?_)
   refine zaa ?_
   refine zam rfl ?_
   refine zac (fun K hK r => ?_)
   simp only [zaK, eX, ↓reduceIte, Nat.reduceEqDiff, Int.reduceToNat]
   refine Lt_indexA Try.underlying45 sz5 ixA ixA ?_
   try simp only [zap, Nat.mul_one, Nat.zero_add, Int.reduceToNat]
   try simp only [eX, ↓reduceIte, Nat.reduceEqDiff, Int.reduceToNat]
   refine hK _ _ ?_; clear hK K
   refine zac (fun K hK r => ?_)
   simp only [zan, eX, ↓reduceIte, Nat.reduceEqDiff, Int.reduceToNat]
   refine zak Try.underlying5 rfl hbA (v := .int .u8 (L.getD 7 0)) (u8s_at L 7 (by omega)) ?_
   refine hK _ _ ?_; clear hK K
   refine zac (fun K hK r => ?_)
   simp (disch := (first | omega | decide)) only [x_convert, c_int _ _ _ _ Try.underlying5 Try.underlying3, zaw, zaE, zaD, zaQ, eX, ↓reduceIte, Nat.reduceEqDiff, Int.reduceToNat]
   refine hK _ _ ?_; clear hK K
   refine zac (fun K hK r => ?_)
   simp (disch := (first | omega | decide)) only [zaF, zaH, b_lss, zaq, zar, zat, zau, zas, zav, Bool.not_true, Bool.not_false, eX, ↓reduceIte, Nat.reduceEqDiff, Int.reduceToNat]
   refine hK _ _ ?_; clear hK K
   refine zam rfl ?_
   (first | refine zbc (d := 31) rfl (fun g31 => ?_) (fun g31 => ?_) | skip)
   all_goals try (exfalso; exact cnA g31)
   all_goals (try simp only [decide_eq_true_eq, decide_eq_false_iff_not, Bool.not_eq_true, Bool.not_eq_false, Bool.and_eq_true, Bool.or_eq_true, Bool.or_eq_false_iff, Bool.not_eq_eq_eq_not, Bool.not_true, Bool.not_false] at g31)
   all_goals
    try simp only [eX, ↓reduceIte, Nat.reduceEqDiff, Int.reduceToNat]
    first
    |refine zaf rfl (zab (by decide)) rfl (fun K hK r => ?_)
     simp only [zaU, eX, ↓reduceIte, Nat.reduceEqDiff, Int.reduceToNat]
     refine hK _ _ ?_; clear hK K
    |refine zag rfl (zab (by decide)) rfl ?_
     simp only [eX, ↓reduceIte, Nat.reduceEqDiff, Int.reduceToNat]
    first
    |refine zaf rfl (zab (by decide)) rfl (fun K hK r => ?_)
     simp (disch := (first | omega | decide)) only [zaF, zaH, b_lss, zaq, zar, zat, zau, zas, zav, Bool.not_true, Bool.not_false, eX, ↓reduceIte, Nat.reduceEqDiff, Int.reduceToNat]
     refine hK _ _ ?_; clear hK K
    |refine zag rfl (zab (by decide)) rfl ?_
     simp only [eX, ↓reduceIte, Nat.reduceEqDiff, Int.reduceToNat]
    refine zac (fun K hK r => ?_)
    simp only [zbp, zaZ, HL.ite_bool, if_true, if_false, Bool.false_eq_true, eX, ↓reduceIte, Nat.reduceEqDiff, Int.reduceToNat]
    refine hK _ _ ?_; clear hK K
    refine zae ?_
    try simp only [Ex.thnH, Ex.inBlockH, ↓reduceIte, Nat.reduceEqDiff]
    refine hK11 _ _ ?_; try clear hK11 K11
    refine zaG (fun r => rfl) (fun c34 => ?_) (fun c34 => ?_)
    ·first
     |(exfalso; exact cnA c34; done)
     |skip
      (try simp only [decide_eq_true_eq, decide_eq_false_iff_not, Bool.not_eq_true, Bool.not_eq_false, Bool.and_eq_true, Bool.or_eq_true, Bool.or_eq_false_iff, Bool.not_eq_eq_eq_not, Bool.not_true, Bool.not_false] at c34)
      refine zaO ?_
      try simp only [Ex.thnH, Ex.inBlockH, ↓reduceIte, Nat.reduceEqDiff]
      refine hK10 _ _ ?_; try clear hK10 K10
      refine zad (fun K12 hK12 => ?_)
      refine zaV ?_
      obtain ⟨R9, hR9⟩ : ∃ R : Hp, R = (emptyHp.upd b1 (.cells (u8s L).toArray 45)).upd b4 (.cells #[.int .i64 (stOf L), .int .i64 (L.getD 6 0), x] 105) := ⟨_, rfl⟩
      refine CW_drawR [0, 1, 0, 0, 0, 1, 2, 2, 0, 3] [0, 1, 2, 3, 4, 5, 6, 7, 8, 9] R9 (by kernel_rfl) (by kernel_rfl) (by subst hR9; exact le_put (le_put (le_empty _) kb1) hx4) (fun lR9 => ?_)
      apply zay rfl (zab (by decide)) rfl
      ·intro r
       simp only [zah, fa105_2, zap, Nat.reduceAdd, Nat.zero_add, eX, ↓reduceIte, Nat.reduceEqDiff]
       exact ⟨rfl, Le.refl _⟩
      simp only [eX, ↓reduceIte, Nat.reduceEqDiff, Int.reduceToNat]
      apply TW_look rfl (zab (by decide)) rfl
      ·intro r
       simp only [zan, eX, ↓reduceIte, Nat.reduceEqDiff]
       refine zak Try.underlying22 rfl hbA ldA ?_
       exact ⟨rfl, Le.refl _⟩
      simp only [eX, ↓reduceIte, Nat.reduceEqDiff, Int.reduceToNat]
      apply zay rfl (zab (by decide)) rfl
      ·intro r
       simp only [zaU, eX, ↓reduceIte, Nat.reduceEqDiff]
       exact ⟨rfl, Le.refl _⟩
      simp only [eX, ↓reduceIte, Nat.reduceEqDiff, Int.reduceToNat]
      apply zay rfl (zab (by decide)) rfl
      ·intro r
       simp (disch := (first | omega | decide)) only [zaF, zaH, b_add, zaw, zaE, zaD, zaQ, eX, ↓reduceIte, Nat.reduceEqDiff]
       exact ⟨rfl, Le.refl _⟩
      simp only [eX, ↓reduceIte, Nat.reduceEqDiff, Int.reduceToNat]
      apply zay rfl (zab (by decide)) rfl
      ·intro r
       simp only [zaK, eX, ↓reduceIte, Nat.reduceEqDiff]
       refine Lt_indexA Try.underlying45 sz5 ixA ixA ?_
       try simp only [zap, Nat.mul_one, Nat.zero_add, Int.reduceToNat]
       exact ⟨rfl, Le.refl _⟩
      simp only [eX, ↓reduceIte, Nat.reduceEqDiff, Int.reduceToNat]
      apply TW_look rfl (zab (by decide)) rfl
      ·intro r
       simp only [zan, eX, ↓reduceIte, Nat.reduceEqDiff]
       refine zak Try.underlying5 rfl hbA (v := .int .u8 (L.getD (8 + k) 0)) ?_ ?_
       ·rw [← u8s_at L (8 + k) (by omega)]; congr 1 <;> omega
       exact ⟨rfl, Le.refl _⟩
      simp only [eX, ↓reduceIte, Nat.reduceEqDiff, Int.reduceToNat]
      refine TW_chain rfl (zab (by decide)) rfl (fun K hK r => ?_)
      simp only [zbn, List.map_toArray, List.map_cons, List.map_nil, eX, ↓reduceIte, Nat.reduceEqDiff, Int.reduceToNat]
      refine zbm (vs := [_]) Try.underlying22 sz5 zr5 rfl bsA (by first | decide | (simp; done)) ?_
      simp only [List.flatMap_cons, List.flatMap_nil, Value.cells, List.append_nil, List.cons_append, List.nil_append, List.length_cons, List.length_nil, Nat.zero_add, Nat.reduceAdd]
      intro b43 hb43
      try have n43_b1 : b1 ≠ b43 := zai hbA hb43
      try have n43_b2 : b2 ≠ b43 := zai hbA hb43
      try have n43_b4 : b4 ≠ b43 := zai hbA hb43
      have f43_H : H b43 = none := zaj lhA hb43
      have f43_R9 : R9 b43 = none := zaj lhA hb43
      try simp only [eX, ↓reduceIte, Nat.reduceEqDiff, Int.reduceToNat]
      refine hK _ _ leA ?_; clear hK K
      refine TW_chain rfl (zab (by decide)) rfl (fun K hK r => ?_)
      simp only [zaM, l_append, List.map_toArray, List.map_cons, List.map_nil, eX, ↓reduceIte, Nat.reduceEqDiff, Int.reduceToNat]
      refine Lt_append Try.underlying22 Try.underlying22 (by simp) sz5 by5 (by decide) zr5 rfl _ (n := k) (m := 1) (ds := [.int .u8 (L.getD (8 + k) 0)]) (hox.make hb43) (len_slice _ _ _) (fun K => ?_) (by simp) plA (by omega) ?_
      ·refine (first_holds (w := 1) (n := 1) (cs := [.int .u8 (L.getD (8 + k) 0)]) ⟨rfl, .inr ⟨b43, 0, 1, _, _, _, rfl, hbA, by simp, by simp⟩⟩ (Nat.le_refl _) K).trans ?_
       rfl
      intro v44 H44 rs44 hg44 ho44 hr44
      obtain ⟨a44, c44, rfl⟩ := ho44.holds.form
      have lH44 := hg44.le (H0 := ((H.upd b1 (.cells (u8s L).toArray 45)).upd b2 (.cells #[.int .i64 0, .int .i64 0, .slice none 0 0] 105))) (zaP hl1 (zaj hl1 hb43)) (fun r hr => hrs r hr)
      have k44_b1 := lH44 b1 _ hbA
      have k44_b2 := lH44 b2 _ hbA
      have k44_b4 := hg44.keep (b := b4) hbA hr4
      have lR44 : Le R9 H44 := by rw [hR9]; exact le_put (le_put (le_empty _) k44_b1) k44_b4
      refine hK _ _ leA ?_; clear hK K
      apply zay rfl (zab (by decide)) rfl
      ·intro r
       simp only [zah, fa105_2, zap, Nat.reduceAdd, Nat.zero_add, eX, ↓reduceIte, Nat.reduceEqDiff]
       exact ⟨rfl, Le.refl _⟩
      simp only [eX, ↓reduceIte, Nat.reduceEqDiff, Int.reduceToNat]
      refine TW_last rfl (zaJ) rfl (fun K hK r => ?_)
      simp only [zaL, eX, ↓reduceIte, Nat.reduceEqDiff, Int.reduceToNat]
      refine zaY sz22 hbA bdA plA fzA ?_
      try simp only [setL0, setL1, setL2, setL3, setL4, setL5, setL6, setL7, setL8, setL9]
      try simp only [eX, ↓reduceIte, Nat.reduceEqDiff, Int.reduceToNat]
      refine hK _ _ ?_; clear hK K
      refine TW_nil ?_
      try simp only [Ex.thnH, Ex.inBlockH, ↓reduceIte, Nat.reduceEqDiff]
      refine hK12 _ _ ?_; try clear hK12 K12
      refine zaa ?_
      refine zam rfl ?_
      refine zac (fun K hK r => ?_)
      simp (disch := (first | omega | decide)) only [zaF, zaH, b_add, zaw, zaE, zaD, zaQ, eX, ↓reduceIte, Nat.reduceEqDiff, Int.reduceToNat]
      refine hK _ _ ?_; clear hK K
      refine zao rfl ?_
      refine zae ?_
      try simp only [Ex.thnH, Ex.inBlockH, ↓reduceIte, Nat.reduceEqDiff]
      have n44 : rs44 ≠ some b4 := fun e => by
       rcases hr44 b4 e with h | h
       ·exact hr4 h
       ·rw [zaA _ _ n43_b4] at h; rw [hx4] at h; cases h
      refine ⟨(rdOf L).length - (k + 1), by omega, k + 1, _, rs44, by omega, rfl, ⟨rfl, rfl, rfl, rfl, trivial⟩, zaP lH44 hb4, hbA, ?_, fun r hr => ?_, n44⟩
      ·rw [rdOf_step hc k (by omega)]; simpa using ho44.upd n44
      ·rcases hr44 r hr with h | h
       ·exact hrs r h
       ·exact zaj hl1 (zaj (zaP (Le.refl _) hb43) h)
    ·first
     |(exfalso; exact cnA c34; done)
     |skip
      (try simp only [decide_eq_true_eq, decide_eq_false_iff_not, Bool.not_eq_true, Bool.not_eq_false, Bool.and_eq_true, Bool.or_eq_true, Bool.or_eq_false_iff, Bool.not_eq_eq_eq_not, Bool.not_true, Bool.not_false] at c34)
      refine CW_exit ?_
      try simp only [Ex.thnH, Ex.inBlockH, ↓reduceIte, Nat.reduceEqDiff]
      refine hK8 _ _ ?_; try clear hK8 K8
      refine zad (fun K13 hK13 => ?_)
      refine zaa ?_
      refine zac (fun K hK r => ?_)
      simp only [zan, eX, ↓reduceIte, Nat.reduceEqDiff, Int.reduceToNat]
      first | refine zaN Try.underlying105 rfl sz105 hbA bdA ?_ | refine zaC Try.underlying105 rfl sz105 hbA bdA ?_
      try simp only [List.extract_toArray, List.extract_eq_take_drop, Nat.zero_add, Nat.reduceAdd, Nat.reduceSub, Nat.sub_zero, List.drop_succ_cons, List.drop_zero, List.take_succ_cons, List.take_zero, List.take_nil, List.drop_nil]
      try simp only [eX, ↓reduceIte, Nat.reduceEqDiff, Int.reduceToNat]
      refine hK _ _ ?_; clear hK K
      refine zac (fun K hK r => ?_)
      simp only [zaT _ bd40, List.map_toArray, List.map_cons, List.map_nil, eX, ↓reduceIte, Nat.reduceEqDiff, Int.reduceToNat]
      have hk : k = (rdOf L).length := by omega
      have ek : (L.drop 8).take k = rdOf L := by rw [hk, rdOf_len hc]; rfl
      rw [ek, hk] at hox
      refine (rSeal_ok _ (stOf L) (kdOf L) _ (rdOf L) hox.holds).mono ?_
      rintro v H' ⟨rfl, rfl⟩
      try simp only [eX, ↓reduceIte, Nat.reduceEqDiff, Int.reduceToNat]
      refine hK _ _ ?_; clear hK K
      refine zam rfl ?_
      refine zac (fun K hK r => ?_)
      simp only [zaW, zaX, List.getElem?_toArray, List.getElem?_cons_zero, List.getElem?_cons_succ, zal, eX, ↓reduceIte, Nat.reduceEqDiff, Int.reduceToNat]
      refine hK _ _ ?_; clear hK K
      refine zac (fun K hK r => ?_)
      simp only [zaW, zaX, List.getElem?_toArray, List.getElem?_cons_zero, List.getElem?_cons_succ, zal, eX, ↓reduceIte, Nat.reduceEqDiff, Int.reduceToNat]
      refine hK _ _ ?_; clear hK K
      refine zac (fun K hK r => ?_)
      simp only [x_alloc, zr45, zal, Value.cells, eX, ↓reduceIte, Nat.reduceEqDiff, Int.reduceToNat]
      intro b7 hb7
      try have n7_b1 : b1 ≠ b7 := zai hbA hb7
      try have n7_b2 : b2 ≠ b7 := zai hbA hb7
      try have n7_b4 : b4 ≠ b7 := zai hbA hb7
      have f7_H : H b7 = none := zaj lhA hb7
      try simp only [eX, ↓reduceIte, Nat.reduceEqDiff, Int.reduceToNat]
      refine hK _ _ ?_; clear hK K
      refine zbq rfl (zaJ) (fun K hK r => ?_)
      simp only [zaL, eX, ↓reduceIte, Nat.reduceEqDiff, Int.reduceToNat]
      first | refine zaz sz45 bdA hbA bdA plA (by decide) ?_ | refine zaI sz45 bdA hbA bdA plA (by decide) ?_
      try simp only [eX, ↓reduceIte, Nat.reduceEqDiff, Int.reduceToNat]
      refine hK _ _ ?_; clear hK K
      refine zao rfl ?_
      refine zae ?_
      try simp only [Ex.thnH, Ex.inBlockH, ↓reduceIte, Nat.reduceEqDiff]
      refine hK13 _ _ ?_; try clear hK13 K13
      refine zad (fun K14 hK14 => ?_)
      refine zad (fun K15 hK15 => ?_)
      refine zaa ?_
      refine zam rfl ?_
      refine zac (fun K hK r => ?_)
      simp (disch := (first | omega | decide)) only [zaF, zaH, b_neq, zaq, zar, zat, zau, zas, zav, Bool.not_true, Bool.not_false, eX, ↓reduceIte, Nat.reduceEqDiff, Int.reduceToNat]
      refine hK _ _ ?_; clear hK K
      refine zam rfl ?_
      (first | refine zbc (d := 53) rfl (fun g53 => ?_) (fun g53 => ?_) | skip)
      all_goals try (exfalso; exact cnA g53)
      all_goals (try simp only [decide_eq_true_eq, decide_eq_false_iff_not, Bool.not_eq_true, Bool.not_eq_false, Bool.and_eq_true, Bool.or_eq_true, Bool.or_eq_false_iff, Bool.not_eq_eq_eq_not, Bool.not_true, Bool.not_false] at g53)
      all_goals
       try simp only [eX, ↓reduceIte, Nat.reduceEqDiff, Int.reduceToNat]
       first
       |refine zaf rfl (zab (by decide)) rfl (fun K hK r => ?_)
        simp only [zan, eX, ↓reduceIte, Nat.reduceEqDiff, Int.reduceToNat]
        first | refine zaN Try.underlying45 rfl sz45 hbA bdA ?_ | refine zaC Try.underlying45 rfl sz45 hbA bdA ?_
        try simp only [eX, ↓reduceIte, Nat.reduceEqDiff, Int.reduceToNat]
        refine hK _ _ ?_; clear hK K
       |refine zag rfl (zab (by decide)) rfl ?_
        simp only [eX, ↓reduceIte, Nat.reduceEqDiff, Int.reduceToNat]
       first
       |refine zaf rfl (zab (by decide)) rfl (fun K hK r => ?_)
        simp only [zan, eX, ↓reduceIte, Nat.reduceEqDiff, Int.reduceToNat]
        first | refine zaN Try.underlying45 rfl sz45 hbA bdA ?_ | refine zaC Try.underlying45 rfl sz45 hbA bdA ?_
        try simp only [eX, ↓reduceIte, Nat.reduceEqDiff, Int.reduceToNat]
        refine hK _ _ ?_; clear hK K
       |refine zag rfl (zab (by decide)) rfl ?_
        simp only [eX, ↓reduceIte, Nat.reduceEqDiff, Int.reduceToNat]
       first
       |refine zaf rfl (zab (by decide)) rfl (fun K hK r => ?_)
        simp only [zaF, g_agg _ _ _ _ _ _ eqg45, eX, ↓reduceIte, Nat.reduceEqDiff, Int.reduceToNat]
        rw [e_neq _ _ _ _ (by simp)]
        rw [q_equal, q_array 9999 45 5 64 Try.underlying45 _ Try.underlying5 sz5 (fun x y K => q_int 9998 5 _ Try.underlying5 _ x y K) _ _ bdA bdA]
        try simp only [eX, ↓reduceIte, Nat.reduceEqDiff, Int.reduceToNat]
        refine hK _ _ ?_; clear hK K
       |refine zag rfl (zab (by decide)) rfl ?_
        simp only [eX, ↓reduceIte, Nat.reduceEqDiff, Int.reduceToNat]
       refine zac (fun K hK r => ?_)
       simp only [zbp, zaZ, HL.ite_bool, if_true, if_false, Bool.false_eq_true, eX, ↓reduceIte, Nat.reduceEqDiff, Int.reduceToNat]
       refine hK _ _ ?_; clear hK K
       refine zae ?_
       try simp only [Ex.thnH, Ex.inBlockH, ↓reduceIte, Nat.reduceEqDiff]
       refine hK15 _ _ ?_; try clear hK15 K15
       refine zaG (fun r => rfl) (fun c57 => ?_) (fun c57 => ?_)
       ·first
        |(exfalso; exact cnA c57; done)
        |skip
         (try simp only [decide_eq_true_eq, decide_eq_false_iff_not, Bool.not_eq_true, Bool.not_eq_false, Bool.and_eq_true, Bool.or_eq_true, Bool.or_eq_false_iff, Bool.not_eq_eq_eq_not, Bool.not_true, Bool.not_false] at c57)
         refine zad (fun K16 hK16 => ?_)
         refine zaa ?_
         refine zac (fun K hK r => ?_)
         simp only [x_build, bp105, List.map_toArray, List.map_cons, List.map_nil, eX, ↓reduceIte, Nat.reduceEqDiff, Int.reduceToNat]
         simp only [fill_nil, zal, List.setIfInBounds_toArray, List.set_cons_zero, List.set_cons_succ]
         try simp only [eX, ↓reduceIte, Nat.reduceEqDiff, Int.reduceToNat]
         refine hK _ _ ?_; clear hK K
         refine zbq rfl (zaJ) (fun K hK r => ?_)
         simp only [zaL, eX, ↓reduceIte, Nat.reduceEqDiff, Int.reduceToNat]
         first | refine zaz sz105 bdA hbA bdA plA (by decide) ?_ | refine zaI sz105 bdA hbA bdA plA (by decide) ?_
         try simp only [eX, ↓reduceIte, Nat.reduceEqDiff, Int.reduceToNat]
         refine hK _ _ ?_; clear hK K
         refine zao rfl ?_
         refine zae ?_
         try simp only [Ex.thnH, Ex.inBlockH, ↓reduceIte, Nat.reduceEqDiff]
         refine hK16 _ _ ?_; try clear hK16 K16
         refine zaR ?_
         try simp only [Ex.thnH, Ex.inBlockH, ↓reduceIte, Nat.reduceEqDiff]
         have hn := ref_none hc hB (by rintro ⟨h1, h2⟩; first | exact absurd h2 (by assumption) | exact g53 (by rw [h1]; rfl))
         obtain ⟨o1, o2, o3, o4⟩ := open_nones hn
         refine ⟨[_, _], ⟨⟨_, rfl, zbd Try.underlying105 rfl sz105 hbA bdA⟩, rfl, trivial⟩, H, lhA, .slice none 0 0, ⟨Le.refl _, none, ?_, fun r hr => by cases hr⟩, ?_⟩
         ·rw [o3]; exact OwnS.nil _ _ _
         ·rw [o1, o2, o4]; rfl
       ·first
        |(exfalso; exact cnA c57; done)
        |skip
         (try simp only [decide_eq_true_eq, decide_eq_false_iff_not, Bool.not_eq_true, Bool.not_eq_false, Bool.and_eq_true, Bool.or_eq_true, Bool.or_eq_false_iff, Bool.not_eq_eq_eq_not, Bool.not_true, Bool.not_false] at c57)
         refine zaO ?_
         try simp only [Ex.thnH, Ex.inBlockH, ↓reduceIte, Nat.reduceEqDiff]
         refine hK14 _ _ ?_; try clear hK14 K14
         refine zad (fun K17 hK17 => ?_)
         refine zaa ?_
         refine zac (fun K hK r => ?_)
         simp only [zan, eX, ↓reduceIte, Nat.reduceEqDiff, Int.reduceToNat]
         first | refine zaN Try.underlying105 rfl sz105 hbA bdA ?_ | refine zaC Try.underlying105 rfl sz105 hbA bdA ?_
         try simp only [List.extract_toArray, List.extract_eq_take_drop, Nat.zero_add, Nat.reduceAdd, Nat.reduceSub, Nat.sub_zero, List.drop_succ_cons, List.drop_zero, List.take_succ_cons, List.take_zero, List.take_nil, List.drop_nil]
         try simp only [eX, ↓reduceIte, Nat.reduceEqDiff, Int.reduceToNat]
         refine hK _ _ ?_; clear hK K
         refine zbq rfl (zaJ) (fun K hK r => ?_)
         simp only [zaL, eX, ↓reduceIte, Nat.reduceEqDiff, Int.reduceToNat]
         first | refine zaz sz105 bdA hbA bdA plA (by decide) ?_ | refine zaI sz105 bdA hbA bdA plA (by decide) ?_
         try simp only [eX, ↓reduceIte, Nat.reduceEqDiff, Int.reduceToNat]
         refine hK _ _ ?_; clear hK K
         refine zao rfl ?_
         refine zae ?_
         try simp only [Ex.thnH, Ex.inBlockH, ↓reduceIte, Nat.reduceEqDiff]
         refine hK17 _ _ ?_; try clear hK17 K17
         refine zaR ?_
         try simp only [Ex.thnH, Ex.inBlockH, ↓reduceIte, Nat.reduceEqDiff]
         have hs := ref_some hB (badI_zero (by assumption)) (by assumption)
         obtain ⟨o1, o2, o3, o4⟩ := open_vals hs
         refine ⟨[_, _], ⟨⟨_, rfl, zbd Try.underlying105 rfl sz105 hbA bdA⟩, rfl, trivial⟩, _, Le.refl _, x, ⟨lhA, rs, ?_, fun r hr => zaj lhA (hrs r hr)⟩, ?_⟩
         ·rw [o3]; exact (hox.make hb7).upd (fresh_ne hrs (b := b2) hbA)
         ·rw [o1, o2, o4]; rfl
set_option maxRecDepth 100000 in
set_option maxHeartbeats 1000000 in
theorem rIs_R (H : Hp) (L : List Int) (st kd : Int) (hc : L.length = 64) (hB : ByteL L) :
  CallH Try.prog 57 #[.agg (u8s L).toArray, .int .i64 st, .int .i64 kd] H (fun v H' => ∃ x, SlabR H H' (isD L st kd) x ∧ v = .tuple #[x, .bool (isB L st kd)]) := by
 refine zaB (l := [_, _, _]) (rl := [.tmp 6, .tmp 7]) (n := 31) Try.func57 rfl rfl rfl rfl rfl ?_
 simp only [envOf, Nat.reduceAdd]
 refine zad (fun K1 hK1 => ?_)
 refine zaa ?_
 refine zac (fun K hK r => ?_)
 simp only [x_box, Value.cells, eX, ↓reduceIte, Nat.reduceEqDiff, Int.reduceToNat]
 intro b3 hb3
 have f3_H : H b3 = none := zaj lhA hb3
 try simp only [eX, ↓reduceIte, Nat.reduceEqDiff, Int.reduceToNat]
 refine hK _ _ ?_; clear hK K
 refine zao rfl ?_
 refine zao rfl ?_
 refine zae ?_
 try simp only [Ex.thnH, Ex.inBlockH, ↓reduceIte, Nat.reduceEqDiff]
 refine hK1 _ _ ?_; try clear hK1 K1
 refine zad (fun K2 hK2 => ?_)
 refine zaa ?_
 refine zac (fun K hK r => ?_)
 simp only [zan, eX, ↓reduceIte, Nat.reduceEqDiff, Int.reduceToNat]
 first | refine zaN Try.underlying45 rfl sz45 hbA bdA ?_ | refine zaC Try.underlying45 rfl sz45 hbA bdA ?_
 try simp only [eX, ↓reduceIte, Nat.reduceEqDiff, Int.reduceToNat]
 refine hK _ _ ?_; clear hK K
 refine zac (fun K hK r => ?_)
 simp only [zaT _ bd66, List.map_toArray, List.map_cons, List.map_nil, eX, ↓reduceIte, Nat.reduceEqDiff, Int.reduceToNat]
 refine (rOpen_R _ L hc hB).mono ?_
 rintro v12 H12 ⟨x12, ⟨hl12, rs12, ho12, hr12⟩, rfl⟩
 obtain ⟨a12, c12, rfl⟩ := ho12.holds.form
 try have kH12_b3 := hl12 b3 _ hbA
 have lH12_H : Le H H12 := Le.trans lhA hl12
 try simp only [eX, ↓reduceIte, Nat.reduceEqDiff, Int.reduceToNat]
 refine hK _ _ ?_; clear hK K
 refine zam rfl ?_
 refine zac (fun K hK r => ?_)
 simp only [zaW, zaX, List.getElem?_toArray, List.getElem?_cons_zero, List.getElem?_cons_succ, zal, eX, ↓reduceIte, Nat.reduceEqDiff, Int.reduceToNat]
 refine hK _ _ ?_; clear hK K
 refine zac (fun K hK r => ?_)
 simp only [zaW, zaX, List.getElem?_toArray, List.getElem?_cons_zero, List.getElem?_cons_succ, zal, eX, ↓reduceIte, Nat.reduceEqDiff, Int.reduceToNat]
 refine hK _ _ ?_; clear hK K
 refine zac (fun K hK r => ?_)
 simp only [x_alloc, zr105, zal, Value.cells, eX, ↓reduceIte, Nat.reduceEqDiff, Int.reduceToNat]
 intro b8 hb8
 try have n8_b3 : b3 ≠ b8 := zai hbA hb8
 have f8_H : H b8 = none := zaj lhA hb8
 try simp only [eX, ↓reduceIte, Nat.reduceEqDiff, Int.reduceToNat]
 refine hK _ _ ?_; clear hK K
 refine zbq rfl (zaJ) (fun K hK r => ?_)
 simp only [zaL, eX, ↓reduceIte, Nat.reduceEqDiff, Int.reduceToNat]
 first | refine zaz sz105 bdA hbA bdA plA (by decide) ?_ | refine zaI sz105 bdA hbA bdA plA (by decide) ?_
 try simp only [eX, ↓reduceIte, Nat.reduceEqDiff, Int.reduceToNat]
 refine hK _ _ ?_; clear hK K
 refine zao rfl ?_
 refine zae ?_
 try simp only [Ex.thnH, Ex.inBlockH, ↓reduceIte, Nat.reduceEqDiff]
 refine hK2 _ _ ?_; try clear hK2 K2
 refine zad (fun K3 hK3 => ?_)
 refine zad (fun K4 hK4 => ?_)
 refine zaa ?_
 refine zam rfl ?_
 refine zac (fun K hK r => ?_)
 simp only [x_un, u_not, eX, ↓reduceIte, Nat.reduceEqDiff, Int.reduceToNat]
 refine hK _ _ ?_; clear hK K
 refine zam rfl ?_
 (first | refine zbc (d := 17) rfl (fun g17 => ?_) (fun g17 => ?_) | skip)
 all_goals try (exfalso; exact cnA g17)
 all_goals (try simp only [decide_eq_true_eq, decide_eq_false_iff_not, Bool.not_eq_true, Bool.not_eq_false, Bool.and_eq_true, Bool.or_eq_true, Bool.or_eq_false_iff, Bool.not_eq_eq_eq_not, Bool.not_true, Bool.not_false] at g17)
 all_goals
  try simp only [eX, ↓reduceIte, Nat.reduceEqDiff, Int.reduceToNat]
  first
  |refine zaf rfl (zab (by decide)) rfl (fun K hK r => ?_)
   simp only [zah, fa105_0, zap, Nat.reduceAdd, Nat.zero_add, eX, ↓reduceIte, Nat.reduceEqDiff, Int.reduceToNat]
   refine hK _ _ ?_; clear hK K
  |refine zag rfl (zab (by decide)) rfl ?_
   simp only [eX, ↓reduceIte, Nat.reduceEqDiff, Int.reduceToNat]
  first
  |refine zaf rfl (zab (by decide)) rfl (fun K hK r => ?_)
   simp only [zan, eX, ↓reduceIte, Nat.reduceEqDiff, Int.reduceToNat]
   refine zak Try.underlying3 rfl hbA ldA ?_
   try simp only [eX, ↓reduceIte, Nat.reduceEqDiff, Int.reduceToNat]
   refine hK _ _ ?_; clear hK K
  |refine zag rfl (zab (by decide)) rfl ?_
   simp only [eX, ↓reduceIte, Nat.reduceEqDiff, Int.reduceToNat]
  first
  |refine zaf rfl (zab (by decide)) rfl (fun K hK r => ?_)
   simp only [zaU, eX, ↓reduceIte, Nat.reduceEqDiff, Int.reduceToNat]
   refine hK _ _ ?_; clear hK K
  |refine zag rfl (zab (by decide)) rfl ?_
   simp only [eX, ↓reduceIte, Nat.reduceEqDiff, Int.reduceToNat]
  first
  |refine zaf rfl (zab (by decide)) rfl (fun K hK r => ?_)
   simp (disch := (first | omega | decide)) only [zaF, zaH, b_neq, zaq, zar, zat, zau, zas, zav, Bool.not_true, Bool.not_false, eX, ↓reduceIte, Nat.reduceEqDiff, Int.reduceToNat]
   refine hK _ _ ?_; clear hK K
  |refine zag rfl (zab (by decide)) rfl ?_
   simp only [eX, ↓reduceIte, Nat.reduceEqDiff, Int.reduceToNat]
  refine zac (fun K hK r => ?_)
  simp only [zbp, zaZ, HL.ite_bool, if_true, if_false, Bool.false_eq_true, eX, ↓reduceIte, Nat.reduceEqDiff, Int.reduceToNat]
  refine hK _ _ ?_; clear hK K
  refine zam rfl ?_
  (first | refine zbc (d := 23) rfl (fun g23 => ?_) (fun g23 => ?_) | skip)
  all_goals try (exfalso; exact cnA g23)
  all_goals (try simp only [decide_eq_true_eq, decide_eq_false_iff_not, Bool.not_eq_true, Bool.not_eq_false, Bool.and_eq_true, Bool.or_eq_true, Bool.or_eq_false_iff, Bool.not_eq_eq_eq_not, Bool.not_true, Bool.not_false] at g23)
  all_goals
   try simp only [eX, ↓reduceIte, Nat.reduceEqDiff, Int.reduceToNat]
   first
   |refine zaf rfl (zab (by decide)) rfl (fun K hK r => ?_)
    simp only [zah, fa105_1, zap, Nat.reduceAdd, Nat.zero_add, eX, ↓reduceIte, Nat.reduceEqDiff, Int.reduceToNat]
    refine hK _ _ ?_; clear hK K
   |refine zag rfl (zab (by decide)) rfl ?_
    simp only [eX, ↓reduceIte, Nat.reduceEqDiff, Int.reduceToNat]
   first
   |refine zaf rfl (zab (by decide)) rfl (fun K hK r => ?_)
    simp only [zan, eX, ↓reduceIte, Nat.reduceEqDiff, Int.reduceToNat]
    refine zak Try.underlying3 rfl hbA ldA ?_
    try simp only [eX, ↓reduceIte, Nat.reduceEqDiff, Int.reduceToNat]
    refine hK _ _ ?_; clear hK K
   |refine zag rfl (zab (by decide)) rfl ?_
    simp only [eX, ↓reduceIte, Nat.reduceEqDiff, Int.reduceToNat]
   first
   |refine zaf rfl (zab (by decide)) rfl (fun K hK r => ?_)
    simp only [zaU, eX, ↓reduceIte, Nat.reduceEqDiff, Int.reduceToNat]
    refine hK _ _ ?_; clear hK K
   |refine zag rfl (zab (by decide)) rfl ?_
    simp only [eX, ↓reduceIte, Nat.reduceEqDiff, Int.reduceToNat]
   first
   |refine zaf rfl (zab (by decide)) rfl (fun K hK r => ?_)
    simp (disch := (first | omega | decide)) only [zaF, zaH, b_neq, zaq, zar, zat, zau, zas, zav, Bool.not_true, Bool.not_false, eX, ↓reduceIte, Nat.reduceEqDiff, Int.reduceToNat]
    refine hK _ _ ?_; clear hK K
   |refine zag rfl (zab (by decide)) rfl ?_
    simp only [eX, ↓reduceIte, Nat.reduceEqDiff, Int.reduceToNat]
   refine zac (fun K hK r => ?_)
   simp only [zbp, zaZ, HL.ite_bool, if_true, if_false, Bool.false_eq_true, eX, ↓reduceIte, Nat.reduceEqDiff, Int.reduceToNat]
   refine hK _ _ ?_; clear hK K
   refine zae ?_
   try simp only [Ex.thnH, Ex.inBlockH, ↓reduceIte, Nat.reduceEqDiff]
   refine hK4 _ _ ?_; try clear hK4 K4
   refine zaG (fun r => rfl) (fun c28 => ?_) (fun c28 => ?_)
   ·first
    |(exfalso; exact cnA c28; done)
    |skip
     (try simp only [decide_eq_true_eq, decide_eq_false_iff_not, Bool.not_eq_true, Bool.not_eq_false, Bool.and_eq_true, Bool.or_eq_true, Bool.or_eq_false_iff, Bool.not_eq_eq_eq_not, Bool.not_true, Bool.not_false] at c28)
     refine zad (fun K5 hK5 => ?_)
     refine zaa ?_
     refine zao rfl ?_
     refine zao rfl ?_
     refine zae ?_
     try simp only [Ex.thnH, Ex.inBlockH, ↓reduceIte, Nat.reduceEqDiff]
     refine hK5 _ _ ?_; try clear hK5 K5
     refine zaR ?_
     try simp only [Ex.thnH, Ex.inBlockH, ↓reduceIte, Nat.reduceEqDiff]
     have hb : isB L st kd = false := by simp only [isB, Bool.and_eq_false_iff, decide_eq_false_iff_not]; first | (right; assumption) | (left; right; assumption) | (left; left; cases h : opE L <;> simp_all)
     refine ⟨[_, _], ⟨rfl, rfl, trivial⟩, H, lhA, .slice none 0 0, ⟨Le.refl _, none, ?_, fun r hr => by cases hr⟩, ?_⟩
     ·rw [isD, if_neg (by rw [hb]; simp)]; exact OwnS.nil _ _ _
     ·rw [hb]; rfl
   ·first
    |(exfalso; exact cnA c28; done)
    |skip
     (try simp only [decide_eq_true_eq, decide_eq_false_iff_not, Bool.not_eq_true, Bool.not_eq_false, Bool.and_eq_true, Bool.or_eq_true, Bool.or_eq_false_iff, Bool.not_eq_eq_eq_not, Bool.not_true, Bool.not_false] at c28)
     refine zaO ?_
     try simp only [Ex.thnH, Ex.inBlockH, ↓reduceIte, Nat.reduceEqDiff]
     refine hK3 _ _ ?_; try clear hK3 K3
     refine zad (fun K6 hK6 => ?_)
     refine zaa ?_
     refine zac (fun K hK r => ?_)
     simp only [zah, fa105_2, zap, Nat.reduceAdd, Nat.zero_add, eX, ↓reduceIte, Nat.reduceEqDiff, Int.reduceToNat]
     refine hK _ _ ?_; clear hK K
     refine zac (fun K hK r => ?_)
     simp only [zan, eX, ↓reduceIte, Nat.reduceEqDiff, Int.reduceToNat]
     refine zak Try.underlying22 rfl hbA ldA ?_
     try simp only [eX, ↓reduceIte, Nat.reduceEqDiff, Int.reduceToNat]
     refine hK _ _ ?_; clear hK K
     refine zao rfl ?_
     refine zao rfl ?_
     refine zae ?_
     try simp only [Ex.thnH, Ex.inBlockH, ↓reduceIte, Nat.reduceEqDiff]
     refine hK6 _ _ ?_; try clear hK6 K6
     refine zaR ?_
     try simp only [Ex.thnH, Ex.inBlockH, ↓reduceIte, Nat.reduceEqDiff]
     have hb : isB L st kd = true := by simp only [isB, Bool.and_eq_true, decide_eq_true_eq]; exact ⟨⟨by cases h : opE L <;> simp_all, by assumption⟩, by assumption⟩
     refine ⟨[_, _], ⟨rfl, rfl, trivial⟩, _, Le.refl _, .slice a12 (opD L).length c12, ⟨lhA, rs12, ?_, fun r hr => zaj lhA (hr12 r hr)⟩, ?_⟩
     rotate_left
     ·rw [hb]; rfl
     ·rw [isD, if_pos hb]; exact ho12.make (by assumption)
end Go.Proofs.Ytcjdkfhmlnfedaa.HL
end
section
namespace Go.Proofs.Ytcjdkfhmlnfedaa.HL
open Go Go.Proofs
set_option linter.unusedSimpArgs false
set_option linter.unusedVariables false
attribute [local irreducible] Lt Lq CW OW TW CallH
set_option maxRecDepth 100000 in
set_option maxHeartbeats 1000000 in
theorem rsize_ok (H : Hp) (a : Option Addr) (cap : Nat) (X : List RDX) (hX : RX H a cap X) (m : RSt) (hm : m.dv = rdv X) : CallH Try.prog 32 #[m.v (.slice a X.length cap), .int .i64 0] H (fun v H' => v = .int .i64 m.sz0 ∧ H' = H) := by
 refine zaB (l := [_, _]) (rl := [.tmp 4]) (n := 21) Try.func32 rfl rfl rfl rfl rfl ?_
 simp only [envOf, Nat.reduceAdd]
 have hlen : m.dv.length = X.length := by rw [hm]; simp
 refine zad (fun K1 hK1 => ?_)
 refine zaa ?_
 refine zac (fun K hK r => ?_)
 simp only [x_box, Value.cells, eX, ↓reduceIte, Nat.reduceEqDiff, Int.reduceToNat]
 intro b2 hb2
 have f2_H : H b2 = none := zaj lhA hb2
 try simp only [eX, ↓reduceIte, Nat.reduceEqDiff, Int.reduceToNat]
 refine hK _ _ ?_; clear hK K
 refine zao rfl ?_
 refine zae ?_
 try simp only [Ex.thnH, Ex.inBlockH, ↓reduceIte, Nat.reduceEqDiff]
 refine hK1 _ _ ?_; try clear hK1 K1
 refine zad (fun K2 hK2 => ?_)
 refine zad (fun K3 hK3 => ?_)
 refine zaa ?_
 refine zam rfl ?_
 refine zac (fun K hK r => ?_)
 simp (disch := (first | omega | decide)) only [zaF, zaH, b_lss, zaq, zar, zat, zau, zas, zav, Bool.not_true, Bool.not_false, eX, ↓reduceIte, Nat.reduceEqDiff, Int.reduceToNat]
 refine hK _ _ ?_; clear hK K
 refine zam rfl ?_
 (first | refine zbc (d := 7) rfl (fun g7 => ?_) (fun g7 => ?_) | skip)
 all_goals try (exfalso; exact cnA g7)
 all_goals (try simp only [decide_eq_true_eq, decide_eq_false_iff_not, Bool.not_eq_true, Bool.not_eq_false, Bool.and_eq_true, Bool.or_eq_true, Bool.or_eq_false_iff, Bool.not_eq_eq_eq_not, Bool.not_true, Bool.not_false] at g7)
 all_goals
  try simp only [eX, ↓reduceIte, Nat.reduceEqDiff, Int.reduceToNat]
  first
  |refine zaf rfl (zab (by decide)) rfl (fun K hK r => ?_)
   simp only [zaU, eX, ↓reduceIte, Nat.reduceEqDiff, Int.reduceToNat]
   refine hK _ _ ?_; clear hK K
  |refine zag rfl (zab (by decide)) rfl ?_
   simp only [eX, ↓reduceIte, Nat.reduceEqDiff, Int.reduceToNat]
  first
  |refine zaf rfl (zab (by decide)) rfl (fun K hK r => ?_)
   simp only [zah, fa38_0, zap, Nat.reduceAdd, Nat.zero_add, eX, ↓reduceIte, Nat.reduceEqDiff, Int.reduceToNat]
   refine hK _ _ ?_; clear hK K
  |refine zag rfl (zab (by decide)) rfl ?_
   simp only [eX, ↓reduceIte, Nat.reduceEqDiff, Int.reduceToNat]
  first
  |refine zaf rfl (zab (by decide)) rfl (fun K hK r => ?_)
   simp only [zan, eX, ↓reduceIte, Nat.reduceEqDiff, Int.reduceToNat]
   refine zak Try.underlying36 rfl hbA ldA ?_
   try simp only [eX, ↓reduceIte, Nat.reduceEqDiff, Int.reduceToNat]
   refine hK _ _ ?_; clear hK K
  |refine zag rfl (zab (by decide)) rfl ?_
   simp only [eX, ↓reduceIte, Nat.reduceEqDiff, Int.reduceToNat]
  first
  |refine zaf rfl (zab (by decide)) rfl (fun K hK r => ?_)
   simp only [zaM, l_len, List.map_toArray, List.map_cons, List.map_nil, zaS _ _ Try.underlying36, eX, ↓reduceIte, Nat.reduceEqDiff, Int.reduceToNat]
   refine hK _ _ ?_; clear hK K
  |refine zag rfl (zab (by decide)) rfl ?_
   simp only [eX, ↓reduceIte, Nat.reduceEqDiff, Int.reduceToNat]
  first
  |refine zaf rfl (zab (by decide)) rfl (fun K hK r => ?_)
   simp (disch := (first | omega | decide)) only [zaF, zaH, b_geq, zaq, zar, zat, zau, zas, zav, Bool.not_true, Bool.not_false, eX, ↓reduceIte, Nat.reduceEqDiff, Int.reduceToNat]
   refine hK _ _ ?_; clear hK K
  |refine zag rfl (zab (by decide)) rfl ?_
   simp only [eX, ↓reduceIte, Nat.reduceEqDiff, Int.reduceToNat]
  refine zac (fun K hK r => ?_)
  simp only [zbp, zaZ, HL.ite_bool, if_true, if_false, Bool.false_eq_true, eX, ↓reduceIte, Nat.reduceEqDiff, Int.reduceToNat]
  refine hK _ _ ?_; clear hK K
  refine zae ?_
  try simp only [Ex.thnH, Ex.inBlockH, ↓reduceIte, Nat.reduceEqDiff]
  refine hK3 _ _ ?_; try clear hK3 K3
  refine zaG (fun r => rfl) (fun c13 => ?_) (fun c13 => ?_)
  ·first
   |(exfalso; exact cnA c13; done)
   |skip
    (try simp only [decide_eq_true_eq, decide_eq_false_iff_not, Bool.not_eq_true, Bool.not_eq_false, Bool.and_eq_true, Bool.or_eq_true, Bool.or_eq_false_iff, Bool.not_eq_eq_eq_not, Bool.not_true, Bool.not_false] at c13)
    refine zad (fun K4 hK4 => ?_)
    refine zaa ?_
    refine zao rfl ?_
    refine zae ?_
    try simp only [Ex.thnH, Ex.inBlockH, ↓reduceIte, Nat.reduceEqDiff]
    refine hK4 _ _ ?_; try clear hK4 K4
    refine zaR ?_
    try simp only [Ex.thnH, Ex.inBlockH, ↓reduceIte, Nat.reduceEqDiff]
    first | refine ⟨[_], ⟨rfl, trivial⟩, H, lhA, ?_, rfl⟩ | refine ⟨[_], ⟨rfl, trivial⟩, _, Le.refl _, ?_, rfl⟩
    show Value.int _ _ = Value.int _ _
    congr 1
    unfold RSt.sz0
    rw [if_neg (by omega)]
  ·first
   |(exfalso; exact cnA c13; done)
   |skip
    (try simp only [decide_eq_true_eq, decide_eq_false_iff_not, Bool.not_eq_true, Bool.not_eq_false, Bool.and_eq_true, Bool.or_eq_true, Bool.or_eq_false_iff, Bool.not_eq_eq_eq_not, Bool.not_true, Bool.not_false] at c13)
    refine zaO ?_
    try simp only [Ex.thnH, Ex.inBlockH, ↓reduceIte, Nat.reduceEqDiff]
    refine hK2 _ _ ?_; try clear hK2 K2
    refine zad (fun K5 hK5 => ?_)
    refine zaa ?_
    refine zac (fun K hK r => ?_)
    simp only [zah, fa38_0, zap, Nat.reduceAdd, Nat.zero_add, eX, ↓reduceIte, Nat.reduceEqDiff, Int.reduceToNat]
    refine hK _ _ ?_; clear hK K
    refine zac (fun K hK r => ?_)
    simp only [zan, eX, ↓reduceIte, Nat.reduceEqDiff, Int.reduceToNat]
    refine zak Try.underlying36 rfl hbA ldA ?_
    try simp only [eX, ↓reduceIte, Nat.reduceEqDiff, Int.reduceToNat]
    refine hK _ _ ?_; clear hK K
    refine zam rfl ?_
    refine zac (fun K hK r => ?_)
    simp only [zaK, eX, ↓reduceIte, Nat.reduceEqDiff, Int.reduceToNat]
    obtain ⟨bw, ow, cw, Tw, Fw, ew, hbw, hsw, atw⟩ := hX.h.at (by omega)
    have mk2 := Nat.mul_le_mul_right 2 (show 0 + 1 ≤ X.length by omega)
    refine zbi Try.underlying36 sz87 ew ixA ixA ?_
    refine hK _ _ ?_; clear hK K
    refine zac (fun K hK r => ?_)
    simp only [zah, fa87_0, zap, Nat.reduceAdd, Nat.zero_add, eX, ↓reduceIte, Nat.reduceEqDiff, Int.reduceToNat]
    refine hK _ _ ?_; clear hK K
    refine zac (fun K hK r => ?_)
    simp only [zan, eX, ↓reduceIte, Nat.reduceEqDiff, Int.reduceToNat]
    refine zak Try.underlying84 rfl ((show Le H _ from lhA) _ _ hbw) (v := .slice (X.getD 0 default).sa (X.getD 0 default).d.sec.length (X.getD 0 default).sc) (by first | exact cell_at RDX.len atw rfl 0 (by omega) 0 (by decide) | (have := cell_at RDX.len atw rfl 0 (by omega) 0 (by decide); simpa using this)) ?_
    refine hK _ _ ?_; clear hK K
    refine zac (fun K hK r => ?_)
    simp only [zaM, l_len, List.map_toArray, List.map_cons, List.map_nil, zaS _ _ Try.underlying84, eX, ↓reduceIte, Nat.reduceEqDiff, Int.reduceToNat]
    refine hK _ _ ?_; clear hK K
    refine zao rfl ?_
    refine zae ?_
    try simp only [Ex.thnH, Ex.inBlockH, ↓reduceIte, Nat.reduceEqDiff]
    refine hK5 _ _ ?_; try clear hK5 K5
    refine zaR ?_
    try simp only [Ex.thnH, Ex.inBlockH, ↓reduceIte, Nat.reduceEqDiff]
    first | refine ⟨[_], ⟨rfl, trivial⟩, H, lhA, ?_, rfl⟩ | refine ⟨[_], ⟨rfl, trivial⟩, _, Le.refl _, ?_, rfl⟩
    show Value.int _ _ = Value.int _ _
    congr 1
    unfold RSt.sz0
    rw [if_pos (by omega), hm, rdv_at]
set_option maxRecDepth 100000 in
set_option maxHeartbeats 1000000 in
theorem rarea_ok (H : Hp) (a : Option Addr) (cap : Nat) (X : List RDX) (hX : RX H a cap X) (m : RSt) (hm : m.dv = rdv X) (h5 : 0 ≤ m.sz0 ∧ m.sz0 ≤ 5000) : CallH Try.prog 12 #[m.v (.slice a X.length cap)] H (fun v H' => v = .int .i64 (areaI m.sz0) ∧ H' = H) := by
 refine zaB (l := [_]) (rl := [.tmp 2]) (n := 11) Try.func12 rfl rfl rfl rfl rfl ?_
 simp only [envOf, Nat.reduceAdd]
 refine zad (fun K1 hK1 => ?_)
 refine zaa ?_
 refine zac (fun K hK r => ?_)
 simp only [x_box, Value.cells, eX, ↓reduceIte, Nat.reduceEqDiff, Int.reduceToNat]
 intro b1 hb1
 have f1_H : H b1 = none := zaj lhA hb1
 try simp only [eX, ↓reduceIte, Nat.reduceEqDiff, Int.reduceToNat]
 refine hK _ _ ?_; clear hK K
 refine zao rfl ?_
 refine zae ?_
 try simp only [Ex.thnH, Ex.inBlockH, ↓reduceIte, Nat.reduceEqDiff]
 refine hK1 _ _ ?_; try clear hK1 K1
 refine zad (fun K2 hK2 => ?_)
 refine zaa ?_
 refine zac (fun K hK r => ?_)
 simp only [zan, eX, ↓reduceIte, Nat.reduceEqDiff, Int.reduceToNat]
 first | refine zaN Try.underlying38 rfl sz38 hbA bdA ?_ | refine zaC Try.underlying38 rfl sz38 hbA bdA ?_
 try simp only [List.extract_toArray, List.extract_eq_take_drop, Nat.zero_add, Nat.reduceAdd, Nat.reduceSub, Nat.sub_zero, List.drop_succ_cons, List.drop_zero, List.take_succ_cons, List.take_zero, List.take_nil, List.drop_nil]
 try simp only [eX, ↓reduceIte, Nat.reduceEqDiff, Int.reduceToNat]
 refine hK _ _ ?_; clear hK K
 refine zac (fun K hK r => ?_)
 simp only [zaT _ bd32, List.map_toArray, List.map_cons, List.map_nil, eX, ↓reduceIte, Nat.reduceEqDiff, Int.reduceToNat]
 refine (rsize_ok _ a cap X (hX.le lhA) m hm).mono ?_
 rintro v H' ⟨rfl, rfl⟩
 try simp only [eX, ↓reduceIte, Nat.reduceEqDiff, Int.reduceToNat]
 refine hK _ _ ?_; clear hK K
 refine zao rfl ?_
 refine zae ?_
 try simp only [Ex.thnH, Ex.inBlockH, ↓reduceIte, Nat.reduceEqDiff]
 refine hK2 _ _ ?_; try clear hK2 K2
 refine zad (fun K3 hK3 => ?_)
 refine zad (fun K4 hK4 => ?_)
 refine zaa ?_
 refine zam rfl ?_
 refine zac (fun K hK r => ?_)
 simp (disch := (first | omega | decide)) only [zaF, zaH, b_lss, zaq, zar, zat, zau, zas, zav, Bool.not_true, Bool.not_false, eX, ↓reduceIte, Nat.reduceEqDiff, Int.reduceToNat]
 refine hK _ _ ?_; clear hK K
 refine zae ?_
 try simp only [Ex.thnH, Ex.inBlockH, ↓reduceIte, Nat.reduceEqDiff]
 refine hK4 _ _ ?_; try clear hK4 K4
 refine zaG (fun r => rfl) (fun c7 => ?_) (fun c7 => ?_)
 ·first
  |(exfalso; exact cnA c7; done)
  |skip
   (try simp only [decide_eq_true_eq, decide_eq_false_iff_not, Bool.not_eq_true, Bool.not_eq_false, Bool.and_eq_true, Bool.or_eq_true, Bool.or_eq_false_iff, Bool.not_eq_eq_eq_not, Bool.not_true, Bool.not_false] at c7)
   refine zad (fun K5 hK5 => ?_)
   refine zaa ?_
   refine zao rfl ?_
   refine zae ?_
   try simp only [Ex.thnH, Ex.inBlockH, ↓reduceIte, Nat.reduceEqDiff]
   refine hK5 _ _ ?_; try clear hK5 K5
   refine zaR ?_
   try simp only [Ex.thnH, Ex.inBlockH, ↓reduceIte, Nat.reduceEqDiff]
   first | refine ⟨[_], ⟨rfl, trivial⟩, H, lhA, ?_, rfl⟩ | refine ⟨[_], ⟨rfl, trivial⟩, _, Le.refl _, ?_, rfl⟩
   show Value.int _ _ = Value.int _ _
   congr 1
   unfold areaI
   omega
 ·first
  |(exfalso; exact cnA c7; done)
  |skip
   (try simp only [decide_eq_true_eq, decide_eq_false_iff_not, Bool.not_eq_true, Bool.not_eq_false, Bool.and_eq_true, Bool.or_eq_true, Bool.or_eq_false_iff, Bool.not_eq_eq_eq_not, Bool.not_true, Bool.not_false] at c7)
   refine zaO ?_
   try simp only [Ex.thnH, Ex.inBlockH, ↓reduceIte, Nat.reduceEqDiff]
   refine hK3 _ _ ?_; try clear hK3 K3
   refine zad (fun K6 hK6 => ?_)
   refine zaa ?_
   refine zam rfl ?_
   refine zac (fun K hK r => ?_)
   simp (disch := (first | omega | decide)) only [zaF, zaH, b_sub, zaw, zaE, zaD, zaQ, eX, ↓reduceIte, Nat.reduceEqDiff, Int.reduceToNat]
   refine hK _ _ ?_; clear hK K
   refine zac (fun K hK r => ?_)
   simp (disch := (first | omega | decide)) only [zaF, zaH, b_quo, zaw, zaE, zaD, zaQ, eX, ↓reduceIte, Nat.reduceEqDiff, Int.reduceToNat]
   refine hK _ _ ?_; clear hK K
   refine zao rfl ?_
   refine zae ?_
   try simp only [Ex.thnH, Ex.inBlockH, ↓reduceIte, Nat.reduceEqDiff]
   refine hK6 _ _ ?_; try clear hK6 K6
   refine zaR ?_
   try simp only [Ex.thnH, Ex.inBlockH, ↓reduceIte, Nat.reduceEqDiff]
   first | refine ⟨[_], ⟨rfl, trivial⟩, H, lhA, ?_, rfl⟩ | refine ⟨[_], ⟨rfl, trivial⟩, _, Le.refl _, ?_, rfl⟩
   show Value.int _ _ = Value.int _ _
   congr 1
   unfold areaI
   first | (rw [Int.tdiv_eq_ediv_of_nonneg (by omega), zaw _ (by omega) (by omega)]; omega) | (rw [Int.tdiv_eq_ediv_of_nonneg (by omega)]; omega)
set_option maxRecDepth 100000 in
set_option maxHeartbeats 1000000 in
theorem rfits_ok (H : Hp) (a : Option Addr) (cap : Nat) (X : List RDX) (hX : RX H a cap X) (m : RSt) (hm : m.dv = rdv X) (h5 : 0 ≤ m.sz0 ∧ m.sz0 ≤ 5000) (l : Int) : CallH Try.prog 27 #[m.v (.slice a X.length cap), .int .i64 l] H (fun v H' => v = .bool (fitsI m.sz0 l) ∧ H' = H) := by
 refine zaB (l := [_, _]) (rl := [.tmp 4]) (n := 14) Try.func27 rfl rfl rfl rfl rfl ?_
 simp only [envOf, Nat.reduceAdd]
 have hal := areaI_le h5.2
 refine zad (fun K1 hK1 => ?_)
 refine zaa ?_
 refine zac (fun K hK r => ?_)
 simp only [x_box, Value.cells, eX, ↓reduceIte, Nat.reduceEqDiff, Int.reduceToNat]
 intro b2 hb2
 have f2_H : H b2 = none := zaj lhA hb2
 try simp only [eX, ↓reduceIte, Nat.reduceEqDiff, Int.reduceToNat]
 refine hK _ _ ?_; clear hK K
 refine zao rfl ?_
 refine zae ?_
 try simp only [Ex.thnH, Ex.inBlockH, ↓reduceIte, Nat.reduceEqDiff]
 refine hK1 _ _ ?_; try clear hK1 K1
 refine zad (fun K2 hK2 => ?_)
 refine zaa ?_
 refine zam rfl ?_
 refine zac (fun K hK r => ?_)
 simp (disch := (first | omega | decide)) only [zaF, zaH, b_geq, zaq, zar, zat, zau, zas, zav, Bool.not_true, Bool.not_false, eX, ↓reduceIte, Nat.reduceEqDiff, Int.reduceToNat]
 refine hK _ _ ?_; clear hK K
 refine zam rfl ?_
 (first | refine zbc (d := 7) rfl (fun g7 => ?_) (fun g7 => ?_) | skip)
 all_goals try (exfalso; exact cnA g7)
 all_goals (try simp only [decide_eq_true_eq, decide_eq_false_iff_not, Bool.not_eq_true, Bool.not_eq_false, Bool.and_eq_true, Bool.or_eq_true, Bool.or_eq_false_iff, Bool.not_eq_eq_eq_not, Bool.not_true, Bool.not_false] at g7)
 all_goals
  try simp only [eX, ↓reduceIte, Nat.reduceEqDiff, Int.reduceToNat]
  first
  |refine zaf rfl (zab (by decide)) rfl (fun K hK r => ?_)
   simp only [zaU, eX, ↓reduceIte, Nat.reduceEqDiff, Int.reduceToNat]
   refine hK _ _ ?_; clear hK K
  |refine zag rfl (zab (by decide)) rfl ?_
   simp only [eX, ↓reduceIte, Nat.reduceEqDiff, Int.reduceToNat]
  first
  |refine zaf rfl (zab (by decide)) rfl (fun K hK r => ?_)
   simp only [zan, eX, ↓reduceIte, Nat.reduceEqDiff, Int.reduceToNat]
   first | refine zaN Try.underlying38 rfl sz38 hbA bdA ?_ | refine zaC Try.underlying38 rfl sz38 hbA bdA ?_
   try simp only [List.extract_toArray, List.extract_eq_take_drop, Nat.zero_add, Nat.reduceAdd, Nat.reduceSub, Nat.sub_zero, List.drop_succ_cons, List.drop_zero, List.take_succ_cons, List.take_zero, List.take_nil, List.drop_nil]
   try simp only [eX, ↓reduceIte, Nat.reduceEqDiff, Int.reduceToNat]
   refine hK _ _ ?_; clear hK K
  |refine zag rfl (zab (by decide)) rfl ?_
   simp only [eX, ↓reduceIte, Nat.reduceEqDiff, Int.reduceToNat]
  first
  |refine zaf rfl (zab (by decide)) rfl (fun K hK r => ?_)
   simp only [zaT _ bd12, List.map_toArray, List.map_cons, List.map_nil, eX, ↓reduceIte, Nat.reduceEqDiff, Int.reduceToNat]
   refine (rarea_ok _ a cap X (hX.le lhA) m hm h5).mono ?_
   rintro v H' ⟨rfl, rfl⟩
   try simp only [eX, ↓reduceIte, Nat.reduceEqDiff, Int.reduceToNat]
   refine hK _ _ ?_; clear hK K
  |refine zag rfl (zab (by decide)) rfl ?_
   simp only [eX, ↓reduceIte, Nat.reduceEqDiff, Int.reduceToNat]
  first
  |refine zaf rfl (zab (by decide)) rfl (fun K hK r => ?_)
   simp (disch := (first | omega | decide)) only [zaF, zaH, b_mul, zaw, zaE, zaD, zaQ, eX, ↓reduceIte, Nat.reduceEqDiff, Int.reduceToNat]
   refine hK _ _ ?_; clear hK K
  |refine zag rfl (zab (by decide)) rfl ?_
   simp only [eX, ↓reduceIte, Nat.reduceEqDiff, Int.reduceToNat]
  first
  |refine zaf rfl (zab (by decide)) rfl (fun K hK r => ?_)
   simp (disch := (first | omega | decide)) only [zaF, zaH, b_leq, zaq, zar, zat, zau, zas, zav, Bool.not_true, Bool.not_false, eX, ↓reduceIte, Nat.reduceEqDiff, Int.reduceToNat]
   refine hK _ _ ?_; clear hK K
  |refine zag rfl (zab (by decide)) rfl ?_
   simp only [eX, ↓reduceIte, Nat.reduceEqDiff, Int.reduceToNat]
  refine zac (fun K hK r => ?_)
  simp only [zbp, zaZ, HL.ite_bool, if_true, if_false, Bool.false_eq_true, eX, ↓reduceIte, Nat.reduceEqDiff, Int.reduceToNat]
  refine hK _ _ ?_; clear hK K
  refine zao rfl ?_
  refine zae ?_
  try simp only [Ex.thnH, Ex.inBlockH, ↓reduceIte, Nat.reduceEqDiff]
  refine hK2 _ _ ?_; try clear hK2 K2
  refine zaR ?_
  try simp only [Ex.thnH, Ex.inBlockH, ↓reduceIte, Nat.reduceEqDiff]
  first | refine ⟨[_], ⟨rfl, trivial⟩, H, lhA, ?_, rfl⟩ | refine ⟨[_], ⟨rfl, trivial⟩, _, Le.refl _, ?_, rfl⟩
  show Value.bool _ = Value.bool _
  congr 1
  rw [fits_eq hal.1]
  first | (rw [decide_eq_false (by assumption)]; rfl) | (rw [decide_eq_true (by assumption)]; rfl) | (simp_all; done)
set_option maxRecDepth 100000 in
set_option maxHeartbeats 1000000 in
theorem rasked_ok (H : Hp) (gen ar : Int) : CallH Try.prog 38 #[.int .i64 gen, .int .i64 ar] H (fun v H' => v = .bool (askI gen ar) ∧ H' = H) := by
 refine zaB (l := [_, _]) (rl := [.tmp 4]) (n := 19) Try.func38 rfl rfl rfl rfl rfl ?_
 simp only [envOf, Nat.reduceAdd]
 refine zad (fun K1 hK1 => ?_)
 refine zaa ?_
 refine zao rfl ?_
 refine zae ?_
 try simp only [Ex.thnH, Ex.inBlockH, ↓reduceIte, Nat.reduceEqDiff]
 refine hK1 _ _ ?_; try clear hK1 K1
 refine zad (fun K2 hK2 => ?_)
 refine zaa ?_
 refine zam rfl ?_
 refine zac (fun K hK r => ?_)
 simp (disch := (first | omega | decide)) only [zaF, zaH, b_geq, zaq, zar, zat, zau, zas, zav, Bool.not_true, Bool.not_false, eX, ↓reduceIte, Nat.reduceEqDiff, Int.reduceToNat]
 refine hK _ _ ?_; clear hK K
 refine zam rfl ?_
 (first | refine zbc (d := 7) rfl (fun g7 => ?_) (fun g7 => ?_) | skip)
 all_goals try (exfalso; exact cnA g7)
 all_goals (try simp only [decide_eq_true_eq, decide_eq_false_iff_not, Bool.not_eq_true, Bool.not_eq_false, Bool.and_eq_true, Bool.or_eq_true, Bool.or_eq_false_iff, Bool.not_eq_eq_eq_not, Bool.not_true, Bool.not_false] at g7)
 all_goals
  try simp only [eX, ↓reduceIte, Nat.reduceEqDiff, Int.reduceToNat]
  first
  |refine zaf rfl (zab (by decide)) rfl (fun K hK r => ?_)
   simp only [zaU, eX, ↓reduceIte, Nat.reduceEqDiff, Int.reduceToNat]
   refine hK _ _ ?_; clear hK K
  |refine zag rfl (zab (by decide)) rfl ?_
   simp only [eX, ↓reduceIte, Nat.reduceEqDiff, Int.reduceToNat]
  first
  |refine zaf rfl (zab (by decide)) rfl (fun K hK r => ?_)
   simp (disch := (first | omega | decide)) only [zaF, zaH, b_leq, zaq, zar, zat, zau, zas, zav, Bool.not_true, Bool.not_false, eX, ↓reduceIte, Nat.reduceEqDiff, Int.reduceToNat]
   refine hK _ _ ?_; clear hK K
  |refine zag rfl (zab (by decide)) rfl ?_
   simp only [eX, ↓reduceIte, Nat.reduceEqDiff, Int.reduceToNat]
  refine zac (fun K hK r => ?_)
  simp only [zbp, zaZ, HL.ite_bool, if_true, if_false, Bool.false_eq_true, eX, ↓reduceIte, Nat.reduceEqDiff, Int.reduceToNat]
  refine hK _ _ ?_; clear hK K
  refine zam rfl ?_
  (first | refine zbc (d := 11) rfl (fun g11 => ?_) (fun g11 => ?_) | skip)
  all_goals try (exfalso; exact cnA g11)
  all_goals (try simp only [decide_eq_true_eq, decide_eq_false_iff_not, Bool.not_eq_true, Bool.not_eq_false, Bool.and_eq_true, Bool.or_eq_true, Bool.or_eq_false_iff, Bool.not_eq_eq_eq_not, Bool.not_true, Bool.not_false] at g11)
  all_goals
   try simp only [eX, ↓reduceIte, Nat.reduceEqDiff, Int.reduceToNat]
   first
   |refine zaf rfl (zab (by decide)) rfl (fun K hK r => ?_)
    simp only [zaU, eX, ↓reduceIte, Nat.reduceEqDiff, Int.reduceToNat]
    refine hK _ _ ?_; clear hK K
   |refine zag rfl (zab (by decide)) rfl ?_
    simp only [eX, ↓reduceIte, Nat.reduceEqDiff, Int.reduceToNat]
   first
   |refine zaf rfl (zab (by decide)) rfl (fun K hK r => ?_)
    simp (disch := (first | omega | decide)) only [zaF, zaH, b_eql, zaq, zar, zat, zau, zas, zav, Bool.not_true, Bool.not_false, eX, ↓reduceIte, Nat.reduceEqDiff, Int.reduceToNat]
    refine hK _ _ ?_; clear hK K
   |refine zag rfl (zab (by decide)) rfl ?_
    simp only [eX, ↓reduceIte, Nat.reduceEqDiff, Int.reduceToNat]
   first
   |refine zaf rfl (zab (by decide)) rfl (fun K hK r => ?_)
    simp only [zaU, eX, ↓reduceIte, Nat.reduceEqDiff, Int.reduceToNat]
    refine hK _ _ ?_; clear hK K
   |refine zag rfl (zab (by decide)) rfl ?_
    simp only [eX, ↓reduceIte, Nat.reduceEqDiff, Int.reduceToNat]
   (first | refine zbc (d := 14) rfl (fun g14 => ?_) (fun g14 => ?_) | skip)
   all_goals try (exfalso; exact cnA g14)
   all_goals (try simp only [decide_eq_true_eq, decide_eq_false_iff_not, Bool.not_eq_true, Bool.not_eq_false, Bool.and_eq_true, Bool.or_eq_true, Bool.or_eq_false_iff, Bool.not_eq_eq_eq_not, Bool.not_true, Bool.not_false] at g14)
   all_goals
    try simp only [eX, ↓reduceIte, Nat.reduceEqDiff, Int.reduceToNat]
    first
    |refine zaf rfl (zab (by decide)) rfl (fun K hK r => ?_)
     simp only [zaU, eX, ↓reduceIte, Nat.reduceEqDiff, Int.reduceToNat]
     refine hK _ _ ?_; clear hK K
    |refine zag rfl (zab (by decide)) rfl ?_
     simp only [eX, ↓reduceIte, Nat.reduceEqDiff, Int.reduceToNat]
    first
    |refine zaf rfl (zab (by decide)) rfl (fun K hK r => ?_)
     simp (disch := (first | omega | decide)) only [zaF, zaH, b_eql, zaq, zar, zat, zau, zas, zav, Bool.not_true, Bool.not_false, eX, ↓reduceIte, Nat.reduceEqDiff, Int.reduceToNat]
     refine hK _ _ ?_; clear hK K
    |refine zag rfl (zab (by decide)) rfl ?_
     simp only [eX, ↓reduceIte, Nat.reduceEqDiff, Int.reduceToNat]
    first
    |refine zaf rfl (zab (by decide)) rfl (fun K hK r => ?_)
     simp only [zbp, zaZ, HL.ite_bool, if_true, if_false, Bool.false_eq_true, eX, ↓reduceIte, Nat.reduceEqDiff, Int.reduceToNat]
     refine hK _ _ ?_; clear hK K
    |refine zag rfl (zab (by decide)) rfl ?_
     simp only [eX, ↓reduceIte, Nat.reduceEqDiff, Int.reduceToNat]
    refine zac (fun K hK r => ?_)
    simp only [zbp, zaZ, HL.ite_bool, if_true, if_false, Bool.false_eq_true, eX, ↓reduceIte, Nat.reduceEqDiff, Int.reduceToNat]
    refine hK _ _ ?_; clear hK K
    refine zao rfl ?_
    refine zae ?_
    try simp only [Ex.thnH, Ex.inBlockH, ↓reduceIte, Nat.reduceEqDiff]
    refine hK2 _ _ ?_; try clear hK2 K2
    refine zaR ?_
    try simp only [Ex.thnH, Ex.inBlockH, ↓reduceIte, Nat.reduceEqDiff]
    first | refine ⟨[_], ⟨rfl, trivial⟩, H, lhA, ?_, rfl⟩ | refine ⟨[_], ⟨rfl, trivial⟩, _, Le.refl _, ?_, rfl⟩
    show Value.bool _ = Value.bool _
    congr 1
    unfold askI
    first | (symm; simp only [Bool.and_eq_false_iff, decide_eq_false_iff_not]; omega) | (symm; simp only [Bool.and_eq_true, decide_eq_true_eq]; omega) | (rw [Bool.eq_iff_iff]; simp only [Bool.and_eq_true, decide_eq_true_eq]; omega)
end Go.Proofs.Ytcjdkfhmlnfedaa.HL
end
section
namespace Go.Proofs.Ytcjdkfhmlnfedaa.HL
open Go Go.Proofs
set_option linter.unusedSimpArgs false
set_option linter.unusedVariables false
attribute [local irreducible] Lt Lq CW OW TW CallH
theorem rsaveN_stop {m : RSt} {gen ar : Int} {b : List Int} {n : Nat} (h : ¬ (m.saveN gen ar b n).2 = 0) : ∀ j, m.saveN gen ar b (n + j) = m.saveN gen ar b n
  | 0 => rfl
  | j + 1 => by
    have ih := rsaveN_stop h j
    show m.saveN gen ar b ((n + j) + 1) = _
    rw [rsaveN_no (by rw [ih]; exact h), ih]
theorem rsave_stop {m : RSt} {gen ar : Int} {b : List Int} (h1 : askI gen ar = true) (h2 : fitsI m.sz0 b.length = true) {n : Nat} (hn : n ≤ chN b) (h : ¬ (m.saveN gen ar b n).2 = 0) : m.save gen ar b = m.saveN gen ar b n := by
  have hs := rsaveN_stop h (chN b - n)
  rw [show n + (chN b - n) = chN b from by omega] at hs
  unfold RSt.save
  rw [if_neg (by rw [h1]; simp), if_neg (by rw [h2]; simp), hs, if_neg h]
theorem rsave_all {m : RSt} {gen ar : Int} {b : List Int} (h1 : askI gen ar = true) (h2 : fitsI m.sz0 b.length = true) (h : (m.saveN gen ar b (chN b)).2 = 0) : m.save gen ar b = (m.saveN gen ar b (chN b)).1.fl 0 := by
  unfold RSt.save
  rw [if_neg (by rw [h1]; simp), if_neg (by rw [h2]; simp), if_pos h]
theorem PR.szN {k : Nat} {s : St} {m : RSt} (h : PR k s m) (gen ar : Int) (b : List Int) (n : Nat) : (m.saveN gen ar b n).1.sz0 = m.sz0 := by
  rw [← (h.saveN gen ar b n).1.sz0.1, saveN_sz, h.sz0.1]
set_option maxRecDepth 100000 in
set_option maxHeartbeats 16000000 in
theorem rsaveL (H : Hp) (a : Option Addr) (cap : Nat) (X : List RDX) (hX : RX H a cap X) (m : RSt) (hm : m.dv = rdv X) {kk : Nat} {s : St} (hP : PR kk s m) (hkk : kk ≤ 100000) (gen ar : Int) (ba : Option Addr) (bc : Nat) (b : List Int) (hb : Holds H 1 (.slice ba b.length bc) b.length (u8s b)) (hbc : b.length ≤ bc) (hbl : b.length ≤ 2000) : CallH Try.prog 15 #[m.v (.slice a X.length cap), .int .i64 gen, .int .i64 ar, .slice ba b.length bc] H (fun v H' => ∃ a' cap' X', X'.length = X.length ∧ Le H H' ∧ v = .tuple #[(m.save gen ar b).1.v (.slice a' X'.length cap'), .int .i64 (m.save gen ar b).2] ∧ RX H' a' cap' X' ∧ (m.save gen ar b).1.dv = rdv X') := by
 refine zaB (l := [_, _, _, _]) (rl := [.cell 8 38, .tmp 9]) (n := 71) Try.func15 rfl rfl rfl rfl rfl ?_
 simp only [envOf, Nat.reduceAdd]
 obtain ⟨hsz1, hsz2, hsz3⟩ := hP.sz0
 obtain ⟨hl5, hsl⟩ := hP.len hm
 refine zad (fun K1 hK1 => ?_)
 refine zaa ?_
 refine zac (fun K hK r => ?_)
 simp only [x_box, Value.cells, eX, ↓reduceIte, Nat.reduceEqDiff, Int.reduceToNat]
 intro b4 hb4
 have f4_H : H b4 = none := zaj lhA hb4
 try simp only [eX, ↓reduceIte, Nat.reduceEqDiff, Int.reduceToNat]
 refine hK _ _ ?_; clear hK K
 refine zac (fun K hK r => ?_)
 simp only [x_alloc, zr38, zal, Value.cells, eX, ↓reduceIte, Nat.reduceEqDiff, Int.reduceToNat]
 intro b8 hb8
 try have n8_b4 : b4 ≠ b8 := zai hbA hb8
 have f8_H : H b8 = none := zaj lhA hb8
 have n84 : b8 ≠ b4 := Ne.symm n8_b4
 try simp only [eX, ↓reduceIte, Nat.reduceEqDiff, Int.reduceToNat]
 refine hK _ _ ?_; clear hK K
 refine zao rfl ?_
 refine zae ?_
 try simp only [Ex.thnH, Ex.inBlockH, ↓reduceIte, Nat.reduceEqDiff]
 refine hK1 _ _ ?_; try clear hK1 K1
 refine zad (fun K2 hK2 => ?_)
 refine zad (fun K3 hK3 => ?_)
 refine zaa ?_
 refine zam rfl ?_
 refine zam rfl ?_
 refine zac (fun K hK r => ?_)
 simp only [zaT _ bd38, List.map_toArray, List.map_cons, List.map_nil, eX, ↓reduceIte, Nat.reduceEqDiff, Int.reduceToNat]
 refine (rasked_ok _ gen ar).mono ?_
 rintro v H' ⟨rfl, rfl⟩
 try simp only [eX, ↓reduceIte, Nat.reduceEqDiff, Int.reduceToNat]
 refine hK _ _ ?_; clear hK K
 refine zac (fun K hK r => ?_)
 simp only [x_un, u_not, eX, ↓reduceIte, Nat.reduceEqDiff, Int.reduceToNat]
 refine hK _ _ ?_; clear hK K
 refine zae ?_
 try simp only [Ex.thnH, Ex.inBlockH, ↓reduceIte, Nat.reduceEqDiff]
 refine hK3 _ _ ?_; try clear hK3 K3
 refine zaG (fun r => rfl) (fun c19 => ?_) (fun c19 => ?_)
 ·first
  |(exfalso; exact cnA c19; done)
  |skip
   have hask : askI gen ar = false := by simpa using c19
   refine zad (fun K4 hK4 => ?_)
   refine zaa ?_
   refine zac (fun K hK r => ?_)
   simp only [zan, eX, ↓reduceIte, Nat.reduceEqDiff, Int.reduceToNat]
   first | refine zaN Try.underlying38 rfl sz38 hbA bdA ?_ | refine zaC Try.underlying38 rfl sz38 hbA bdA ?_
   try simp only [List.extract_toArray, List.extract_eq_take_drop, Nat.zero_add, Nat.reduceAdd, Nat.reduceSub, Nat.sub_zero, List.drop_succ_cons, List.drop_zero, List.take_succ_cons, List.take_zero, List.take_nil, List.drop_nil]
   try simp only [eX, ↓reduceIte, Nat.reduceEqDiff, Int.reduceToNat]
   refine hK _ _ ?_; clear hK K
   refine zbq rfl (zaJ) (fun K hK r => ?_)
   simp only [zaL, eX, ↓reduceIte, Nat.reduceEqDiff, Int.reduceToNat]
   first | refine zaz sz38 bdA hbA bdA plA (by decide) ?_ | refine zaI sz38 bdA hbA bdA plA (by decide) ?_
   try simp only [eX, ↓reduceIte, Nat.reduceEqDiff, Int.reduceToNat]
   refine hK _ _ ?_; clear hK K
   refine zao rfl ?_
   refine zae ?_
   try simp only [Ex.thnH, Ex.inBlockH, ↓reduceIte, Nat.reduceEqDiff]
   refine hK4 _ _ ?_; try clear hK4 K4
   refine zaR ?_
   try simp only [Ex.thnH, Ex.inBlockH, ↓reduceIte, Nat.reduceEqDiff]
   have hsv : m.save gen ar b = (m, 1) := by unfold RSt.save; rw [if_pos hask]
   rw [hsv]
   refine ⟨[_, _], ⟨⟨_, rfl, zbd Try.underlying38 rfl sz38 hbA bdA⟩, rfl, trivial⟩, _, Le.refl _, a, cap, X, rfl, lhA, rfl, hX.le lhA, hm⟩
 ·first
  |(exfalso; exact cnA c19; done)
  |skip
   have hask : askI gen ar = true := by simpa using c19
   obtain ⟨hgn, hrn⟩ := ask_iff.1 hask
   refine zaO ?_
   try simp only [Ex.thnH, Ex.inBlockH, ↓reduceIte, Nat.reduceEqDiff]
   refine hK2 _ _ ?_; try clear hK2 K2
   refine zad (fun K5 hK5 => ?_)
   refine zad (fun K6 hK6 => ?_)
   refine zaa ?_
   refine zac (fun K hK r => ?_)
   simp only [zan, eX, ↓reduceIte, Nat.reduceEqDiff, Int.reduceToNat]
   first | refine zaN Try.underlying38 rfl sz38 hbA bdA ?_ | refine zaC Try.underlying38 rfl sz38 hbA bdA ?_
   try simp only [List.extract_toArray, List.extract_eq_take_drop, Nat.zero_add, Nat.reduceAdd, Nat.reduceSub, Nat.sub_zero, List.drop_succ_cons, List.drop_zero, List.take_succ_cons, List.take_zero, List.take_nil, List.drop_nil]
   try simp only [eX, ↓reduceIte, Nat.reduceEqDiff, Int.reduceToNat]
   refine hK _ _ ?_; clear hK K
   refine zam rfl ?_
   refine zac (fun K hK r => ?_)
   simp only [zaM, l_len, List.map_toArray, List.map_cons, List.map_nil, zaS _ _ Try.underlying22, eX, ↓reduceIte, Nat.reduceEqDiff, Int.reduceToNat]
   refine hK _ _ ?_; clear hK K
   refine zac (fun K hK r => ?_)
   simp only [zaT _ bd27, List.map_toArray, List.map_cons, List.map_nil, eX, ↓reduceIte, Nat.reduceEqDiff, Int.reduceToNat]
   refine (rfits_ok _ a cap X (hX.le lhA) m hm ⟨hsz2, hsz3⟩ b.length).mono ?_
   rintro v H' ⟨rfl, rfl⟩
   try simp only [eX, ↓reduceIte, Nat.reduceEqDiff, Int.reduceToNat]
   refine hK _ _ ?_; clear hK K
   refine zac (fun K hK r => ?_)
   simp only [x_un, u_not, eX, ↓reduceIte, Nat.reduceEqDiff, Int.reduceToNat]
   refine hK _ _ ?_; clear hK K
   refine zae ?_
   try simp only [Ex.thnH, Ex.inBlockH, ↓reduceIte, Nat.reduceEqDiff]
   refine hK6 _ _ ?_; try clear hK6 K6
   refine zaG (fun r => rfl) (fun c25 => ?_) (fun c25 => ?_)
   ·first
    |(exfalso; exact cnA c25; done)
    |skip
     have hfit : fitsI m.sz0 b.length = false := by simpa using c25
     refine zad (fun K7 hK7 => ?_)
     refine zaa ?_
     refine zac (fun K hK r => ?_)
     simp only [zan, eX, ↓reduceIte, Nat.reduceEqDiff, Int.reduceToNat]
     first | refine zaN Try.underlying38 rfl sz38 hbA bdA ?_ | refine zaC Try.underlying38 rfl sz38 hbA bdA ?_
     try simp only [List.extract_toArray, List.extract_eq_take_drop, Nat.zero_add, Nat.reduceAdd, Nat.reduceSub, Nat.sub_zero, List.drop_succ_cons, List.drop_zero, List.take_succ_cons, List.take_zero, List.take_nil, List.drop_nil]
     try simp only [eX, ↓reduceIte, Nat.reduceEqDiff, Int.reduceToNat]
     refine hK _ _ ?_; clear hK K
     refine zbq rfl (zaJ) (fun K hK r => ?_)
     simp only [zaL, eX, ↓reduceIte, Nat.reduceEqDiff, Int.reduceToNat]
     first | refine zaz sz38 bdA hbA bdA plA (by decide) ?_ | refine zaI sz38 bdA hbA bdA plA (by decide) ?_
     try simp only [eX, ↓reduceIte, Nat.reduceEqDiff, Int.reduceToNat]
     refine hK _ _ ?_; clear hK K
     refine zao rfl ?_
     refine zae ?_
     try simp only [Ex.thnH, Ex.inBlockH, ↓reduceIte, Nat.reduceEqDiff]
     refine hK7 _ _ ?_; try clear hK7 K7
     refine zaR ?_
     try simp only [Ex.thnH, Ex.inBlockH, ↓reduceIte, Nat.reduceEqDiff]
     have hsv : m.save gen ar b = (m, 4) := by unfold RSt.save; rw [if_neg (by rw [hask]; simp), if_pos hfit]
     rw [hsv]
     refine ⟨[_, _], ⟨⟨_, rfl, zbd Try.underlying38 rfl sz38 hbA bdA⟩, rfl, trivial⟩, _, Le.refl _, a, cap, X, rfl, lhA, rfl, hX.le lhA, hm⟩
   ·first
    |(exfalso; exact cnA c25; done)
    |skip
     have hfit : fitsI m.sz0 b.length = true := by simpa using c25
     have hN50 : chN b ≤ 50 := by unfold chN; omega
     have hal := areaI_le hsz3
     have hmul : 0 ≤ ar * areaI m.sz0 ∧ ar * areaI m.sz0 ≤ 2500 := by
      rcases (show ar = 0 ∨ ar = 1 by omega) with rfl | rfl <;> omega
     refine zaO ?_
     try simp only [Ex.thnH, Ex.inBlockH, ↓reduceIte, Nat.reduceEqDiff]
     refine hK5 _ _ ?_; try clear hK5 K5
     refine zad (fun K8 hK8 => ?_)
     refine zaa ?_
     refine zam rfl ?_
     refine zac (fun K hK r => ?_)
     simp only [zaT _ bd39, List.map_toArray, List.map_cons, List.map_nil, eX, ↓reduceIte, Nat.reduceEqDiff, Int.reduceToNat]
     have hHb : Le H ((H.upd b4 (.cells (m.c (.slice a X.length cap)).toArray 38)).upd b8 (.cells #[.slice none 0 0, .int .i64 0, .int .i64 0, .bool false, .bool false] 38)) := lhA
     refine (CallH.use (rParts_ok H ba bc b hb hbc (by omega)) hHb).mono ?_
     rintro v28 H28 ⟨G0, ⟨lG0, vals, rsP, hvl, hoP, hrP, hvs⟩, lG28, hk28⟩
     obtain ⟨pa, pc, rfl⟩ := hoP.holds.form
     obtain ⟨kb4, gb4⟩ := hk28 b4 (.cells (m.c (.slice a X.length cap)).toArray 38) hbA f4_H
     obtain ⟨kb8, gb8⟩ := hk28 b8 (.cells #[.slice none 0 0, .int .i64 0, .int .i64 0, .bool false, .bool false] 38) hbA f8_H
     have lH28 : Le H H28 := Le.trans lG0 lG28
     try simp only [eX, ↓reduceIte, Nat.reduceEqDiff, Int.reduceToNat]
     refine hK _ _ ?_; clear hK K
     refine zao rfl ?_
     refine zae ?_
     try simp only [Ex.thnH, Ex.inBlockH, ↓reduceIte, Nat.reduceEqDiff]
     refine hK8 _ _ ?_; try clear hK8 K8
     refine zad (fun K9 hK9 => ?_)
     refine zad (fun K10 hK10 => ?_)
     refine zaa ?_
     refine zao rfl ?_
     refine zae ?_
     try simp only [Ex.thnH, Ex.inBlockH, ↓reduceIte, Nat.reduceEqDiff]
     refine hK10 _ _ ?_; try clear hK10 K10
     refine zaV ?_
     refine CW_loop (fun m_ e H_ => ∃ (k : Nat) (G : Hp) (a1 : Option Addr) (c1 : Nat) (X1 : List RDX), k ≤ chN b ∧ m_ = chN b - k ∧ Le G0 G ∧ Le G H_ ∧ RX G a1 c1 X1 ∧ X1.length = X.length ∧ (m.saveN gen ar b k).1.dv = rdv X1 ∧ (m.saveN gen ar b k).2 = 0 ∧ G b4 = none ∧ G b8 = none ∧ H_ b4 = some (.cells ((m.saveN gen ar b k).1.c (.slice a1 X1.length c1)).toArray 38) ∧ H_ b8 = some (.cells #[.slice none 0 0, .int .i64 0, .int .i64 0, .bool false, .bool false] 38) ∧ Env.has [(1, .int .i64 gen), (2, .int .i64 ar), (4, .pointer (some ⟨b4, 0, none⟩)), (8, .pointer (some ⟨b8, 0, none⟩)), (10, .slice pa (chN b) pc), (11, .int .i64 k)] e) (chN b) ?_ ?_
     ·skip
      exact ⟨0, G0, a, cap, X, by omega, by omega, Le.refl _, lG28, hX.le lG0, rfl, hm, rfl, gb4, gb8, kb4, kb8, rfl, rfl, rfl, rfl, rfl, rfl, trivial⟩
     intro m_ e_ H_ hI_
     obtain ⟨k, G, a1, c1, X1, hk, rfl, lGP, lGH, hX1, hXl1, hd1, hbad, g4, g8, k4, k8, he⟩ := hI_
     refine CW_env he.sub ?_; clear he e_
     have hPN := (hP.saveN gen ar b k).1
     have lHH : Le H H_ := Le.trans lG0 (Le.trans lGP lGH)
     refine zad (fun K11 hK11 => ?_)
     refine zad (fun K12 hK12 => ?_)
     refine zaa ?_
     refine zam rfl ?_
     refine zam rfl ?_
     refine zac (fun K hK r => ?_)
     simp only [zaM, l_len, List.map_toArray, List.map_cons, List.map_nil, zaS _ _ Try.underlying101, eX, ↓reduceIte, Nat.reduceEqDiff, Int.reduceToNat]
     refine hK _ _ ?_; clear hK K
     refine zac (fun K hK r => ?_)
     simp (disch := (first | omega | decide)) only [zaF, zaH, b_lss, zaq, zar, zat, zau, zas, zav, Bool.not_true, Bool.not_false, eX, ↓reduceIte, Nat.reduceEqDiff, Int.reduceToNat]
     refine hK _ _ ?_; clear hK K
     refine zae ?_
     try simp only [Ex.thnH, Ex.inBlockH, ↓reduceIte, Nat.reduceEqDiff]
     refine hK12 _ _ ?_; try clear hK12 K12
     refine zaG (fun r => rfl) (fun c32 => ?_) (fun c32 => ?_)
     ·first
      |(exfalso; exact cnA c32; done)
      |skip
       (try simp only [decide_eq_true_eq, decide_eq_false_iff_not, Bool.not_eq_true, Bool.not_eq_false, Bool.and_eq_true, Bool.or_eq_true, Bool.or_eq_false_iff, Bool.not_eq_eq_eq_not, Bool.not_true, Bool.not_false] at c32)
       obtain ⟨bv, ov, cv, Tv, Fv, ev, hbv, hsv, atv⟩ := hoP.holds.at (by omega)
       obtain ⟨ea, ec, hve⟩ := (hvs k (by omega)).form
       refine zaO ?_
       try simp only [Ex.thnH, Ex.inBlockH, ↓reduceIte, Nat.reduceEqDiff]
       refine hK11 _ _ ?_; try clear hK11 K11
       refine zad (fun K13 hK13 => ?_)
       refine zaV ?_
       refine zad (fun K14 hK14 => ?_)
       refine zaa ?_
       refine zam rfl ?_
       refine zac (fun K hK r => ?_)
       simp (disch := (first | omega | decide)) only [zaF, zaH, b_mul, zaw, zaE, zaD, zaQ, eX, ↓reduceIte, Nat.reduceEqDiff, Int.reduceToNat]
       refine hK _ _ ?_; clear hK K
       refine zam rfl ?_
       refine zac (fun K hK r => ?_)
       simp (disch := (first | omega | decide)) only [zaF, zaH, b_add, zaw, zaE, zaD, zaQ, eX, ↓reduceIte, Nat.reduceEqDiff, Int.reduceToNat]
       refine hK _ _ ?_; clear hK K
       refine zac (fun K hK r => ?_)
       simp (disch := (first | omega | decide)) only [zaF, zaH, b_add, zaw, zaE, zaD, zaQ, eX, ↓reduceIte, Nat.reduceEqDiff, Int.reduceToNat]
       refine hK _ _ ?_; clear hK K
       refine zam rfl ?_
       refine zam rfl ?_
       refine zac (fun K hK r => ?_)
       simp only [zaK, eX, ↓reduceIte, Nat.reduceEqDiff, Int.reduceToNat]
       refine zbi Try.underlying101 sz22 ev ixA ixA ?_
       try simp only [Int.toNat_natCast, Nat.mul_one]
       refine hK _ _ ?_; clear hK K
       refine zac (fun K hK r => ?_)
       simp only [zan, eX, ↓reduceIte, Nat.reduceEqDiff, Int.reduceToNat]
       refine zak Try.underlying22 rfl ((Le.trans lGP lGH) _ _ hbv) (v := .slice ea (chk b k).length ec) (by rw [← hve]; first | exact vals_at atv (by omega) k (by omega) | (rw [Nat.mul_one]; exact vals_at atv (by omega) k (by omega))) ?_
       refine hK _ _ ?_; clear hK K
       refine zac (fun K hK r => ?_)
       simp only [x_build, bp105, List.map_toArray, List.map_cons, List.map_nil, eX, ↓reduceIte, Nat.reduceEqDiff, Int.reduceToNat]
       rw [fill_one rfl clA bdA]
       rw [fill_one rfl clA bdA]
       rw [fill_one rfl clA bdA]
       simp only [fill_nil, zal, List.setIfInBounds_toArray, List.set_cons_zero, List.set_cons_succ]
       try simp only [eX, ↓reduceIte, Nat.reduceEqDiff, Int.reduceToNat]
       refine hK _ _ ?_; clear hK K
       refine zac (fun K hK r => ?_)
       simp only [zaT _ bd40, List.map_toArray, List.map_cons, List.map_nil, eX, ↓reduceIte, Nat.reduceEqDiff, Int.reduceToNat]
       refine (rSeal_ok _ (gen * 8192 + k + 1) 4 _ (chk b k) (by have h := (hvs k (by omega)).le lHH; rw [hve] at h; exact h)).mono ?_
       rintro v H' ⟨rfl, hq⟩
       have hq := hq.symm
       subst hq
       rw [seal_fine (by omega) (by omega)]
       try simp only [eX, ↓reduceIte, Nat.reduceEqDiff, Int.reduceToNat]
       refine hK _ _ ?_; clear hK K
       refine zam rfl ?_
       refine zac (fun K hK r => ?_)
       simp only [zaW, zaX, List.getElem?_toArray, List.getElem?_cons_zero, List.getElem?_cons_succ, zal, eX, ↓reduceIte, Nat.reduceEqDiff, Int.reduceToNat]
       refine hK _ _ ?_; clear hK K
       refine zac (fun K hK r => ?_)
       simp only [zaW, zaX, List.getElem?_toArray, List.getElem?_cons_zero, List.getElem?_cons_succ, zal, eX, ↓reduceIte, Nat.reduceEqDiff, Int.reduceToNat]
       refine hK _ _ ?_; clear hK K
       refine zac (fun K hK r => ?_)
       simp only [x_alloc, zr45, zal, Value.cells, eX, ↓reduceIte, Nat.reduceEqDiff, Int.reduceToNat]
       intro b12 hb12
       try have n12_b4 : b4 ≠ b12 := zai hbA hb12
       try have n12_b8 : b8 ≠ b12 := zai hbA hb12
       have f12_H : H b12 = none := zaj lhA hb12
       try simp only [eX, ↓reduceIte, Nat.reduceEqDiff, Int.reduceToNat]
       refine hK _ _ ?_; clear hK K
       refine zbq rfl (zaJ) (fun K hK r => ?_)
       simp only [zaL, eX, ↓reduceIte, Nat.reduceEqDiff, Int.reduceToNat]
       refine zaz sz45 (by simp [Sec.h, sealI_len]) hbA (by simp [Sec.h, sealI_len]) (PlainL.ints _ _) (by decide) ?_
       try simp only [upd_upd]
       refine hK _ _ ?_; clear hK K
       refine zao rfl ?_
       refine zae ?_
       try simp only [Ex.thnH, Ex.inBlockH, ↓reduceIte, Nat.reduceEqDiff]
       refine hK14 _ _ ?_; try clear hK14 K14
       refine zad (fun K15 hK15 => ?_)
       obtain ⟨R10, hR10⟩ : ∃ R : Hp, R = (emptyHp.upd b4 (.cells ((m.saveN gen ar b k).1.c (.slice a1 X1.length c1)).toArray 38)).upd b12 (.cells (secI gen b k).c.toArray 45) := ⟨_, rfl⟩
       refine CW_drawR [1, 0, 1, 2, 0, 0, 0, 0, 1, 2, 0, 0, 0, 4, 3, 0] [0, 1, 2, 3, 4, 5, 6, 7, 8, 9, 10, 11, 12, 13, 14, 15] R10 (by kernel_rfl) (by kernel_rfl) (by subst hR10; exact le_put (le_put (le_empty _) ((zaA _ _ (zai k4 hb12)).trans k4)) (zax _ _ _)) (fun lR10 => ?_)
       apply TW_look rfl (zab (by decide)) rfl
       ·intro r
        simp only [zan, eX, ↓reduceIte, Nat.reduceEqDiff]
        first | refine zaN Try.underlying38 rfl sz38 hbA bdA ?_ | refine zaC Try.underlying38 rfl sz38 hbA bdA ?_
        try simp only [List.extract_toArray, List.extract_eq_take_drop, Nat.zero_add, Nat.reduceAdd, Nat.reduceSub, Nat.sub_zero, List.drop_succ_cons, List.drop_zero, List.take_succ_cons, List.take_zero, List.take_nil, List.drop_nil]
        exact ⟨rfl, Le.refl _⟩
       simp only [eX, ↓reduceIte, Nat.reduceEqDiff, Int.reduceToNat]
       apply zay rfl (zab (by decide)) rfl
       ·intro r
        simp only [zaU, eX, ↓reduceIte, Nat.reduceEqDiff]
        exact ⟨rfl, Le.refl _⟩
       simp only [eX, ↓reduceIte, Nat.reduceEqDiff, Int.reduceToNat]
       apply TW_look rfl (zab (by decide)) rfl
       ·intro r
        simp only [zan, eX, ↓reduceIte, Nat.reduceEqDiff]
        first | refine zaN Try.underlying38 rfl sz38 hbA bdA ?_ | refine zaC Try.underlying38 rfl sz38 hbA bdA ?_
        try simp only [List.extract_toArray, List.extract_eq_take_drop, Nat.zero_add, Nat.reduceAdd, Nat.reduceSub, Nat.sub_zero, List.drop_succ_cons, List.drop_zero, List.take_succ_cons, List.take_zero, List.take_nil, List.drop_nil]
        exact ⟨rfl, Le.refl _⟩
       simp only [eX, ↓reduceIte, Nat.reduceEqDiff, Int.reduceToNat]
       refine TW_chain rfl (zab (by decide)) rfl (fun K hK r => ?_)
       simp only [zaT _ bd12, List.map_toArray, List.map_cons, List.map_nil, eX, ↓reduceIte, Nat.reduceEqDiff, Int.reduceToNat]
       refine (rarea_ok _ a1 c1 X1 (hX1.le (Le.trans lGH (le_upd _ _ _ hb12))) (m.saveN gen ar b k).1 hd1 (by rw [hP.szN]; exact ⟨hsz2, hsz3⟩)).mono ?_
       rintro v H' ⟨rfl, rfl⟩
       rw [hP.szN]
       try simp only [eX, ↓reduceIte, Nat.reduceEqDiff, Int.reduceToNat]
       refine hK _ _ leA ?_; clear hK K
       apply zay rfl (zab (by decide)) rfl
       ·intro r
        simp (disch := (first | omega | decide)) only [zaF, zaH, b_mul, zaw, zaE, zaD, zaQ, eX, ↓reduceIte, Nat.reduceEqDiff]
        exact ⟨rfl, Le.refl _⟩
       simp only [eX, ↓reduceIte, Nat.reduceEqDiff, Int.reduceToNat]
       apply zay rfl (zab (by decide)) rfl
       ·intro r
        simp (disch := (first | omega | decide)) only [zaF, zaH, b_add, zaw, zaE, zaD, zaQ, eX, ↓reduceIte, Nat.reduceEqDiff]
        exact ⟨rfl, Le.refl _⟩
       simp only [eX, ↓reduceIte, Nat.reduceEqDiff, Int.reduceToNat]
       apply zay rfl (zab (by decide)) rfl
       ·intro r
        simp only [zaU, eX, ↓reduceIte, Nat.reduceEqDiff]
        exact ⟨rfl, Le.refl _⟩
       simp only [eX, ↓reduceIte, Nat.reduceEqDiff, Int.reduceToNat]
       apply zay rfl (zab (by decide)) rfl
       ·intro r
        simp (disch := (first | omega | decide)) only [zaF, zaH, b_add, zaw, zaE, zaD, zaQ, eX, ↓reduceIte, Nat.reduceEqDiff]
        exact ⟨rfl, Le.refl _⟩
       simp only [eX, ↓reduceIte, Nat.reduceEqDiff, Int.reduceToNat]
       apply TW_look rfl (zab (by decide)) rfl
       ·intro r
        simp only [zan, eX, ↓reduceIte, Nat.reduceEqDiff]
        refine zaN Try.underlying45 rfl sz45 (by rw [hR10]; exact zax _ _ _) (by simp [Sec.h, sealI_len]) ?_
        exact ⟨rfl, Le.refl _⟩
       simp only [eX, ↓reduceIte, Nat.reduceEqDiff, Int.reduceToNat]
       refine TW_chain rfl (zab (by decide)) rfl (fun K hK r => ?_)
       simp only [zaT _ bd22, List.map_toArray, List.map_cons, List.map_nil, eX, ↓reduceIte, Nat.reduceEqDiff, Int.reduceToNat]
       have lGc : Le G (H_.upd b12 (.cells (secI gen b k).c.toArray 45)) := Le.trans lGH (le_upd _ _ _ hb12)
       refine (CallH.use (rput_ok G a1 c1 X1 hX1 (m.saveN gen ar b k).1 hd1 (by omega) (fun i => Nat.le_trans ((hPN.wt i)) (by omega)) 0 (2 + ar * areaI m.sz0 + k) (secI gen b k)) lGc).mono ?_
       rintro v59 H59 ⟨G2, ⟨a2, c2, X2, hXl2, lG2, rfl, hX2, hd2⟩, lG59, hk59⟩
       obtain ⟨m4, n4⟩ := hk59 b4 _ ((zaA _ _ (zai k4 hb12)).trans k4) g4
       obtain ⟨m8, n8⟩ := hk59 b8 _ ((zaA _ _ (zai k8 hb12)).trans k8) g8
       obtain ⟨m12, n12⟩ := hk59 b12 _ (zax _ _ _) (zaj lGH hb12)
       have lR59 : Le R10 H59 := by rw [hR10]; exact le_put (le_put (le_empty _) m4) m12
       have lH59 : Le H H59 := Le.trans (Le.trans lG0 (Le.trans lGP lG2)) lG59
       rw [← rsaveN_yes hbad] at hd2 ⊢
       try simp only [eX, ↓reduceIte, Nat.reduceEqDiff, Int.reduceToNat]
       refine hK _ _ leA ?_; clear hK K
       apply zay rfl (zab (by decide)) rfl
       ·intro r
        simp only [zaU, eX, ↓reduceIte, Nat.reduceEqDiff]
        exact ⟨rfl, Le.refl _⟩
       simp only [eX, ↓reduceIte, Nat.reduceEqDiff, Int.reduceToNat]
       apply zay rfl (zab (by decide)) rfl
       ·intro r
        simp only [zaW, zaX, List.getElem?_toArray, List.getElem?_cons_zero, List.getElem?_cons_succ, zal, eX, ↓reduceIte, Nat.reduceEqDiff]
        exact ⟨rfl, Le.refl _⟩
       simp only [eX, ↓reduceIte, Nat.reduceEqDiff, Int.reduceToNat]
       apply zay rfl (zab (by decide)) rfl
       ·intro r
        simp only [zaW, zaX, List.getElem?_toArray, List.getElem?_cons_zero, List.getElem?_cons_succ, zal, eX, ↓reduceIte, Nat.reduceEqDiff]
        exact ⟨rfl, Le.refl _⟩
       simp only [eX, ↓reduceIte, Nat.reduceEqDiff, Int.reduceToNat]
       refine TW_make rfl (zab (by decide)) rfl (fun K hK r => ?_)
       simp only [x_alloc, zr38, zal, Value.cells, eX, ↓reduceIte, Nat.reduceEqDiff, Int.reduceToNat]
       intro b14 hb14
       try have n14_b4 : b4 ≠ b14 := zai hbA hb14
       try have n14_b8 : b8 ≠ b14 := zai hbA hb14
       try have n14_b12 : b12 ≠ b14 := zai hbA hb14
       have f14_H : H b14 = none := zaj lhA hb14
       have f14_R10 : R10 b14 = none := zaj lhA hb14
       try simp only [eX, ↓reduceIte, Nat.reduceEqDiff, Int.reduceToNat]
       refine hK _ _ ?_; clear hK K
       refine TW_last rfl (zaJ) rfl (fun K hK r => ?_)
       simp only [zaL, eX, ↓reduceIte, Nat.reduceEqDiff, Int.reduceToNat]
       first | refine zaz sz38 bdA hbA bdA plA (by decide) ?_ | refine zaI sz38 bdA hbA bdA plA (by decide) ?_
       try simp only [eX, ↓reduceIte, Nat.reduceEqDiff, Int.reduceToNat]
       refine hK _ _ ?_; clear hK K
       apply zay rfl (zab (by decide)) rfl
       ·intro r
        simp only [x_assign, eX, ↓reduceIte, Nat.reduceEqDiff]
        exact ⟨rfl, Le.refl _⟩
       simp only [eX, ↓reduceIte, Nat.reduceEqDiff, Int.reduceToNat]
       refine TW_nil ?_
       try simp only [Ex.thnH, Ex.inBlockH, ↓reduceIte, Nat.reduceEqDiff]
       refine hK15 _ _ ?_; try clear hK15 K15
       refine zad (fun K16 hK16 => ?_)
       refine zaa ?_
       refine zac (fun K hK r => ?_)
       simp only [zan, eX, ↓reduceIte, Nat.reduceEqDiff, Int.reduceToNat]
       first | refine zaN Try.underlying38 rfl sz38 hbA bdA ?_ | refine zaC Try.underlying38 rfl sz38 hbA bdA ?_
       try simp only [List.extract_toArray, List.extract_eq_take_drop, Nat.zero_add, Nat.reduceAdd, Nat.reduceSub, Nat.sub_zero, List.drop_succ_cons, List.drop_zero, List.take_succ_cons, List.take_zero, List.take_nil, List.drop_nil]
       try simp only [eX, ↓reduceIte, Nat.reduceEqDiff, Int.reduceToNat]
       refine hK _ _ ?_; clear hK K
       refine zbq rfl (zaJ) (fun K hK r => ?_)
       simp only [zaL, eX, ↓reduceIte, Nat.reduceEqDiff, Int.reduceToNat]
       first | refine zaz sz38 bdA hbA bdA plA (by decide) ?_ | refine zaI sz38 bdA hbA bdA plA (by decide) ?_
       try simp only [eX, ↓reduceIte, Nat.reduceEqDiff, Int.reduceToNat]
       refine hK _ _ ?_; clear hK K
       refine zae ?_
       try simp only [Ex.thnH, Ex.inBlockH, ↓reduceIte, Nat.reduceEqDiff]
       refine hK16 _ _ ?_; try clear hK16 K16
       refine zad (fun K17 hK17 => ?_)
       refine zaa ?_
       refine zam rfl ?_
       refine zac (fun K hK r => ?_)
       simp (disch := (first | omega | decide)) only [zaF, zaH, b_neq, zaq, zar, zat, zau, zas, zav, Bool.not_true, Bool.not_false, eX, ↓reduceIte, Nat.reduceEqDiff, Int.reduceToNat]
       refine hK _ _ ?_; clear hK K
       refine zae ?_
       try simp only [Ex.thnH, Ex.inBlockH, ↓reduceIte, Nat.reduceEqDiff]
       refine hK17 _ _ ?_; try clear hK17 K17
       refine zaG (fun r => rfl) (fun c64 => ?_) (fun c64 => ?_)
       ·first
        |(exfalso; exact cnA c64; done)
        |skip
         (try simp only [decide_eq_true_eq, decide_eq_false_iff_not, Bool.not_eq_true, Bool.not_eq_false, Bool.and_eq_true, Bool.or_eq_true, Bool.or_eq_false_iff, Bool.not_eq_eq_eq_not, Bool.not_true, Bool.not_false] at c64)
         have hb1 : ¬ (m.saveN gen ar b (k + 1)).2 = 0 := c64
         refine zad (fun K18 hK18 => ?_)
         refine zaa ?_
         refine zac (fun K hK r => ?_)
         simp only [zan, eX, ↓reduceIte, Nat.reduceEqDiff, Int.reduceToNat]
         first | refine zaN Try.underlying38 rfl sz38 hbA bdA ?_ | refine zaC Try.underlying38 rfl sz38 hbA bdA ?_
         try simp only [List.extract_toArray, List.extract_eq_take_drop, Nat.zero_add, Nat.reduceAdd, Nat.reduceSub, Nat.sub_zero, List.drop_succ_cons, List.drop_zero, List.take_succ_cons, List.take_zero, List.take_nil, List.drop_nil]
         try simp only [eX, ↓reduceIte, Nat.reduceEqDiff, Int.reduceToNat]
         refine hK _ _ ?_; clear hK K
         refine zam rfl ?_
         refine zbq rfl (zaJ) (fun K hK r => ?_)
         simp only [zaL, eX, ↓reduceIte, Nat.reduceEqDiff, Int.reduceToNat]
         first | refine zaz sz38 bdA hbA bdA plA (by decide) ?_ | refine zaI sz38 bdA hbA bdA plA (by decide) ?_
         try simp only [eX, ↓reduceIte, Nat.reduceEqDiff, Int.reduceToNat]
         refine hK _ _ ?_; clear hK K
         refine zao rfl ?_
         refine zae ?_
         try simp only [Ex.thnH, Ex.inBlockH, ↓reduceIte, Nat.reduceEqDiff]
         refine hK18 _ _ ?_; try clear hK18 K18
         refine zaR ?_
         try simp only [Ex.thnH, Ex.inBlockH, ↓reduceIte, Nat.reduceEqDiff]
         rw [rsave_stop hask hfit (show k + 1 ≤ chN b by omega) hb1]
         refine ⟨[_, _], ⟨⟨_, rfl, zbd Try.underlying38 rfl sz38 hbA bdA⟩, rfl, trivial⟩, _, Le.refl _, a2, c2, X2, hXl2.trans hXl1, zaP (zaP (zaP lH59 f14_H) f4_H) f8_H, rfl, hX2.le (zaP (zaP (zaP lG59 (zaj lG59 hb14)) n4) n8), hd2⟩
       ·first
        |(exfalso; exact cnA c64; done)
        |skip
         (try simp only [decide_eq_true_eq, decide_eq_false_iff_not, Bool.not_eq_true, Bool.not_eq_false, Bool.and_eq_true, Bool.or_eq_true, Bool.or_eq_false_iff, Bool.not_eq_eq_eq_not, Bool.not_true, Bool.not_false] at c64)
         have hb1 : (m.saveN gen ar b (k + 1)).2 = 0 := by omega
         refine zaO ?_
         try simp only [Ex.thnH, Ex.inBlockH, ↓reduceIte, Nat.reduceEqDiff]
         refine hK13 _ _ ?_; try clear hK13 K13
         refine zaa ?_
         refine zam rfl ?_
         refine zac (fun K hK r => ?_)
         simp (disch := (first | omega | decide)) only [zaF, zaH, b_add, zaw, zaE, zaD, zaQ, eX, ↓reduceIte, Nat.reduceEqDiff, Int.reduceToNat]
         refine hK _ _ ?_; clear hK K
         refine zao rfl ?_
         refine zae ?_
         try simp only [Ex.thnH, Ex.inBlockH, ↓reduceIte, Nat.reduceEqDiff]
         exact ⟨chN b - (k + 1), by omega, k + 1, G2, a2, c2, X2, by omega, rfl, Le.trans lGP lG2, zaP (zaP lG59 (zaj lG59 hb14)) n4, hX2, hXl2.trans hXl1, hd2, hb1, n4, n8, zax _ _ _, (zaA _ _ n84).trans ((zaA _ _ (zai m8 hb14)).trans m8), rfl, rfl, rfl, rfl, rfl, rfl, trivial⟩
     ·first
      |(exfalso; exact cnA c32; done)
      |skip
       (try simp only [decide_eq_true_eq, decide_eq_false_iff_not, Bool.not_eq_true, Bool.not_eq_false, Bool.and_eq_true, Bool.or_eq_true, Bool.or_eq_false_iff, Bool.not_eq_eq_eq_not, Bool.not_true, Bool.not_false] at c32)
       have hkn : k = chN b := by omega
       refine CW_exit ?_
       try simp only [Ex.thnH, Ex.inBlockH, ↓reduceIte, Nat.reduceEqDiff]
       refine hK9 _ _ ?_; try clear hK9 K9
       refine zad (fun K19 hK19 => ?_)
       refine zaa ?_
       refine zac (fun K hK r => ?_)
       simp only [zan, eX, ↓reduceIte, Nat.reduceEqDiff, Int.reduceToNat]
       first | refine zaN Try.underlying38 rfl sz38 hbA bdA ?_ | refine zaC Try.underlying38 rfl sz38 hbA bdA ?_
       try simp only [List.extract_toArray, List.extract_eq_take_drop, Nat.zero_add, Nat.reduceAdd, Nat.reduceSub, Nat.sub_zero, List.drop_succ_cons, List.drop_zero, List.take_succ_cons, List.take_zero, List.take_nil, List.drop_nil]
       try simp only [eX, ↓reduceIte, Nat.reduceEqDiff, Int.reduceToNat]
       refine hK _ _ ?_; clear hK K
       refine zac (fun K hK r => ?_)
       simp only [zaT _ bd41, List.map_toArray, List.map_cons, List.map_nil, eX, ↓reduceIte, Nat.reduceEqDiff, Int.reduceToNat]
       refine (CallH.use (rflush_ok G a1 c1 X1 hX1 (m.saveN gen ar b k).1 hd1 (by omega) (kk + 50) (by omega) (fun i hi => (hPN.up (by omega)).rg hd1 i hi) 0) lGH).mono ?_
       rintro v68 H68 ⟨G2, ⟨a2, c2, X2, hXl2, lG2, rfl, hX2, hd2⟩, lG68, hk68⟩
       obtain ⟨m4, n4⟩ := hk68 b4 _ k4 g4
       obtain ⟨m8, n8⟩ := hk68 b8 _ k8 g8
       subst hkn
       rw [← rsave_all hask hfit hbad] at hd2 ⊢
       try simp only [eX, ↓reduceIte, Nat.reduceEqDiff, Int.reduceToNat]
       refine hK _ _ ?_; clear hK K
       refine zac (fun K hK r => ?_)
       simp only [zaW, zaX, List.getElem?_toArray, List.getElem?_cons_zero, List.getElem?_cons_succ, zal, eX, ↓reduceIte, Nat.reduceEqDiff, Int.reduceToNat]
       refine hK _ _ ?_; clear hK K
       refine zac (fun K hK r => ?_)
       simp only [zaW, zaX, List.getElem?_toArray, List.getElem?_cons_zero, List.getElem?_cons_succ, zal, eX, ↓reduceIte, Nat.reduceEqDiff, Int.reduceToNat]
       refine hK _ _ ?_; clear hK K
       refine zbq rfl (zaJ) (fun K hK r => ?_)
       simp only [zaL, eX, ↓reduceIte, Nat.reduceEqDiff, Int.reduceToNat]
       first | refine zaz sz38 bdA hbA bdA plA (by decide) ?_ | refine zaI sz38 bdA hbA bdA plA (by decide) ?_
       try simp only [eX, ↓reduceIte, Nat.reduceEqDiff, Int.reduceToNat]
       refine hK _ _ ?_; clear hK K
       refine zao rfl ?_
       refine zae ?_
       try simp only [Ex.thnH, Ex.inBlockH, ↓reduceIte, Nat.reduceEqDiff]
       refine hK19 _ _ ?_; try clear hK19 K19
       refine zaR ?_
       try simp only [Ex.thnH, Ex.inBlockH, ↓reduceIte, Nat.reduceEqDiff]
       refine ⟨[_, _], ⟨⟨_, rfl, zbd Try.underlying38 rfl sz38 hbA bdA⟩, rfl, trivial⟩, _, Le.refl _, a2, c2, X2, hXl2.trans hXl1, zaP (Le.trans (Le.trans lG0 (Le.trans lGP lG2)) lG68) f8_H, rfl, hX2.le (zaP lG68 n8), hd2⟩
end Go.Proofs.Ytcjdkfhmlnfedaa.HL
end
