/- Parts of the proof, one behind the other: I12, I15, I16, I14, I17, I18, I19, I13, I21, R30, R31. -/
import Derived.Test.YtcjdkfhmlnfedaaX2
set_option linter.unusedSimpArgs false
set_option linter.unusedVariables false
section
namespace Go.Proofs.Ytcjdkfhmlnfedaa.HL
open Go Go.Proofs
set_option linter.unusedSimpArgs false
set_option linter.unusedVariables false
attribute [local irreducible] Lt Lq CW OW TW CallH
theorem PlainL.drop {l : List Value} (h : PlainL l) (n : Nat) : PlainL (l.drop n) := fun v hv => h v (List.mem_of_mem_drop hv)
theorem wt_x (w : Wt) : (w.c.toArray).extract 1 (1 + 64) = w.x.c.toArray := by
  apply Array.ext'
  rw [Array.toList_extract, List.extract_eq_take_drop]
  show ((w.x.c).take 64) = _
  exact List.take_of_length_le (by rw [Sec.len]; omega)
theorem wt_at (w : Wt) : (w.c.toArray)[0]? = some (.int .i64 w.at_) := rfl
theorem torn_cells (x old : Sec) (t : Int) (h : 0 < t ∧ t < 64) : putCells x.c.toArray t.toNat (old.c.drop t.toNat) = (torn x old t).c.toArray := by
  apply Array.ext'
  have hl : (old.c.drop t.toNat).length = 64 - t.toNat := by rw [List.length_drop, Sec.len]
  rw [putCells_toList (old.c.drop t.toNat) x.c.toArray t.toNat (by rw [hl]; simp only [List.size_toArray, Sec.len]; omega), hl]
  unfold torn
  rw [dif_pos h]
  have e0 : List.drop (t.toNat + (64 - t.toNat)) (u8s x.b) = [] := List.drop_eq_nil_of_le (by rw [List.length_map, x.h]; omega)
  simp only [Sec.c, u8s, List.map_append, List.map_take, List.map_drop] at e0 ⊢
  rw [e0, List.append_nil]
theorem torn_not (x old : Sec) (t : Int) (h : ¬ (0 < t ∧ t < 64)) : torn x old t = x := by unfold torn; rw [dif_neg h]
theorem stN_none {kept : Nat → Option Int} {ws : List Wt} {s : Int → Sec} {n : Nat} (h : kept n = none) : stN kept ws s (n + 1) = stN kept ws s n := by simp only [stN, h]
theorem stN_some {kept : Nat → Option Int} {ws : List Wt} {s : Int → Sec} {n : Nat} {t : Int} (h : kept n = some t) : stN kept ws s (n + 1) = fun x => if x = (ws.getD n default).at_ then torn (ws.getD n default).x (stN kept ws s n (ws.getD n default).at_) t else stN kept ws s n x := by simp only [stN, h]
theorem sec_holds {H : Hp} {b : Nat} {x : Sec} {T : TypeId} (hb : H b = some (.cells x.c.toArray T)) {t : Nat} (ht : t ≤ 64) (cap : Nat) : Holds H 1 (.slice (some ⟨b, t, none⟩) (64 - t) cap) (64 - t) (x.c.drop t) := by
  refine ⟨by rw [List.length_drop, Sec.len]; omega, .inr ⟨b, t, _, _, _, _, rfl, hb, by simp only [List.size_toArray, Sec.len]; omega, ?_⟩⟩
  rw [Array.toList_extract, List.extract_eq_take_drop]
  exact List.take_of_length_le (by rw [List.length_drop, Sec.len]; omega)
theorem DvX.facts {F : Hp} {b : Nat} {d : Dv} (h : DvX F b d) : ∃ mb es c wv wrs, F b = some (.cells #[.int .i64 d.size, .map (some mb), wv] 83) ∧ F mb = some (.map es c) ∧ MapS es d.sure ∧ OwnS F 120 65 wv d.wait.length (wts d.wait) wrs ∧ b ≠ mb ∧ wrs ≠ some b ∧ wrs ≠ some mb := by
  obtain ⟨mb, es, c, wv, wrs, h1, h2, h3, h4, _⟩ := h
  refine ⟨mb, es, c, wv, wrs, h1, h2, h3, h4, (fun e => by rw [e, h2] at h1; cases h1), (fun e => ?_), (fun e => ?_)⟩
  · obtain ⟨_, ⟨_, _, h0⟩ | ⟨r', cc, c', _, g2, _, _, _, g3⟩⟩ := h4
    · rw [e] at h0; cases h0
    · rw [e] at g3; cases g3; rw [h1] at g2; injection g2 with g2; injection g2 with _ g2; revert g2; decide
  · obtain ⟨_, ⟨_, _, h0⟩ | ⟨r', cc, c', _, g2, _, _, _, g3⟩⟩ := h4
    · rw [e] at h0; cases h0
    · rw [e] at g3; cases g3; rw [h2] at g2; cases g2
set_option maxRecDepth 100000 in
set_option maxHeartbeats 8000000 in
theorem settle_ok (H : Hp) (b : Nat) (d : Dv) (F G : Hp) (hd : DvX F b d) (hF : Le F H) (hG : Le G H) (hdis : ∀ x, F x ≠ none → G x = none) (gf : Fn) (ga gb : Array Value) (kept : Nat → Option Int) (hg : ∀ K, Le G K → ∀ n : Nat, n < d.wait.length → ValH Try.prog (.func gf ga gb) #[.int .i64 n] K (fun v K' => v = .tuple #[.int .i64 ((kept n).getD 0), .bool (kept n).isSome] ∧ K' = K)) (hl : d.wait.length ≤ 1000000) :
 CallH Try.prog 42 #[ptrV b, .func gf ga gb] H (fun _ H' => ∃ F', DvX F' b (d.settle kept) ∧ Le F' H' ∧ (∀ x, F' x ≠ none → F x ≠ none) ∧ ∀ x o, H x = some o → F x = none → H' x = some o) := by
 refine zaB (l := [_, _]) (rl := []) (n := 59) Try.func42 rfl rfl rfl rfl rfl ?_
 simp only [envOf, Nat.reduceAdd]
 obtain ⟨mb, es, c, wv, wrs, hb0, hm0, hms, how, hbm, hwb, hwm⟩ := hd.facts
 obtain ⟨wa, wcp, rfl⟩ := how.holds.form
 have kb := hF _ _ hb0
 have km := hF _ _ hm0
 have gm : G mb = none := hdis mb (by rw [hm0]; simp)
 refine zad (fun K1 hK1 => ?_)
 refine zad (fun K2 hK2 => ?_)
 refine zaa ?_
 refine zam rfl ?_
 refine zac (fun K hK r => ?_)
 rw [zbh _ _ rfl]
 simp only [eX, ↓reduceIte, Nat.reduceEqDiff, Int.reduceToNat]
 refine hK _ _ ?_; clear hK K
 refine zac (fun K hK r => ?_)
 simp only [zah, fa83_2, zap, Nat.reduceAdd, Nat.zero_add, eX, ↓reduceIte, Nat.reduceEqDiff, Int.reduceToNat]
 refine hK _ _ ?_; clear hK K
 refine zac (fun K hK r => ?_)
 simp only [zan, eX, ↓reduceIte, Nat.reduceEqDiff, Int.reduceToNat]
 refine zak Try.underlying81 rfl hbA ldA ?_
 try simp only [eX, ↓reduceIte, Nat.reduceEqDiff, Int.reduceToNat]
 refine hK _ _ ?_; clear hK K
 refine zac (fun K hK r => ?_)
 simp only [zaM, l_len, List.map_toArray, List.map_cons, List.map_nil, zaS _ _ Try.underlying81, eX, ↓reduceIte, Nat.reduceEqDiff, Int.reduceToNat]
 refine hK _ _ ?_; clear hK K
 refine zam rfl ?_
 refine zae ?_
 try simp only [Ex.thnH, Ex.inBlockH, ↓reduceIte, Nat.reduceEqDiff]
 refine hK2 _ _ ?_; try clear hK2 K2
 refine zaV ?_
 refine CW_loop (fun m e H_ => ∃ (k : Nat) (es' : Array MapEntry) (c' : Nat), k ≤ d.wait.length ∧ m = d.wait.length - k ∧ MapS es' (stN kept d.wait d.sure k) ∧ H_ mb = some (.map es' c') ∧ (∀ x o, H x = some o → x ≠ mb → H_ x = some o) ∧ Env.has [(0, ptrV b), (1, .func gf ga gb), (13, .slice wa d.wait.length wcp), (14, .int .i64 d.wait.length), (15, .int .i64 k)] e) (d.wait.length) ?_ ?_
 ·skip
  exact ⟨0, es, c, by omega, by omega, hms, km, (fun x o hx _ => hx), rfl, rfl, rfl, rfl, rfl, trivial⟩
 intro m_ e_ H_ hI_
 obtain ⟨k, es', c', hk, rfl, hms', km', hkp, he⟩ := hI_
 refine CW_env he.sub ?_; clear he e_
 have kb' := hkp b _ kb hbm
 have how_ : OwnS H_ 120 65 (.slice wa d.wait.length wcp) d.wait.length (wts d.wait) wrs := (how.le hF).stay (fun z o hz ho => hkp z o ho (fun e => hwm (by rw [hz, e])))
 have hG_ : Le G H_ := fun x o hx => hkp x o (hG x o hx) (fun e => by rw [e, gm] at hx; cases hx)
 have hi0 := hms'.1
 refine zad (fun K3 hK3 => ?_)
 refine zaa ?_
 refine zac (fun K hK r => ?_)
 simp (disch := (first | omega | decide)) only [zaF, zaH, b_lss, zaq, zar, zat, zau, zas, zav, Bool.not_true, Bool.not_false, eX, ↓reduceIte, Nat.reduceEqDiff, Int.reduceToNat]
 refine hK _ _ ?_; clear hK K
 refine zae ?_
 try simp only [Ex.thnH, Ex.inBlockH, ↓reduceIte, Nat.reduceEqDiff]
 refine hK3 _ _ ?_; try clear hK3 K3
 refine zad (fun K4 hK4 => ?_)
 refine zaG (fun r => rfl) (fun c16 => ?_) (fun c16 => ?_)
 ·first
  |(exfalso; exact cnA c16; done)
  |skip
   (try simp only [decide_eq_true_eq, decide_eq_false_iff_not, Bool.not_eq_true, Bool.not_eq_false, Bool.and_eq_true, Bool.or_eq_true, Bool.or_eq_false_iff, Bool.not_eq_eq_eq_not, Bool.not_true, Bool.not_false] at c16)
   obtain ⟨bw, ow, cw, Tw, Fw, ew, hbw, hsw, atw⟩ := how_.holds.at (by omega)
   refine zaO ?_
   try simp only [Ex.thnH, Ex.inBlockH, ↓reduceIte, Nat.reduceEqDiff]
   refine hK4 _ _ ?_; try clear hK4 K4
   refine zad (fun K5 hK5 => ?_)
   refine zaV ?_
   refine zad (fun K6 hK6 => ?_)
   refine zaa ?_
   refine zam rfl ?_
   refine zac (fun K hK r => ?_)
   simp only [zaK, eX, ↓reduceIte, Nat.reduceEqDiff, Int.reduceToNat]
   refine zbi Try.underlying81 sz120 ew ixA ixA ?_
   try simp only [Int.toNat_natCast]
   refine hK _ _ ?_; clear hK K
   refine zac (fun K hK r => ?_)
   simp only [zan, eX, ↓reduceIte, Nat.reduceEqDiff, Int.reduceToNat]
   refine zaC Try.underlying120 rfl sz120 hbw (by omega) ?_
   rw [ext_at Wt.len atw rfl k (by omega) hsw]
   refine hK _ _ ?_; clear hK K
   refine zac (fun K hK r => ?_)
   simp only [x_alloc, zr120, zal, Value.cells, eX, ↓reduceIte, Nat.reduceEqDiff, Int.reduceToNat]
   intro b5 hb5
   try have n5_b : b ≠ b5 := zai hbA hb5
   try have n5_mb : mb ≠ b5 := zai hbA hb5
   have f5_H_ : H_ b5 = none := zaj lhA hb5
   try simp only [eX, ↓reduceIte, Nat.reduceEqDiff, Int.reduceToNat]
   refine hK _ _ ?_; clear hK K
   refine zao rfl ?_
   refine zbq rfl (zaJ) (fun K hK r => ?_)
   simp only [zaL, eX, ↓reduceIte, Nat.reduceEqDiff, Int.reduceToNat]
   refine zaz sz120 (by simp [Sec.h]) hbA (by simp [Sec.h]) (Wt.plain _) (by decide) ?_
   refine hK _ _ ?_; clear hK K
   refine zae ?_
   try simp only [Ex.thnH, Ex.inBlockH, ↓reduceIte, Nat.reduceEqDiff]
   refine hK6 _ _ ?_; try clear hK6 K6
   refine zad (fun K7 hK7 => ?_)
   refine zaa ?_
   refine zam rfl ?_
   refine zam rfl ?_
   refine zac (fun K hK r => ?_)
   simp only [x_call, List.map_toArray, List.map_cons, List.map_nil, eX, ↓reduceIte, Nat.reduceEqDiff, Int.reduceToNat]
   show ValH _ _ _ _ _
   refine (hg _ (by exact zaP hG_ (zaj hG_ hb5)) k (by omega)).mono ?_
   rintro v H' ⟨rfl, hq⟩
   have hq := hq.symm
   subst hq
   try simp only [eX, ↓reduceIte, Nat.reduceEqDiff, Int.reduceToNat]
   refine hK _ _ ?_; clear hK K
   refine zam rfl ?_
   refine zac (fun K hK r => ?_)
   simp only [zaW, zaX, List.getElem?_toArray, List.getElem?_cons_zero, List.getElem?_cons_succ, zal, eX, ↓reduceIte, Nat.reduceEqDiff, Int.reduceToNat]
   refine hK _ _ ?_; clear hK K
   refine zac (fun K hK r => ?_)
   simp only [zaW, zaX, List.getElem?_toArray, List.getElem?_cons_zero, List.getElem?_cons_succ, zal, eX, ↓reduceIte, Nat.reduceEqDiff, Int.reduceToNat]
   refine hK _ _ ?_; clear hK K
   refine zao rfl ?_
   refine zao rfl ?_
   refine zae ?_
   try simp only [Ex.thnH, Ex.inBlockH, ↓reduceIte, Nat.reduceEqDiff]
   refine hK7 _ _ ?_; try clear hK7 K7
   refine zad (fun K8 hK8 => ?_)
   refine zad (fun K9 hK9 => ?_)
   refine zaa ?_
   refine zam rfl ?_
   refine zac (fun K hK r => ?_)
   simp only [x_un, u_not, eX, ↓reduceIte, Nat.reduceEqDiff, Int.reduceToNat]
   refine hK _ _ ?_; clear hK K
   refine zae ?_
   try simp only [Ex.thnH, Ex.inBlockH, ↓reduceIte, Nat.reduceEqDiff]
   refine hK9 _ _ ?_; try clear hK9 K9
   refine zaG (fun r => rfl) (fun c27 => ?_) (fun c27 => ?_)
   ·first
    |(exfalso; exact cnA c27; done)
    |skip
     have hkt : kept k = none := by cases hc : kept k with
      |none => rfl
      |some t => rw [hc] at c27; simp at c27
     refine CW_exit ?_
     try simp only [Ex.thnH, Ex.inBlockH, ↓reduceIte, Nat.reduceEqDiff]
     refine hK5 _ _ ?_; try clear hK5 K5
     refine zaa ?_
     refine zac (fun K hK r => ?_)
     simp (disch := (first | omega | decide)) only [zaF, zaH, b_add, zaw, zaE, zaD, zaQ, eX, ↓reduceIte, Nat.reduceEqDiff, Int.reduceToNat]
     refine hK _ _ ?_; clear hK K
     refine zam rfl ?_
     refine zae ?_
     try simp only [Ex.thnH, Ex.inBlockH, ↓reduceIte, Nat.reduceEqDiff]
     first
     |(refine ⟨d.wait.length - (k + 1), by omega, k + 1, es', c', by omega, rfl, ?_, hbA, ?_, rfl, rfl, rfl, rfl, rfl, trivial⟩
       ·rw [stN_none (by first | assumption | (simpa using c27))]; exact hms'
       ·exact fun z o hz hn => (show Le H_ _ from lhA) z o (hkp z o hz hn))
     |(refine ⟨d.wait.length - (k + 1), by omega, k + 1, es9, c9, by omega, rfl, ?_, zax _ _ _, ?_, rfl, rfl, rfl, rfl, rfl, trivial⟩
       ·rw [stN_some hkt]
        first
        |exact hms'.put h91 h92
        |(rw [torn_not _ _ _ htr]; exact hms'.put h91 h92)
       ·exact fun z o hz hn => (zaA _ _ hn).trans ((show Le H_ _ from lhA) z o (hkp z o hz hn)))
   ·first
    |(exfalso; exact cnA c27; done)
    |skip
     obtain ⟨t, hkt⟩ : ∃ t, kept k = some t := by cases hc : kept k with
      |none => rw [hc] at c27; simp at c27
      |some t => exact ⟨t, rfl⟩
     simp only [hkt, Option.getD_some]
     clear c27
     refine zaO ?_
     try simp only [Ex.thnH, Ex.inBlockH, ↓reduceIte, Nat.reduceEqDiff]
     refine hK8 _ _ ?_; try clear hK8 K8
     refine zad (fun K10 hK10 => ?_)
     refine zaa ?_
     refine zac (fun K hK r => ?_)
     simp only [zah, fa120_1, zap, Nat.reduceAdd, Nat.zero_add, eX, ↓reduceIte, Nat.reduceEqDiff, Int.reduceToNat]
     refine hK _ _ ?_; clear hK K
     refine zac (fun K hK r => ?_)
     simp only [zan, eX, ↓reduceIte, Nat.reduceEqDiff, Int.reduceToNat]
     refine zaC Try.underlying45 rfl sz45 hbA (by simp [Sec.h]) ?_
     rw [wt_x]
     refine hK _ _ ?_; clear hK K
     refine zac (fun K hK r => ?_)
     simp only [x_alloc, zr45, zal, Value.cells, eX, ↓reduceIte, Nat.reduceEqDiff, Int.reduceToNat]
     intro b8 hb8
     try have n8_b : b ≠ b8 := zai hbA hb8
     try have n8_mb : mb ≠ b8 := zai hbA hb8
     try have n8_b5 : b5 ≠ b8 := zai hbA hb8
     have f8_H_ : H_ b8 = none := zaj lhA hb8
     try simp only [eX, ↓reduceIte, Nat.reduceEqDiff, Int.reduceToNat]
     refine hK _ _ ?_; clear hK K
     refine zbq rfl (zaJ) (fun K hK r => ?_)
     simp only [zaL, eX, ↓reduceIte, Nat.reduceEqDiff, Int.reduceToNat]
     refine zaz sz45 (by simp [Sec.h]) hbA (by simp [Sec.h]) (PlainL.ints _ _) (by decide) ?_
     refine hK _ _ ?_; clear hK K
     refine zae ?_
     try simp only [Ex.thnH, Ex.inBlockH, ↓reduceIte, Nat.reduceEqDiff]
     refine hK10 _ _ ?_; try clear hK10 K10
     refine zad (fun K11 hK11 => ?_)
     refine zad (fun K12 hK12 => ?_)
     refine zaa ?_
     refine zam rfl ?_
     refine zac (fun K hK r => ?_)
     simp (disch := (first | omega | decide)) only [zaF, zaH, b_gtr, zaq, zar, zat, zau, zas, zav, Bool.not_true, Bool.not_false, eX, ↓reduceIte, Nat.reduceEqDiff, Int.reduceToNat]
     refine hK _ _ ?_; clear hK K
     refine zam rfl ?_
     (first | refine zbc (d := 32) rfl (fun g32 => ?_) (fun g32 => ?_) | skip)
     all_goals try (exfalso; exact cnA g32)
     all_goals (try simp only [decide_eq_true_eq, decide_eq_false_iff_not, Bool.not_eq_true, Bool.not_eq_false, Bool.and_eq_true, Bool.or_eq_true, Bool.or_eq_false_iff, Bool.not_eq_eq_eq_not, Bool.not_true, Bool.not_false] at g32)
     all_goals
      try simp only [eX, ↓reduceIte, Nat.reduceEqDiff, Int.reduceToNat]
      first
      |refine zaf rfl (zab (by decide)) rfl (fun K hK r => ?_)
       simp only [zaU, eX, ↓reduceIte, Nat.reduceEqDiff, Int.reduceToNat]
       refine hK _ _ ?_; clear hK K
      |refine zag rfl (zab (by decide)) rfl ?_
       simp only [eX, ↓reduceIte, Nat.reduceEqDiff, Int.reduceToNat]
      first
      |refine zaf rfl (zab (by decide)) rfl (fun K hK r => ?_)
       simp (disch := (first | omega | decide)) only [zaF, zaH, b_lss, zaq, zar, zat, zau, zas, zav, Bool.not_true, Bool.not_false, eX, ↓reduceIte, Nat.reduceEqDiff, Int.reduceToNat]
       refine hK _ _ ?_; clear hK K
      |refine zag rfl (zab (by decide)) rfl ?_
       simp only [eX, ↓reduceIte, Nat.reduceEqDiff, Int.reduceToNat]
      refine zac (fun K hK r => ?_)
      simp only [zbp, zaZ, HL.ite_bool, if_true, if_false, Bool.false_eq_true, eX, ↓reduceIte, Nat.reduceEqDiff, Int.reduceToNat]
      refine hK _ _ ?_; clear hK K
      refine zae ?_
      try simp only [Ex.thnH, Ex.inBlockH, ↓reduceIte, Nat.reduceEqDiff]
      refine hK12 _ _ ?_; try clear hK12 K12
      refine zaG (fun r => rfl) (fun c35 => ?_) (fun c35 => ?_)
      ·first
       |(exfalso; exact cnA c35; done)
       |skip
        (try simp only [decide_eq_true_eq, decide_eq_false_iff_not, Bool.not_eq_true, Bool.not_eq_false, Bool.and_eq_true, Bool.or_eq_true, Bool.or_eq_false_iff, Bool.not_eq_eq_eq_not, Bool.not_true, Bool.not_false] at c35)
        have htr : 0 < t ∧ t < 64 := by omega
        refine zad (fun K13 hK13 => ?_)
        refine CW_drawE [0, 0, 0, 1, 0, 1, 1, 4, 3] [0, 1, 2, 3, 4, 5, 6, 7, 8] (by kernel_rfl) (by kernel_rfl) (fun R7 hR7 => ?_)
        apply zay rfl (zab (by decide)) rfl
        ·intro r
         simp only [zaU, eX, ↓reduceIte, Nat.reduceEqDiff]
         exact ⟨rfl, Le.refl _⟩
        simp only [eX, ↓reduceIte, Nat.reduceEqDiff, Int.reduceToNat]
        apply zay rfl (zab (by decide)) rfl
        ·intro r
         rw [zbh _ _ rfl]
         exact ⟨rfl, Le.refl _⟩
        simp only [eX, ↓reduceIte, Nat.reduceEqDiff, Int.reduceToNat]
        apply zay rfl (zab (by decide)) rfl
        ·intro r
         simp only [zah, fa83_1, zap, Nat.reduceAdd, Nat.zero_add, eX, ↓reduceIte, Nat.reduceEqDiff]
         exact ⟨rfl, Le.refl _⟩
        simp only [eX, ↓reduceIte, Nat.reduceEqDiff, Int.reduceToNat]
        apply TW_look rfl (zab (by decide)) rfl
        ·intro r
         simp only [zan, eX, ↓reduceIte, Nat.reduceEqDiff]
         refine zak Try.underlying80 rfl hbA ldA ?_
         exact ⟨rfl, Le.refl _⟩
        simp only [eX, ↓reduceIte, Nat.reduceEqDiff, Int.reduceToNat]
        apply zay rfl (zab (by decide)) rfl
        ·intro r
         simp only [zah, fa120_0, zap, Nat.reduceAdd, Nat.zero_add, eX, ↓reduceIte, Nat.reduceEqDiff]
         exact ⟨rfl, Le.refl _⟩
        simp only [eX, ↓reduceIte, Nat.reduceEqDiff, Int.reduceToNat]
        apply TW_look rfl (zab (by decide)) rfl
        ·intro r
         simp only [zan, eX, ↓reduceIte, Nat.reduceEqDiff]
         refine zak Try.underlying3 rfl hbA (wt_at (d.wait.getD k default)) ?_
         exact ⟨rfl, Le.refl _⟩
        simp only [eX, ↓reduceIte, Nat.reduceEqDiff, Int.reduceToNat]
        apply TW_look rfl (zab (by decide)) rfl
        ·intro r
         simp only [x_lookup, eX, ↓reduceIte, Nat.reduceEqDiff]
         refine Lt_lookup Try.underlying80 Try.underlying3 zr45 hbA hi0 ?_
         rw [hms'.2]
         exact ⟨rfl, Le.refl _⟩
        simp only [eX, ↓reduceIte, Nat.reduceEqDiff, Int.reduceToNat]
        refine TW_make rfl (zab (by decide)) rfl (fun K hK r => ?_)
        simp only [x_alloc, zr45, zal, Value.cells, eX, ↓reduceIte, Nat.reduceEqDiff, Int.reduceToNat]
        intro b9 hb9
        try have n9_b : b ≠ b9 := zai hbA hb9
        try have n9_mb : mb ≠ b9 := zai hbA hb9
        try have n9_b5 : b5 ≠ b9 := zai hbA hb9
        try have n9_b8 : b8 ≠ b9 := zai hbA hb9
        have f9_H_ : H_ b9 = none := zaj lhA hb9
        have f9_R7 : R7 b9 = none := zaj lhA hb9
        try simp only [eX, ↓reduceIte, Nat.reduceEqDiff, Int.reduceToNat]
        refine hK _ _ ?_; clear hK K
        refine TW_last rfl (zaJ) rfl (fun K hK r => ?_)
        simp only [zaL, eX, ↓reduceIte, Nat.reduceEqDiff, Int.reduceToNat]
        refine zaz sz45 (by simp [Sec.h]) hbA (by simp [Sec.h]) (PlainL.ints _ _) (by decide) ?_
        refine hK _ _ ?_; clear hK K
        refine TW_nil ?_
        try simp only [Ex.thnH, Ex.inBlockH, ↓reduceIte, Nat.reduceEqDiff]
        refine hK13 _ _ ?_; try clear hK13 K13
        refine CW_drawO [0, 0, 0, 0, 3] [0, 1, 2, 3, 4] emptyHp (by kernel_rfl) (by kernel_rfl) (le_empty _) ?_
        apply zay rfl (zab (by decide)) rfl
        ·intro r
         simp only [zaU, eX, ↓reduceIte, Nat.reduceEqDiff]
         exact ⟨rfl, Le.refl _⟩
        simp only [eX, ↓reduceIte, Nat.reduceEqDiff, Int.reduceToNat]
        apply zay rfl (zab (by decide)) rfl
        ·intro r
         simp only [x_slice, Option.map_some, Option.map_none, eX, ↓reduceIte, Nat.reduceEqDiff]
         refine Lt_sliceA Try.underlying45 sz5 bound_none bound_none (bound_some (by omega)) (by omega) (by omega) (by omega) (by simp) ?_
         rw [if_neg (show ¬ 64 = t.toNat by omega)]
         simp only [zap, Nat.mul_one, Nat.zero_add]
         exact ⟨rfl, Le.refl _⟩
        simp only [eX, ↓reduceIte, Nat.reduceEqDiff, Int.reduceToNat]
        apply zay rfl (zab (by decide)) rfl
        ·intro r
         simp only [zaU, eX, ↓reduceIte, Nat.reduceEqDiff]
         exact ⟨rfl, Le.refl _⟩
        simp only [eX, ↓reduceIte, Nat.reduceEqDiff, Int.reduceToNat]
        apply zay rfl (zab (by decide)) rfl
        ·intro r
         simp only [x_slice, Option.map_some, Option.map_none, eX, ↓reduceIte, Nat.reduceEqDiff]
         refine Lt_sliceA Try.underlying45 sz5 bound_none bound_none (bound_some (by omega)) (by omega) (by omega) (by omega) (by simp) ?_
         rw [if_neg (show ¬ 64 = t.toNat by omega)]
         simp only [zap, Nat.mul_one, Nat.zero_add]
         exact ⟨rfl, Le.refl _⟩
        simp only [eX, ↓reduceIte, Nat.reduceEqDiff, Int.reduceToNat]
        refine TW_last rfl (zab (by decide)) rfl (fun K hK r => ?_)
        simp only [zaM, l_copy, List.map_toArray, List.map_cons, List.map_nil, eX, ↓reduceIte, Nat.reduceEqDiff, Int.reduceToNat]
        have hmin : Nat.min (64 - t.toNat) (64 - t.toNat) = 64 - t.toNat := Nat.min_self _
        refine Lt_copy (w := 1) (cs := (stN kept d.wait d.sure k (d.wait.getD k default).at_).c.drop t.toNat) Try.underlying22 sz5 _ hbA (by simp only [List.size_toArray, Sec.len]; omega) (len_slice _ _ _) (fun Kx => ?_) (by rw [hmin, List.length_drop, Sec.len, Nat.mul_one]) (PlainL.drop (PlainL.ints _ _) _) (by decide) ?_
        ·rw [hmin]
         refine (first_holds (sec_holds (x := stN kept d.wait d.sure k (d.wait.getD k default).at_) hbA (t := t.toNat) (by omega) _) (Nat.le_refl _) Kx).trans ?_
         rw [Nat.mul_one, List.take_of_length_le (by rw [List.length_drop, Sec.len]; omega)]
        rw [torn_cells _ _ _ htr]
        refine hK _ _ ?_; clear hK K
        refine TW_nil ?_
        try simp only [Ex.thnH, Ex.inBlockH, ↓reduceIte, Nat.reduceEqDiff]
        refine hK11 _ _ ?_; try clear hK11 K11
        refine CW_drawE [0, 0, 0, 1, 0, 1, 1, 3] [0, 1, 2, 3, 4, 5, 6, 7] (by kernel_rfl) (by kernel_rfl) (fun R9 hR9 => ?_)
        apply zay rfl (zab (by decide)) rfl
        ·intro r
         simp only [zaU, eX, ↓reduceIte, Nat.reduceEqDiff]
         exact ⟨rfl, Le.refl _⟩
        simp only [eX, ↓reduceIte, Nat.reduceEqDiff, Int.reduceToNat]
        apply zay rfl (zab (by decide)) rfl
        ·intro r
         rw [zbh _ _ rfl]
         exact ⟨rfl, Le.refl _⟩
        simp only [eX, ↓reduceIte, Nat.reduceEqDiff, Int.reduceToNat]
        apply zay rfl (zab (by decide)) rfl
        ·intro r
         simp only [zah, fa83_1, zap, Nat.reduceAdd, Nat.zero_add, eX, ↓reduceIte, Nat.reduceEqDiff]
         exact ⟨rfl, Le.refl _⟩
        simp only [eX, ↓reduceIte, Nat.reduceEqDiff, Int.reduceToNat]
        apply TW_look rfl (zab (by decide)) rfl
        ·intro r
         simp only [zan, eX, ↓reduceIte, Nat.reduceEqDiff]
         refine zak Try.underlying80 rfl hbA ldA ?_
         exact ⟨rfl, Le.refl _⟩
        simp only [eX, ↓reduceIte, Nat.reduceEqDiff, Int.reduceToNat]
        apply zay rfl (zab (by decide)) rfl
        ·intro r
         simp only [zah, fa120_0, zap, Nat.reduceAdd, Nat.zero_add, eX, ↓reduceIte, Nat.reduceEqDiff]
         exact ⟨rfl, Le.refl _⟩
        simp only [eX, ↓reduceIte, Nat.reduceEqDiff, Int.reduceToNat]
        apply TW_look rfl (zab (by decide)) rfl
        ·intro r
         simp only [zan, eX, ↓reduceIte, Nat.reduceEqDiff]
         refine zak Try.underlying3 rfl hbA (wt_at (d.wait.getD k default)) ?_
         exact ⟨rfl, Le.refl _⟩
        simp only [eX, ↓reduceIte, Nat.reduceEqDiff, Int.reduceToNat]
        apply TW_look rfl (zab (by decide)) rfl
        ·intro r
         simp only [zan, eX, ↓reduceIte, Nat.reduceEqDiff]
         refine zaN Try.underlying45 rfl sz45 hbA (by simp [Sec.h]) ?_
         exact ⟨rfl, Le.refl _⟩
        simp only [eX, ↓reduceIte, Nat.reduceEqDiff, Int.reduceToNat]
        refine TW_last rfl (zaJ) rfl (fun K hK r => ?_)
        simp only [x_mapUpdate, eX, ↓reduceIte, Nat.reduceEqDiff, Int.reduceToNat]
        refine Lt_mapUpdate Try.underlying80 Try.underlying3 hbA hi0 ?_
        intro es9 c9 h91 h92
        refine hK _ _ ?_; clear hK K
        refine TW_nil ?_
        try simp only [Ex.thnH, Ex.inBlockH, ↓reduceIte, Nat.reduceEqDiff]
        refine hK5 _ _ ?_; try clear hK5 K5
        refine zaa ?_
        refine zac (fun K hK r => ?_)
        simp (disch := (first | omega | decide)) only [zaF, zaH, b_add, zaw, zaE, zaD, zaQ, eX, ↓reduceIte, Nat.reduceEqDiff, Int.reduceToNat]
        refine hK _ _ ?_; clear hK K
        refine zam rfl ?_
        refine zae ?_
        try simp only [Ex.thnH, Ex.inBlockH, ↓reduceIte, Nat.reduceEqDiff]
        first
        |(refine ⟨d.wait.length - (k + 1), by omega, k + 1, es', c', by omega, rfl, ?_, hbA, ?_, rfl, rfl, rfl, rfl, rfl, trivial⟩
          ·rw [stN_none (by first | assumption | (simpa using c27))]; exact hms'
          ·exact fun z o hz hn => (show Le H_ _ from lhA) z o (hkp z o hz hn))
        |(refine ⟨d.wait.length - (k + 1), by omega, k + 1, es9, c9, by omega, rfl, ?_, zax _ _ _, ?_, rfl, rfl, rfl, rfl, rfl, trivial⟩
          ·rw [stN_some hkt]
           first
           |exact hms'.put h91 h92
           |(rw [torn_not _ _ _ htr]; exact hms'.put h91 h92)
          ·exact fun z o hz hn => (zaA _ _ hn).trans ((show Le H_ _ from lhA) z o (hkp z o hz hn)))
      ·first
       |(exfalso; exact cnA c35; done)
       |skip
        (try simp only [decide_eq_true_eq, decide_eq_false_iff_not, Bool.not_eq_true, Bool.not_eq_false, Bool.and_eq_true, Bool.or_eq_true, Bool.or_eq_false_iff, Bool.not_eq_eq_eq_not, Bool.not_true, Bool.not_false] at c35)
        have htr : ¬ (0 < t ∧ t < 64) := by omega
        refine zaO ?_
        try simp only [Ex.thnH, Ex.inBlockH, ↓reduceIte, Nat.reduceEqDiff]
        refine hK11 _ _ ?_; try clear hK11 K11
        refine CW_drawE [0, 0, 0, 1, 0, 1, 1, 3] [0, 1, 2, 3, 4, 5, 6, 7] (by kernel_rfl) (by kernel_rfl) (fun R9 hR9 => ?_)
        apply zay rfl (zab (by decide)) rfl
        ·intro r
         simp only [zaU, eX, ↓reduceIte, Nat.reduceEqDiff]
         exact ⟨rfl, Le.refl _⟩
        simp only [eX, ↓reduceIte, Nat.reduceEqDiff, Int.reduceToNat]
        apply zay rfl (zab (by decide)) rfl
        ·intro r
         rw [zbh _ _ rfl]
         exact ⟨rfl, Le.refl _⟩
        simp only [eX, ↓reduceIte, Nat.reduceEqDiff, Int.reduceToNat]
        apply zay rfl (zab (by decide)) rfl
        ·intro r
         simp only [zah, fa83_1, zap, Nat.reduceAdd, Nat.zero_add, eX, ↓reduceIte, Nat.reduceEqDiff]
         exact ⟨rfl, Le.refl _⟩
        simp only [eX, ↓reduceIte, Nat.reduceEqDiff, Int.reduceToNat]
        apply TW_look rfl (zab (by decide)) rfl
        ·intro r
         simp only [zan, eX, ↓reduceIte, Nat.reduceEqDiff]
         refine zak Try.underlying80 rfl hbA ldA ?_
         exact ⟨rfl, Le.refl _⟩
        simp only [eX, ↓reduceIte, Nat.reduceEqDiff, Int.reduceToNat]
        apply zay rfl (zab (by decide)) rfl
        ·intro r
         simp only [zah, fa120_0, zap, Nat.reduceAdd, Nat.zero_add, eX, ↓reduceIte, Nat.reduceEqDiff]
         exact ⟨rfl, Le.refl _⟩
        simp only [eX, ↓reduceIte, Nat.reduceEqDiff, Int.reduceToNat]
        apply TW_look rfl (zab (by decide)) rfl
        ·intro r
         simp only [zan, eX, ↓reduceIte, Nat.reduceEqDiff]
         refine zak Try.underlying3 rfl hbA (wt_at (d.wait.getD k default)) ?_
         exact ⟨rfl, Le.refl _⟩
        simp only [eX, ↓reduceIte, Nat.reduceEqDiff, Int.reduceToNat]
        apply TW_look rfl (zab (by decide)) rfl
        ·intro r
         simp only [zan, eX, ↓reduceIte, Nat.reduceEqDiff]
         refine zaN Try.underlying45 rfl sz45 hbA (by simp [Sec.h]) ?_
         exact ⟨rfl, Le.refl _⟩
        simp only [eX, ↓reduceIte, Nat.reduceEqDiff, Int.reduceToNat]
        refine TW_last rfl (zaJ) rfl (fun K hK r => ?_)
        simp only [x_mapUpdate, eX, ↓reduceIte, Nat.reduceEqDiff, Int.reduceToNat]
        refine Lt_mapUpdate Try.underlying80 Try.underlying3 hbA hi0 ?_
        intro es9 c9 h91 h92
        refine hK _ _ ?_; clear hK K
        refine TW_nil ?_
        try simp only [Ex.thnH, Ex.inBlockH, ↓reduceIte, Nat.reduceEqDiff]
        refine hK5 _ _ ?_; try clear hK5 K5
        refine zaa ?_
        refine zac (fun K hK r => ?_)
        simp (disch := (first | omega | decide)) only [zaF, zaH, b_add, zaw, zaE, zaD, zaQ, eX, ↓reduceIte, Nat.reduceEqDiff, Int.reduceToNat]
        refine hK _ _ ?_; clear hK K
        refine zam rfl ?_
        refine zae ?_
        try simp only [Ex.thnH, Ex.inBlockH, ↓reduceIte, Nat.reduceEqDiff]
        first
        |(refine ⟨d.wait.length - (k + 1), by omega, k + 1, es', c', by omega, rfl, ?_, hbA, ?_, rfl, rfl, rfl, rfl, rfl, trivial⟩
          ·rw [stN_none (by first | assumption | (simpa using c27))]; exact hms'
          ·exact fun z o hz hn => (show Le H_ _ from lhA) z o (hkp z o hz hn))
        |(refine ⟨d.wait.length - (k + 1), by omega, k + 1, es9, c9, by omega, rfl, ?_, zax _ _ _, ?_, rfl, rfl, rfl, rfl, rfl, trivial⟩
          ·rw [stN_some hkt]
           first
           |exact hms'.put h91 h92
           |(rw [torn_not _ _ _ htr]; exact hms'.put h91 h92)
          ·exact fun z o hz hn => (zaA _ _ hn).trans ((show Le H_ _ from lhA) z o (hkp z o hz hn)))
 ·first
  |(exfalso; exact cnA c16; done)
  |skip
   (try simp only [decide_eq_true_eq, decide_eq_false_iff_not, Bool.not_eq_true, Bool.not_eq_false, Bool.and_eq_true, Bool.or_eq_true, Bool.or_eq_false_iff, Bool.not_eq_eq_eq_not, Bool.not_true, Bool.not_false] at c16)
   have hkn : k = d.wait.length := by omega
   refine CW_exit ?_
   try simp only [Ex.thnH, Ex.inBlockH, ↓reduceIte, Nat.reduceEqDiff]
   refine hK1 _ _ ?_; try clear hK1 K1
   refine zaa ?_
   refine zam rfl ?_
   refine zac (fun K hK r => ?_)
   rw [zbh _ _ rfl]
   simp only [eX, ↓reduceIte, Nat.reduceEqDiff, Int.reduceToNat]
   refine hK _ _ ?_; clear hK K
   refine zac (fun K hK r => ?_)
   simp only [zah, fa83_2, zap, Nat.reduceAdd, Nat.zero_add, eX, ↓reduceIte, Nat.reduceEqDiff, Int.reduceToNat]
   refine hK _ _ ?_; clear hK K
   refine zbq rfl (zaJ) (fun K hK r => ?_)
   simp only [zaL, eX, ↓reduceIte, Nat.reduceEqDiff, Int.reduceToNat]
   refine zaY sz81 hbA bdA plA fzA ?_
   try simp only [setL0, setL1, setL2, setL3, setL4, setL5, setL6, setL7, setL8, setL9]
   try simp only [eX, ↓reduceIte, Nat.reduceEqDiff, Int.reduceToNat]
   refine hK _ _ ?_; clear hK K
   refine zae ?_
   try simp only [Ex.thnH, Ex.inBlockH, ↓reduceIte, Nat.reduceEqDiff]
   have es9 : MapS es' (stN kept d.wait d.sure d.wait.length) := hkn ▸ hms'
   have kmf : (H_.upd b (.cells #[.int .i64 d.size, .map (some mb), .slice none 0 0] 83)) mb = some (.map es' c') := (zaA _ _ (Ne.symm hbm)).trans km'
   refine ⟨[], trivial, _, Le.refl _, fun x => if x = b ∨ x = mb then (H_.upd b (.cells #[.int .i64 d.size, .map (some mb), .slice none 0 0] 83)) x else none, ⟨mb, es', c', .slice none 0 0, none, by simp [zax, Dv.settle], by simpa using kmf, es9, OwnS.nil _ _ _, fun x hx => ?_⟩, fun x o hx => ?_, fun x hx => ?_, fun x o hx hn => ?_⟩
   ·by_cases h : x = b ∨ x = mb
    ·exact h.imp id .inl
    ·simp [h] at hx
   ·by_cases h : x = b ∨ x = mb
    ·simpa [h] using hx
    ·simp [h] at hx
   ·by_cases h : x = b ∨ x = mb
    ·rcases h with rfl | rfl
     ·rw [hb0]; simp
     ·rw [hm0]; simp
    ·simp [h] at hx
   ·exact (zaA _ _ (fun e => by subst e; rw [hb0] at hn; cases hn)).trans (hkp x o hx (fun e => by subst e; rw [hm0] at hn; cases hn))
end Go.Proofs.Ytcjdkfhmlnfedaa.HL
end
section
namespace Go.Proofs.Ytcjdkfhmlnfedaa.HL
open Go Go.Proofs
set_option linter.unusedSimpArgs false
set_option linter.unusedVariables false
attribute [local irreducible] Lt Lq CW OW TW CallH
structure Kp where
  dev : Int
  n : Int
  tear : Int
deriving Inhabited, DecidableEq
abbrev Kp.c (k : Kp) : List Value := [.int .i64 k.dev, .int .i64 k.n, .int .i64 k.tear]
theorem Kp.len (k : Kp) : k.c.length = 3 := rfl
abbrev kps (l : List Kp) : List Value := l.flatMap Kp.c
def keepOf (l : List Kp) (dev n : Int) : Option Int := (l.find? (fun k => decide (k.dev = dev) && decide (k.n = n))).map Kp.tear
theorem find_at {α : Type} [Inhabited α] (P : α → Bool) : ∀ (l : List α) (k : Nat), k < l.length → P (l.getD k default) = true → (∀ j, j < k → P (l.getD j default) = false) → l.find? P = some (l.getD k default)
  | [], k, h, _, _ => absurd h (by simp)
  | x :: r, 0, _, h1, _ => by simp at h1 ⊢; simp [List.find?, h1]
  | x :: r, k + 1, h, h1, h2 => by
    have h0 : P x = false := h2 0 (by omega)
    simp only [List.find?, h0]
    rw [find_at P r k (by simpa using h) (by simpa using h1) (fun j hj => by simpa using h2 (j + 1) (by omega))]
    simp
theorem find_no {α : Type} [Inhabited α] (P : α → Bool) (l : List α) (h : ∀ j, j < l.length → P (l.getD j default) = false) : l.find? P = none := by
  rw [List.find?_eq_none]
  intro x hx
  obtain ⟨j, hj, rfl⟩ := List.mem_iff_getElem.1 hx
  have := h j hj
  rw [List.getD_eq_getElem?_getD, List.getElem?_eq_getElem hj] at this
  simpa using this
def St.crK (s : St) (l : List Kp) (k : Nat) : St := { s with dv := s.dv.mapIdx (fun i d => if i < k then d.settle (fun n => keepOf l i n) else d) }
def St.cr (s : St) (l : List Kp) : St := { s with armed := false, gone := false, dv := s.dv.mapIdx (fun i d => d.settle (fun n => keepOf l i n)) }
theorem St.crK_len (s : St) (l : List Kp) (k : Nat) : (s.crK l k).dv.length = s.dv.length := by simp [St.crK]
theorem St.crK_at (s : St) (l : List Kp) (k : Nat) (hk : k < s.dv.length) : (s.crK l k).dv.getD k default = s.dv.getD k default := by
  simp [St.crK, List.getD_eq_getElem?_getD, List.getElem?_mapIdx, List.getElem?_eq_getElem hk]
theorem St.crK_zero (s : St) (l : List Kp) : s.crK l 0 = s := by
  have : s.dv.mapIdx (fun i d => if i < 0 then d.settle (fun n => keepOf l i n) else d) = s.dv := by
    apply List.ext_getElem?
    intro i; rw [List.getElem?_mapIdx]; cases s.dv[i]? <;> simp
  cases s; simp only [St.crK] at this ⊢; rw [this]
theorem St.crK_next (s : St) (l : List Kp) (k : Nat) (hk : k < s.dv.length) : (s.crK l (k + 1)).dv = (s.crK l k).dv.set k ((s.dv.getD k default).settle (fun n => keepOf l k n)) := by
  apply List.ext_getElem?
  intro i
  by_cases e : i = k
  · subst e
    rw [List.getElem?_set_self (by rw [St.crK_len]; exact hk)]
    simp [St.crK, List.getElem?_mapIdx, List.getD_eq_getElem?_getD, List.getElem?_eq_getElem hk]
  · rw [List.getElem?_set_ne (Ne.symm e)]
    simp only [St.crK, List.getElem?_mapIdx]
    cases s.dv[i]? with
    | none => rfl
    | some d =>
      simp only [Option.map_some]
      by_cases h : i < k
      · rw [if_pos h, if_pos (by omega)]
      · rw [if_neg h, if_neg (by omega)]
theorem St.crK_all (s : St) (l : List Kp) : (s.crK l s.dv.length).dv = (s.cr l).dv := by
  apply List.ext_getElem?
  intro i
  simp only [St.crK, St.cr, List.getElem?_mapIdx]
  rcases Nat.lt_or_ge i s.dv.length with h | h
  · rw [List.getElem?_eq_getElem h]; simp [h]
  · rw [List.getElem?_eq_none h]; rfl
set_option maxRecDepth 100000 in
set_option maxHeartbeats 1000000 in
theorem crash11_ok (H : Hp) (bd bn : Nat) (dev n : Int) (k : Kp) (hd : H bd = some (.cells #[.int .i64 dev] 3)) (hn : H bn = some (.cells #[.int .i64 n] 3)) : CallH Try.prog 45 #[.agg k.c.toArray, .pointer (some ⟨bd, 0, none⟩), .pointer (some ⟨bn, 0, none⟩)] H (fun v H' => v = .bool (decide (k.dev = dev) && decide (k.n = n)) ∧ H' = H) := by
 refine zaB (l := [_, _, _]) (rl := [.tmp 4]) (n := 15) Try.func45 rfl rfl rfl rfl rfl ?_
 simp only [envOf, Nat.reduceAdd]
 refine zad (fun K1 hK1 => ?_)
 refine zaa ?_
 refine zac (fun K hK r => ?_)
 simp only [x_box, Value.cells, eX, ↓reduceIte, Nat.reduceEqDiff, Int.reduceToNat]
 intro b3 hb3
 try have n3_bd : bd ≠ b3 := zai hbA hb3
 try have n3_bn : bn ≠ b3 := zai hbA hb3
 have f3_H : H b3 = none := zaj lhA hb3
 try simp only [eX, ↓reduceIte, Nat.reduceEqDiff, Int.reduceToNat]
 refine hK _ _ ?_; clear hK K
 refine zao rfl ?_
 refine zae ?_
 try simp only [Ex.thnH, Ex.inBlockH, ↓reduceIte, Nat.reduceEqDiff]
 refine hK1 _ _ ?_; try clear hK1 K1
 refine zad (fun K2 hK2 => ?_)
 refine zaa ?_
 refine zac (fun K hK r => ?_)
 simp only [zah, fa110_0, zap, Nat.reduceAdd, Nat.zero_add, eX, ↓reduceIte, Nat.reduceEqDiff, Int.reduceToNat]
 refine hK _ _ ?_; clear hK K
 refine zac (fun K hK r => ?_)
 simp only [zan, eX, ↓reduceIte, Nat.reduceEqDiff, Int.reduceToNat]
 refine zak Try.underlying3 rfl hbA ldA ?_
 try simp only [eX, ↓reduceIte, Nat.reduceEqDiff, Int.reduceToNat]
 refine hK _ _ ?_; clear hK K
 refine zac (fun K hK r => ?_)
 simp only [zan, eX, ↓reduceIte, Nat.reduceEqDiff, Int.reduceToNat]
 refine zak Try.underlying3 rfl hbA ldA ?_
 try simp only [eX, ↓reduceIte, Nat.reduceEqDiff, Int.reduceToNat]
 refine hK _ _ ?_; clear hK K
 refine zac (fun K hK r => ?_)
 simp (disch := (first | omega | decide)) only [zaF, zaH, b_eql, zaq, zar, zat, zau, zas, zav, Bool.not_true, Bool.not_false, eX, ↓reduceIte, Nat.reduceEqDiff, Int.reduceToNat]
 refine hK _ _ ?_; clear hK K
 refine zam rfl ?_
 (first | refine zbc (d := 9) rfl (fun g9 => ?_) (fun g9 => ?_) | skip)
 all_goals try (exfalso; exact cnA g9)
 all_goals (try simp only [decide_eq_true_eq, decide_eq_false_iff_not, Bool.not_eq_true, Bool.not_eq_false, Bool.and_eq_true, Bool.or_eq_true, Bool.or_eq_false_iff, Bool.not_eq_eq_eq_not, Bool.not_true, Bool.not_false] at g9)
 all_goals
  try simp only [eX, ↓reduceIte, Nat.reduceEqDiff, Int.reduceToNat]
  first
  |refine zaf rfl (zab (by decide)) rfl (fun K hK r => ?_)
   simp only [zah, fa110_1, zap, Nat.reduceAdd, Nat.zero_add, eX, ↓reduceIte, Nat.reduceEqDiff, Int.reduceToNat]
   refine hK _ _ ?_; clear hK K
  |refine zag rfl (zab (by decide)) rfl ?_
   simp only [eX, ↓reduceIte, Nat.reduceEqDiff, Int.reduceToNat]
  first
  |refine zaf rfl (zab (by decide)) rfl (fun K hK r => ?_)
   simp only [zan, eX, ↓reduceIte, Nat.reduceEqDiff, Int.reduceToNat]
   refine zak Try.underlying3 rfl hbA ldA ?_
   try simp only [eX, ↓reduceIte, Nat.reduceEqDiff, Int.reduceToNat]
   refine hK _ _ ?_; clear hK K
  |refine zag rfl (zab (by decide)) rfl ?_
   simp only [eX, ↓reduceIte, Nat.reduceEqDiff, Int.reduceToNat]
  first
  |refine zaf rfl (zab (by decide)) rfl (fun K hK r => ?_)
   simp only [zan, eX, ↓reduceIte, Nat.reduceEqDiff, Int.reduceToNat]
   refine zak Try.underlying3 rfl hbA ldA ?_
   try simp only [eX, ↓reduceIte, Nat.reduceEqDiff, Int.reduceToNat]
   refine hK _ _ ?_; clear hK K
  |refine zag rfl (zab (by decide)) rfl ?_
   simp only [eX, ↓reduceIte, Nat.reduceEqDiff, Int.reduceToNat]
  first
  |refine zaf rfl (zab (by decide)) rfl (fun K hK r => ?_)
   simp (disch := (first | omega | decide)) only [zaF, zaH, b_eql, zaq, zar, zat, zau, zas, zav, Bool.not_true, Bool.not_false, eX, ↓reduceIte, Nat.reduceEqDiff, Int.reduceToNat]
   refine hK _ _ ?_; clear hK K
  |refine zag rfl (zab (by decide)) rfl ?_
   simp only [eX, ↓reduceIte, Nat.reduceEqDiff, Int.reduceToNat]
  refine zac (fun K hK r => ?_)
  simp only [zbp, zaZ, HL.ite_bool, if_true, if_false, Bool.false_eq_true, eX, ↓reduceIte, Nat.reduceEqDiff, Int.reduceToNat]
  refine hK _ _ ?_; clear hK K
  refine zao rfl ?_
  refine zae ?_
  try simp only [Ex.thnH, Ex.inBlockH, ↓reduceIte, Nat.reduceEqDiff]
  refine hK2 _ _ ?_; try clear hK2 K2
  refine zaR ?_
  try simp only [Ex.thnH, Ex.inBlockH, ↓reduceIte, Nat.reduceEqDiff]
  refine ⟨[_], ⟨rfl, trivial⟩, H, lhA, ?_, rfl⟩
  show Value.bool _ = _
  congr 1
  by_cases hdd : k.dev = dev <;> simp_all
set_option maxRecDepth 100000 in
set_option maxHeartbeats 1000000 in
theorem index_ok (H : Hp) (a : Option Addr) (cap : Nat) (l : List Kp) (hv : Holds H 3 (.slice a l.length cap) l.length (kps l)) (gf : Fn) (ga gb : Array Value) (P : Kp → Bool) (hP : ∀ k, ValH Try.prog (.func gf ga gb) #[.agg k.c.toArray] H (fun v H' => v = .bool (P k) ∧ H' = H)) (hl : l.length ≤ 1000) :
 CallH Try.prog 44 #[.slice a l.length cap, .func gf ga gb] H (fun v H' => H' = H ∧ ∃ ix : Int, v = .int .i64 ix ∧ ((∃ k : Nat, k < l.length ∧ ix = (k : Int) ∧ P (l.getD k default) = true ∧ ∀ j, j < k → P (l.getD j default) = false) ∨ (ix = -1 ∧ ∀ j, j < l.length → P (l.getD j default) = false))) := by
 refine zaB (l := [_, _]) (rl := [.tmp 4]) (n := 19) Try.func44 rfl rfl rfl rfl rfl ?_
 simp only [envOf, Nat.reduceAdd]
 refine zad (fun K1 hK1 => ?_)
 refine zaa ?_
 refine zao rfl ?_
 refine zae ?_
 try simp only [Ex.thnH, Ex.inBlockH, ↓reduceIte, Nat.reduceEqDiff]
 refine hK1 _ _ ?_; try clear hK1 K1
 refine zad (fun K2 hK2 => ?_)
 refine zad (fun K3 hK3 => ?_)
 refine zaa ?_
 refine zam rfl ?_
 refine zac (fun K hK r => ?_)
 simp only [zaM, l_len, List.map_toArray, List.map_cons, List.map_nil, zaS _ _ Try.underlying54, eX, ↓reduceIte, Nat.reduceEqDiff, Int.reduceToNat]
 refine hK _ _ ?_; clear hK K
 refine zam rfl ?_
 refine zae ?_
 try simp only [Ex.thnH, Ex.inBlockH, ↓reduceIte, Nat.reduceEqDiff]
 refine hK3 _ _ ?_; try clear hK3 K3
 refine zaV ?_
 refine CW_loop (fun m e H_ => ∃ k : Nat, k ≤ l.length ∧ m = l.length - k ∧ (∀ j, j < k → P (l.getD j default) = false) ∧ H_ = H ∧ Env.has [(0, .slice a l.length cap), (1, .func gf ga gb), (7, .int .i64 l.length), (8, .int .i64 k)] e) (l.length) ?_ ?_
 ·skip
  exact ⟨0, by omega, by omega, (fun j hj => absurd hj (by omega)), rfl, rfl, rfl, rfl, rfl, trivial⟩
 intro m_ e_ H_ hI_
 obtain ⟨k, hk, rfl, hno, hH_, he⟩ := hI_
 have hH_ := hH_.symm; subst hH_
 refine CW_env he.sub ?_; clear he e_
 refine zad (fun K4 hK4 => ?_)
 refine zaa ?_
 refine zac (fun K hK r => ?_)
 simp (disch := (first | omega | decide)) only [zaF, zaH, b_lss, zaq, zar, zat, zau, zas, zav, Bool.not_true, Bool.not_false, eX, ↓reduceIte, Nat.reduceEqDiff, Int.reduceToNat]
 refine hK _ _ ?_; clear hK K
 refine zae ?_
 try simp only [Ex.thnH, Ex.inBlockH, ↓reduceIte, Nat.reduceEqDiff]
 refine hK4 _ _ ?_; try clear hK4 K4
 refine zad (fun K5 hK5 => ?_)
 refine zaG (fun r => rfl) (fun c9 => ?_) (fun c9 => ?_)
 ·first
  |(exfalso; exact cnA c9; done)
  |skip
   (try simp only [decide_eq_true_eq, decide_eq_false_iff_not, Bool.not_eq_true, Bool.not_eq_false, Bool.and_eq_true, Bool.or_eq_true, Bool.or_eq_false_iff, Bool.not_eq_eq_eq_not, Bool.not_true, Bool.not_false] at c9)
   obtain ⟨bw, ow, cw, Tw, Fw, ew, hbw, hsw, atw⟩ := hv.at (by omega)
   refine zaO ?_
   try simp only [Ex.thnH, Ex.inBlockH, ↓reduceIte, Nat.reduceEqDiff]
   refine hK5 _ _ ?_; try clear hK5 K5
   refine zad (fun K6 hK6 => ?_)
   refine zaV ?_
   refine zad (fun K7 hK7 => ?_)
   refine zaa ?_
   refine zam rfl ?_
   refine zao rfl ?_
   refine zae ?_
   try simp only [Ex.thnH, Ex.inBlockH, ↓reduceIte, Nat.reduceEqDiff]
   refine hK7 _ _ ?_; try clear hK7 K7
   refine zad (fun K8 hK8 => ?_)
   refine zaa ?_
   refine zam rfl ?_
   refine zam rfl ?_
   refine zam rfl ?_
   refine zac (fun K hK r => ?_)
   simp only [zaK, eX, ↓reduceIte, Nat.reduceEqDiff, Int.reduceToNat]
   refine zbi Try.underlying54 sz110 ew ixA ixA ?_
   try simp only [Int.toNat_natCast]
   refine hK _ _ ?_; clear hK K
   refine zac (fun K hK r => ?_)
   simp only [zan, eX, ↓reduceIte, Nat.reduceEqDiff, Int.reduceToNat]
   refine zaC Try.underlying110 rfl sz110 hbw (by omega) ?_
   rw [ext_at Kp.len atw rfl k (by omega) hsw]
   refine hK _ _ ?_; clear hK K
   refine zac (fun K hK r => ?_)
   simp only [x_call, List.map_toArray, List.map_cons, List.map_nil, eX, ↓reduceIte, Nat.reduceEqDiff, Int.reduceToNat]
   show ValH _ _ _ _ _
   refine (hP (l.getD k default)).mono ?_
   rintro v H' ⟨rfl, hq⟩
   have hq := hq.symm
   subst hq
   try simp only [eX, ↓reduceIte, Nat.reduceEqDiff, Int.reduceToNat]
   refine hK _ _ ?_; clear hK K
   refine zae ?_
   try simp only [Ex.thnH, Ex.inBlockH, ↓reduceIte, Nat.reduceEqDiff]
   refine hK8 _ _ ?_; try clear hK8 K8
   refine zaG (fun r => rfl) (fun c16 => ?_) (fun c16 => ?_)
   ·first
    |(exfalso; exact cnA c16; done)
    |skip
     (try simp only [decide_eq_true_eq, decide_eq_false_iff_not, Bool.not_eq_true, Bool.not_eq_false, Bool.and_eq_true, Bool.or_eq_true, Bool.or_eq_false_iff, Bool.not_eq_eq_eq_not, Bool.not_true, Bool.not_false] at c16)
     refine zad (fun K9 hK9 => ?_)
     refine zaa ?_
     refine zam rfl ?_
     refine zao rfl ?_
     refine zae ?_
     try simp only [Ex.thnH, Ex.inBlockH, ↓reduceIte, Nat.reduceEqDiff]
     refine hK9 _ _ ?_; try clear hK9 K9
     refine zaR ?_
     try simp only [Ex.thnH, Ex.inBlockH, ↓reduceIte, Nat.reduceEqDiff]
     exact ⟨[_], ⟨rfl, trivial⟩, _, Le.refl _, rfl, _, rfl, .inl ⟨k, by omega, rfl, c16, hno⟩⟩
   ·first
    |(exfalso; exact cnA c16; done)
    |skip
     (try simp only [decide_eq_true_eq, decide_eq_false_iff_not, Bool.not_eq_true, Bool.not_eq_false, Bool.and_eq_true, Bool.or_eq_true, Bool.or_eq_false_iff, Bool.not_eq_eq_eq_not, Bool.not_true, Bool.not_false] at c16)
     refine zaO ?_
     try simp only [Ex.thnH, Ex.inBlockH, ↓reduceIte, Nat.reduceEqDiff]
     refine hK6 _ _ ?_; try clear hK6 K6
     refine zaa ?_
     refine zac (fun K hK r => ?_)
     simp (disch := (first | omega | decide)) only [zaF, zaH, b_add, zaw, zaE, zaD, zaQ, eX, ↓reduceIte, Nat.reduceEqDiff, Int.reduceToNat]
     refine hK _ _ ?_; clear hK K
     refine zam rfl ?_
     refine zae ?_
     try simp only [Ex.thnH, Ex.inBlockH, ↓reduceIte, Nat.reduceEqDiff]
     refine ⟨l.length - (k + 1), by omega, k + 1, by omega, rfl, (fun j hj => ?_), rfA, rfl, rfl, rfl, rfl, trivial⟩
     by_cases e : j = k
     ·subst e; exact c16
     ·exact hno j (by omega)
 ·first
  |(exfalso; exact cnA c9; done)
  |skip
   (try simp only [decide_eq_true_eq, decide_eq_false_iff_not, Bool.not_eq_true, Bool.not_eq_false, Bool.and_eq_true, Bool.or_eq_true, Bool.or_eq_false_iff, Bool.not_eq_eq_eq_not, Bool.not_true, Bool.not_false] at c9)
   have hkn : k = l.length := by omega
   refine CW_exit ?_
   try simp only [Ex.thnH, Ex.inBlockH, ↓reduceIte, Nat.reduceEqDiff]
   refine hK2 _ _ ?_; try clear hK2 K2
   refine zad (fun K10 hK10 => ?_)
   refine zaa ?_
   refine zao rfl ?_
   refine zae ?_
   try simp only [Ex.thnH, Ex.inBlockH, ↓reduceIte, Nat.reduceEqDiff]
   refine hK10 _ _ ?_; try clear hK10 K10
   refine zaR ?_
   try simp only [Ex.thnH, Ex.inBlockH, ↓reduceIte, Nat.reduceEqDiff]
   subst hkn
   exact ⟨[_], ⟨rfl, trivial⟩, _, Le.refl _, rfl, _, rfl, .inr ⟨rfl, hno⟩⟩
set_option maxRecDepth 100000 in
set_option maxHeartbeats 1000000 in
theorem crash1_ok (H : Hp) (kc bd : Nat) (a : Option Addr) (cap : Nat) (l : List Kp) (dev : Int) (n : Int) (hkc : H kc = some (.cells #[.slice a l.length cap] 54)) (hbd : H bd = some (.cells #[.int .i64 dev] 3)) (hv : Holds H 3 (.slice a l.length cap) l.length (kps l)) (hl : l.length ≤ 1000) :
 CallH Try.prog 43 #[.int .i64 n, .pointer (some ⟨kc, 0, none⟩), .pointer (some ⟨bd, 0, none⟩)] H (fun v H' => v = .tuple #[.int .i64 ((keepOf l dev n).getD 0), .bool (keepOf l dev n).isSome] ∧ H' = H) := by
 refine zaB (l := [_, _, _]) (rl := [.tmp 4, .tmp 5]) (n := 17) Try.func43 rfl rfl rfl rfl rfl ?_
 simp only [envOf, Nat.reduceAdd]
 refine zad (fun K1 hK1 => ?_)
 refine zaa ?_
 refine zac (fun K hK r => ?_)
 simp only [x_box, Value.cells, eX, ↓reduceIte, Nat.reduceEqDiff, Int.reduceToNat]
 intro b3 hb3
 try have n3_kc : kc ≠ b3 := zai hbA hb3
 try have n3_bd : bd ≠ b3 := zai hbA hb3
 have f3_H : H b3 = none := zaj lhA hb3
 try simp only [eX, ↓reduceIte, Nat.reduceEqDiff, Int.reduceToNat]
 refine hK _ _ ?_; clear hK K
 refine zao rfl ?_
 refine zao rfl ?_
 refine zae ?_
 try simp only [Ex.thnH, Ex.inBlockH, ↓reduceIte, Nat.reduceEqDiff]
 refine hK1 _ _ ?_; try clear hK1 K1
 refine zad (fun K2 hK2 => ?_)
 refine zaa ?_
 refine zac (fun K hK r => ?_)
 simp only [zan, eX, ↓reduceIte, Nat.reduceEqDiff, Int.reduceToNat]
 refine zak Try.underlying54 rfl hbA ldA ?_
 try simp only [eX, ↓reduceIte, Nat.reduceEqDiff, Int.reduceToNat]
 refine hK _ _ ?_; clear hK K
 refine zac (fun K hK r => ?_)
 simp only [x_makeFunc, List.map_toArray, List.map_cons, List.map_nil, eX, ↓reduceIte, Nat.reduceEqDiff, Int.reduceToNat]
 refine hK _ _ ?_; clear hK K
 refine zac (fun K hK r => ?_)
 simp only [zaT _ bd44, List.map_toArray, List.map_cons, List.map_nil, eX, ↓reduceIte, Nat.reduceEqDiff, Int.reduceToNat]
 refine (index_ok _ a cap l (hv.le lhA) _ _ _ (fun k => decide (k.dev = dev) && decide (k.n = n)) (fun k => ValH_func bd45 (crash11_ok _ bd b3 dev n k hbA hbA)) hl).mono ?_
 rintro v9 H' ⟨hq, ix, rfl, hix⟩
 have hq := hq.symm
 subst hq
 try simp only [eX, ↓reduceIte, Nat.reduceEqDiff, Int.reduceToNat]
 refine hK _ _ ?_; clear hK K
 refine zao rfl ?_
 refine zae ?_
 try simp only [Ex.thnH, Ex.inBlockH, ↓reduceIte, Nat.reduceEqDiff]
 refine hK2 _ _ ?_; try clear hK2 K2
 refine zad (fun K3 hK3 => ?_)
 refine zad (fun K4 hK4 => ?_)
 refine zaa ?_
 refine zam rfl ?_
 refine zac (fun K hK r => ?_)
 simp (disch := (first | omega | decide)) only [zaF, zaH, b_lss, zaq, zar, zat, zau, zas, zav, Bool.not_true, Bool.not_false, eX, ↓reduceIte, Nat.reduceEqDiff, Int.reduceToNat]
 refine hK _ _ ?_; clear hK K
 refine zae ?_
 try simp only [Ex.thnH, Ex.inBlockH, ↓reduceIte, Nat.reduceEqDiff]
 refine hK4 _ _ ?_; try clear hK4 K4
 refine zaG (fun r => rfl) (fun c11 => ?_) (fun c11 => ?_)
 ·first
  |(exfalso; exact cnA c11; done)
  |skip
   (try simp only [decide_eq_true_eq, decide_eq_false_iff_not, Bool.not_eq_true, Bool.not_eq_false, Bool.and_eq_true, Bool.or_eq_true, Bool.or_eq_false_iff, Bool.not_eq_eq_eq_not, Bool.not_true, Bool.not_false] at c11)
   have hko : keepOf l dev n = none := by
    rcases hix with ⟨k, hk, rfl, hy, hno⟩ | ⟨rfl, hno⟩
    ·omega
    ·unfold keepOf; rw [find_no _ _ hno]; rfl
   refine zad (fun K5 hK5 => ?_)
   refine zaa ?_
   refine zao rfl ?_
   refine zao rfl ?_
   refine zae ?_
   try simp only [Ex.thnH, Ex.inBlockH, ↓reduceIte, Nat.reduceEqDiff]
   refine hK5 _ _ ?_; try clear hK5 K5
   refine zaR ?_
   try simp only [Ex.thnH, Ex.inBlockH, ↓reduceIte, Nat.reduceEqDiff]
   rw [hko]
   exact ⟨[_, _], ⟨rfl, rfl, trivial⟩, H, lhA, rfl, rfl⟩
 ·first
  |(exfalso; exact cnA c11; done)
  |skip
   (try simp only [decide_eq_true_eq, decide_eq_false_iff_not, Bool.not_eq_true, Bool.not_eq_false, Bool.and_eq_true, Bool.or_eq_true, Bool.or_eq_false_iff, Bool.not_eq_eq_eq_not, Bool.not_true, Bool.not_false] at c11)
   obtain ⟨k, hk, rfl, hy, hno⟩ : ∃ k : Nat, k < l.length ∧ ix = (k : Int) ∧ (fun k : Kp => decide (k.dev = dev) && decide (k.n = n)) (l.getD k default) = true ∧ ∀ j, j < k → (fun k : Kp => decide (k.dev = dev) && decide (k.n = n)) (l.getD j default) = false := by
    rcases hix with h | ⟨rfl, _⟩
    ·exact h
    ·omega
   have hko : keepOf l dev n = some (l.getD k default).tear := by unfold keepOf; rw [find_at _ _ k hk hy hno]; rfl
   obtain ⟨bw, ow, cw, Tw, Fw, ew, hbw, hsw, atw⟩ := hv.at (by omega)
   refine zaO ?_
   try simp only [Ex.thnH, Ex.inBlockH, ↓reduceIte, Nat.reduceEqDiff]
   refine hK3 _ _ ?_; try clear hK3 K3
   refine zad (fun K6 hK6 => ?_)
   refine zaa ?_
   refine zac (fun K hK r => ?_)
   simp only [zan, eX, ↓reduceIte, Nat.reduceEqDiff, Int.reduceToNat]
   refine zak Try.underlying54 rfl hbA ldA ?_
   try simp only [eX, ↓reduceIte, Nat.reduceEqDiff, Int.reduceToNat]
   refine hK _ _ ?_; clear hK K
   refine zam rfl ?_
   refine zac (fun K hK r => ?_)
   simp only [zaK, eX, ↓reduceIte, Nat.reduceEqDiff, Int.reduceToNat]
   refine zbi Try.underlying54 sz110 ew ixA ixA ?_
   try simp only [Int.toNat_natCast]
   refine hK _ _ ?_; clear hK K
   refine zac (fun K hK r => ?_)
   simp only [zah, fa110_2, zap, Nat.reduceAdd, Nat.zero_add, eX, ↓reduceIte, Nat.reduceEqDiff, Int.reduceToNat]
   refine hK _ _ ?_; clear hK K
   refine zac (fun K hK r => ?_)
   simp only [zan, eX, ↓reduceIte, Nat.reduceEqDiff, Int.reduceToNat]
   refine zak Try.underlying3 rfl ((zaA _ _ (zai hbw f3_H)).trans hbw) (v := .int .i64 (l.getD k default).tear) (by first | exact cell_at Kp.len atw rfl k hk 2 (by decide) | (rw [cell_at Kp.len atw rfl k hk 2 (by decide)]; rfl)) ?_
   refine hK _ _ ?_; clear hK K
   refine zao rfl ?_
   refine zao rfl ?_
   refine zae ?_
   try simp only [Ex.thnH, Ex.inBlockH, ↓reduceIte, Nat.reduceEqDiff]
   refine hK6 _ _ ?_; try clear hK6 K6
   refine zaR ?_
   try simp only [Ex.thnH, Ex.inBlockH, ↓reduceIte, Nat.reduceEqDiff]
   rw [hko]
   exact ⟨[_, _], ⟨rfl, rfl, trivial⟩, H, lhA, rfl, rfl⟩
end Go.Proofs.Ytcjdkfhmlnfedaa.HL
end
section
namespace Go.Proofs.Ytcjdkfhmlnfedaa.HL
open Go Go.Proofs
set_option linter.unusedSimpArgs false
set_option linter.unusedVariables false
attribute [local irreducible] Lt Lq CW OW TW CallH
set_option maxRecDepth 100000 in
set_option maxHeartbeats 8000000 in
theorem crash_ok (H : Hp) (p : Nat) (s : St) (rd cap : Nat) (bs : List Nat) (Fs : Nat → Hp) (h : SX H p s rd cap bs Fs) (hl : s.dv.length ≤ 1000) (hw : ∀ i, (s.dv.getD i default).wait.length ≤ 1000000) (G : Hp) (hG : Le G H) (hGp : G p = none) (hGd : ∀ i, i < s.dv.length → ∀ x, Fs i x ≠ none → G x = none) (a : Option Addr) (kcap : Nat) (l : List Kp) (hkv : Holds G 3 (.slice a l.length kcap) l.length (kps l)) (hkl : l.length ≤ 1000) : CallH Try.prog 17 #[(.pointer (some ⟨p, 0, none⟩)), .slice a l.length kcap] H (fun v H' => SetX H' p (s.cr l)) := by
 refine zaB (l := [_, _]) (rl := []) (n := 30) Try.func17 rfl rfl rfl rfl rfl ?_
 simp only [envOf, Nat.reduceAdd]
 refine zad (fun K1 hK1 => ?_)
 refine zaa ?_
 refine zac (fun K hK r => ?_)
 simp only [x_box, Value.cells, eX, ↓reduceIte, Nat.reduceEqDiff, Int.reduceToNat]
 intro b3 hb3
 have hpb3 : p ≠ b3 := zai h.hd hb3
 have hG3 : G b3 = none := zaj hG hb3
 have h3 := h.mono (le_upd H b3 (.cells #[.slice a l.length kcap] 54) hb3)
 have h3p := h3.hd
 have hF3 : ∀ i, i < s.dv.length → Fs i b3 = none := fun i hi => zaj (h.le i hi) hb3
 try simp only [eX, ↓reduceIte, Nat.reduceEqDiff, Int.reduceToNat]
 refine hK _ _ ?_; clear hK K
 refine zae ?_
 try simp only [Ex.thnH, Ex.inBlockH, ↓reduceIte, Nat.reduceEqDiff]
 refine hK1 _ _ ?_; try clear hK1 K1
 refine zad (fun K2 hK2 => ?_)
 refine zad (fun K3 hK3 => ?_)
 refine zaa ?_
 refine zam rfl ?_
 refine zac (fun K hK r => ?_)
 simp only [zaF, zaH, g_bool, zbo, zbk, g_slice, g_map, g_func, zbl, g_iface, zbe, g_nil_r, g_nil_l, eX, ↓reduceIte, Nat.reduceEqDiff, Int.reduceToNat]
 rw [e_eql _ _ _ _ (by simp)]
 rw [q_equal]
 first | rw [q_ptr_nil _ _ _ Try.underlying31] | rw [q_nil_ptr _ _ _ Try.underlying31]
 try simp only [eX, ↓reduceIte, Nat.reduceEqDiff, Int.reduceToNat]
 refine hK _ _ ?_; clear hK K
 refine zae ?_
 try simp only [Ex.thnH, Ex.inBlockH, ↓reduceIte, Nat.reduceEqDiff]
 refine hK3 _ _ ?_; try clear hK3 K3
 refine zaG (fun r => rfl) (fun c7 => ?_) (fun c7 => ?_)
 ·first
  |(exfalso; exact cnA c7; done)
  |skip
   (try simp only [decide_eq_true_eq, decide_eq_false_iff_not, Bool.not_eq_true, Bool.not_eq_false, Bool.and_eq_true, Bool.or_eq_true, Bool.or_eq_false_iff, Bool.not_eq_eq_eq_not, Bool.not_true, Bool.not_false] at c7)
   refine zaR ?_
   try simp only [Ex.thnH, Ex.inBlockH, ↓reduceIte, Nat.reduceEqDiff]
   skip
 ·first
  |(exfalso; exact cnA c7; done)
  |skip
   (try simp only [decide_eq_true_eq, decide_eq_false_iff_not, Bool.not_eq_true, Bool.not_eq_false, Bool.and_eq_true, Bool.or_eq_true, Bool.or_eq_false_iff, Bool.not_eq_eq_eq_not, Bool.not_true, Bool.not_false] at c7)
   refine zaO ?_
   try simp only [Ex.thnH, Ex.inBlockH, ↓reduceIte, Nat.reduceEqDiff]
   refine hK2 _ _ ?_; try clear hK2 K2
   refine zad (fun K4 hK4 => ?_)
   refine zad (fun K5 hK5 => ?_)
   refine zaa ?_
   refine zam rfl ?_
   refine zac (fun K hK r => ?_)
   rw [zbh _ _ rfl]
   simp only [eX, ↓reduceIte, Nat.reduceEqDiff, Int.reduceToNat]
   refine hK _ _ ?_; clear hK K
   refine zac (fun K hK r => ?_)
   simp only [zah, fa78_1, zap, Nat.reduceAdd, Nat.zero_add, eX, ↓reduceIte, Nat.reduceEqDiff, Int.reduceToNat]
   refine hK _ _ ?_; clear hK K
   refine zac (fun K hK r => ?_)
   simp only [zan, eX, ↓reduceIte, Nat.reduceEqDiff, Int.reduceToNat]
   refine zak Try.underlying76 rfl hbA ldA ?_
   try simp only [eX, ↓reduceIte, Nat.reduceEqDiff, Int.reduceToNat]
   refine hK _ _ ?_; clear hK K
   refine zac (fun K hK r => ?_)
   simp only [zaM, l_len, List.map_toArray, List.map_cons, List.map_nil, zaS _ _ Try.underlying76, eX, ↓reduceIte, Nat.reduceEqDiff, Int.reduceToNat]
   refine hK _ _ ?_; clear hK K
   refine zam rfl ?_
   refine zae ?_
   try simp only [Ex.thnH, Ex.inBlockH, ↓reduceIte, Nat.reduceEqDiff]
   refine hK5 _ _ ?_; try clear hK5 K5
   refine zaV ?_
   refine CW_loop (fun m e H_ => ∃ (k : Nat) (Fk : Nat → Hp), k ≤ s.dv.length ∧ m = s.dv.length - k ∧ SX H_ p (s.crK l k) rd cap bs Fk ∧ (∀ i, i < s.dv.length → ∀ x, Fk i x ≠ none → (G.upd b3 (.cells #[.slice a l.length kcap] 54)) x = none) ∧ Le (G.upd b3 (.cells #[.slice a l.length kcap] 54)) H_ ∧ Env.has [(0, (.pointer (some ⟨p, 0, none⟩))), (3, .pointer (some ⟨b3, 0, none⟩)), (11, .slice (some ⟨rd, 0, none⟩) s.dv.length cap), (12, .int .i64 s.dv.length), (13, .int .i64 k)] e) (s.dv.length) ?_ ?_
   ·skip
    refine ⟨0, Fs, by omega, by omega, by rw [St.crK_zero]; exact h3, (fun i hi x hx => ?_), ?_, rfl, rfl, rfl, rfl, rfl, trivial⟩
    ·rw [zaA _ _ (fun e => by subst e; exact hx (hF3 i hi))]; exact hGd i hi x hx
    ·exact le_put (Le.trans hG (le_upd _ _ _ hb3)) (zax _ _ _)
   intro m_ e_ H_ hI_
   obtain ⟨k, Fk, hk, rfl, hS, hap, hleG, he⟩ := hI_
   refine CW_env he.sub ?_; clear he e_
   have hk3 := hleG b3 _ (zax _ _ _)
   refine zad (fun K6 hK6 => ?_)
   refine zaa ?_
   refine zac (fun K hK r => ?_)
   simp (disch := (first | omega | decide)) only [zaF, zaH, b_lss, zaq, zar, zat, zau, zas, zav, Bool.not_true, Bool.not_false, eX, ↓reduceIte, Nat.reduceEqDiff, Int.reduceToNat]
   refine hK _ _ ?_; clear hK K
   refine zae ?_
   try simp only [Ex.thnH, Ex.inBlockH, ↓reduceIte, Nat.reduceEqDiff]
   refine hK6 _ _ ?_; try clear hK6 K6
   refine zad (fun K7 hK7 => ?_)
   refine zaG (fun r => rfl) (fun c14 => ?_) (fun c14 => ?_)
   ·first
    |(exfalso; exact cnA c14; done)
    |skip
     (try simp only [decide_eq_true_eq, decide_eq_false_iff_not, Bool.not_eq_true, Bool.not_eq_false, Bool.and_eq_true, Bool.or_eq_true, Bool.or_eq_false_iff, Bool.not_eq_eq_eq_not, Bool.not_true, Bool.not_false] at c14)
     have hks : k < s.dv.length := by omega
     obtain ⟨cc, T, f, hr, hat, hlt⟩ := hS.at (k := k) (by rw [St.crK_len]; exact hks)
     refine zaO ?_
     try simp only [Ex.thnH, Ex.inBlockH, ↓reduceIte, Nat.reduceEqDiff]
     refine hK7 _ _ ?_; try clear hK7 K7
     refine zad (fun K8 hK8 => ?_)
     refine zaV ?_
     refine zad (fun K9 hK9 => ?_)
     refine zaa ?_
     refine zam rfl ?_
     refine zac (fun K hK r => ?_)
     simp only [zaK, eX, ↓reduceIte, Nat.reduceEqDiff, Int.reduceToNat]
     refine Lt_indexS Try.underlying76 sz79 ixA ixA ?_
     try simp only [zap, Nat.mul_one, Nat.zero_add, Int.reduceToNat]
     try simp only [eX, ↓reduceIte, Nat.reduceEqDiff, Int.reduceToNat]
     refine hK _ _ ?_; clear hK K
     refine zac (fun K hK r => ?_)
     simp only [zan, eX, ↓reduceIte, Nat.reduceEqDiff, Int.reduceToNat]
     refine zak Try.underlying79 rfl hbA hat ?_
     refine hK _ _ ?_; clear hK K
     refine zac (fun K hK r => ?_)
     simp only [x_alloc, zr3, zal, Value.cells, eX, ↓reduceIte, Nat.reduceEqDiff, Int.reduceToNat]
     intro b4 hb4
     try have n4_b3 : b3 ≠ b4 := zai hbA hb4
     try simp only [eX, ↓reduceIte, Nat.reduceEqDiff, Int.reduceToNat]
     refine hK _ _ ?_; clear hK K
     refine zbq rfl (zaJ) (fun K hK r => ?_)
     simp only [zaL, eX, ↓reduceIte, Nat.reduceEqDiff, Int.reduceToNat]
     refine zaY sz3 hbA bdA plA fzA ?_
     try simp only [setL0, setL1, setL2, setL3, setL4, setL5, setL6, setL7, setL8, setL9]
     try simp only [eX, ↓reduceIte, Nat.reduceEqDiff, Int.reduceToNat]
     refine hK _ _ ?_; clear hK K
     refine zao rfl ?_
     refine zae ?_
     try simp only [Ex.thnH, Ex.inBlockH, ↓reduceIte, Nat.reduceEqDiff]
     refine hK9 _ _ ?_; try clear hK9 K9
     refine zaa ?_
     refine zam rfl ?_
     refine zac (fun K hK r => ?_)
     simp only [x_makeFunc, List.map_toArray, List.map_cons, List.map_nil, eX, ↓reduceIte, Nat.reduceEqDiff, Int.reduceToNat]
     refine hK _ _ ?_; clear hK K
     refine zac (fun K hK r => ?_)
     simp only [zaT _ bd42, List.map_toArray, List.map_cons, List.map_nil, eX, ↓reduceIte, Nat.reduceEqDiff, Int.reduceToNat]
     have hdk := hS.dev k (by rw [St.crK_len]; exact hks)
     rw [St.crK_at _ _ _ hks] at hdk
     have hfpk := hS.fp k (by rw [St.crK_len]; exact hks)
     have hlek := hS.le k (by rw [St.crK_len]; exact hks)
     have hFb4 : ∀ x, Fk k x ≠ none → x ≠ b4 := fun x hx e => by subst e; exact hx (zaj hlek hb4)
     have hpb4 : p ≠ b4 := zai hS.hd hb4
     have hGb4 : (G.upd b3 (.cells #[.slice a l.length kcap] 54)) b4 = none := zaj hleG hb4
     refine (settle_ok _ _ _ (Fk k) ((G.upd b3 (.cells #[.slice a l.length kcap] 54)).upd b4 (.cells #[.int .i64 (k : Int)] 3)) hdk (Le.trans hlek (le_upd _ _ _ hb4)) (le_put (Le.trans hleG (le_upd _ _ _ hb4)) (zax _ _ _)) (fun x hx => (zaA _ _ (hFb4 x hx)).trans (hap k hks x hx)) (.func 43) #[] #[.pointer (some ⟨b3, 0, none⟩), .pointer (some ⟨b4, 0, none⟩)] (fun n => keepOf l k n) (fun KK hKK n hn => ValH_func bd43 (crash1_ok KK b3 b4 a kcap l k n (hKK b3 _ ((zaA _ _ (zai (zax _ _ _) hGb4)).trans (zax _ _ _))) (hKK b4 _ (zax _ _ _)) (hkv.le (Le.trans (Le.trans (le_upd _ _ _ hG3) (le_upd _ _ _ hGb4)) hKK)) hkl)) (hw _)).mono ?_
     rintro v20 H20 ⟨F', hdF, hlF, hdom, hkp⟩
     have hkp4 : ∀ x o, H_ x = some o → Fk k x = none → H20 x = some o := fun x o hx hn => hkp x o ((zaA _ _ (zai hx hb4)).trans hx) hn
     obtain ⟨Fk', hS', hFk'⟩ := hS.put2 (t := s.crK l (k + 1)) (i := k) (by rw [St.crK_len]; exact hks) hdF (St.crK_next s l k hks) (by have := hkp4 p _ hS.hd hfpk.1; rw [this]; rfl) hlF (fun z o hz hn hzp => hkp4 z o hz hn) (fun z hz => .inl (hdom z hz))
     have hap' : ∀ i, i < s.dv.length → ∀ x, Fk' i x ≠ none → (G.upd b3 (.cells #[.slice a l.length kcap] 54)) x = none := fun i hi x hx => by
      subst hFk'
      by_cases e : i = k
      ·subst e; simp only [if_true] at hx; exact hap i hi x (hdom x hx)
      ·simp only [if_neg e] at hx; exact hap i hi x hx
     have hleG' : Le (G.upd b3 (.cells #[.slice a l.length kcap] 54)) H20 := fun z o hz => hkp4 z o (hleG z o hz) (by
      cases hc : Fk k z with
      |none => rfl
      |some u => rw [hap k hks z (by rw [hc]; simp)] at hz; cases hz)
     try simp only [eX, ↓reduceIte, Nat.reduceEqDiff, Int.reduceToNat]
     refine hK _ _ ?_; clear hK K
     refine zae ?_
     try simp only [Ex.thnH, Ex.inBlockH, ↓reduceIte, Nat.reduceEqDiff]
     refine hK8 _ _ ?_; try clear hK8 K8
     refine zaa ?_
     refine zac (fun K hK r => ?_)
     simp (disch := (first | omega | decide)) only [zaF, zaH, b_add, zaw, zaE, zaD, zaQ, eX, ↓reduceIte, Nat.reduceEqDiff, Int.reduceToNat]
     refine hK _ _ ?_; clear hK K
     refine zam rfl ?_
     refine zae ?_
     try simp only [Ex.thnH, Ex.inBlockH, ↓reduceIte, Nat.reduceEqDiff]
     refine ⟨s.dv.length - (k + 1), by omega, k + 1, Fk', by omega, rfl, hS', hap', hleG', rfl, rfl, rfl, rfl, rfl, trivial⟩
   ·first
    |(exfalso; exact cnA c14; done)
    |skip
     (try simp only [decide_eq_true_eq, decide_eq_false_iff_not, Bool.not_eq_true, Bool.not_eq_false, Bool.and_eq_true, Bool.or_eq_true, Bool.or_eq_false_iff, Bool.not_eq_eq_eq_not, Bool.not_true, Bool.not_false] at c14)
     have hkn : k = s.dv.length := by omega
     have hSp := hS.hd
     refine CW_exit ?_
     try simp only [Ex.thnH, Ex.inBlockH, ↓reduceIte, Nat.reduceEqDiff]
     refine hK4 _ _ ?_; try clear hK4 K4
     refine zaa ?_
     refine zam rfl ?_
     refine zam rfl ?_
     refine zac (fun K hK r => ?_)
     rw [zbh _ _ rfl]
     simp only [eX, ↓reduceIte, Nat.reduceEqDiff, Int.reduceToNat]
     refine hK _ _ ?_; clear hK K
     refine zac (fun K hK r => ?_)
     simp only [zah, fa78_0, zap, Nat.reduceAdd, Nat.zero_add, eX, ↓reduceIte, Nat.reduceEqDiff, Int.reduceToNat]
     refine hK _ _ ?_; clear hK K
     refine zac (fun K hK r => ?_)
     simp only [zah, fa75_2, zap, Nat.reduceAdd, Nat.zero_add, eX, ↓reduceIte, Nat.reduceEqDiff, Int.reduceToNat]
     refine hK _ _ ?_; clear hK K
     refine zbq rfl (zaJ) (fun K hK r => ?_)
     simp only [zaL, eX, ↓reduceIte, Nat.reduceEqDiff, Int.reduceToNat]
     refine zaY sz4 hbA bdA plA fzA ?_
     try simp only [setL0, setL1, setL2, setL3, setL4, setL5, setL6, setL7, setL8, setL9]
     try simp only [eX, ↓reduceIte, Nat.reduceEqDiff, Int.reduceToNat]
     refine hK _ _ ?_; clear hK K
     refine zac (fun K hK r => ?_)
     rw [zbh _ _ rfl]
     simp only [eX, ↓reduceIte, Nat.reduceEqDiff, Int.reduceToNat]
     refine hK _ _ ?_; clear hK K
     refine zac (fun K hK r => ?_)
     simp only [zah, fa78_0, zap, Nat.reduceAdd, Nat.zero_add, eX, ↓reduceIte, Nat.reduceEqDiff, Int.reduceToNat]
     refine hK _ _ ?_; clear hK K
     refine zac (fun K hK r => ?_)
     simp only [zah, fa75_3, zap, Nat.reduceAdd, Nat.zero_add, eX, ↓reduceIte, Nat.reduceEqDiff, Int.reduceToNat]
     refine hK _ _ ?_; clear hK K
     refine zbq rfl (zaJ) (fun K hK r => ?_)
     simp only [zaL, eX, ↓reduceIte, Nat.reduceEqDiff, Int.reduceToNat]
     refine zaY sz4 hbA bdA plA fzA ?_
     try simp only [setL0, setL1, setL2, setL3, setL4, setL5, setL6, setL7, setL8, setL9]
     try simp only [eX, ↓reduceIte, Nat.reduceEqDiff, Int.reduceToNat]
     refine hK _ _ ?_; clear hK K
     refine zae ?_
     try simp only [Ex.thnH, Ex.inBlockH, ↓reduceIte, Nat.reduceEqDiff]
     have hcr : (s.cr l).dv = (s.crK l k).dv := by rw [hkn, St.crK_all]
     have hln : (s.crK l k).dv.length = s.dv.length := St.crK_len _ _ _
     refine ⟨[], trivial, _, Le.refl _, rd, cap, bs, Fk, hS.head hcr (by rw [hln]; exact zax _ _ _) (fun z o hz hzp => (zaA _ _ hzp).trans hz)⟩
end Go.Proofs.Ytcjdkfhmlnfedaa.HL
end
section
namespace Go.Proofs.Ytcjdkfhmlnfedaa.HL
open Go Go.Proofs
set_option linter.unusedSimpArgs false
set_option linter.unusedVariables false
attribute [local irreducible] Lt Lq CW OW TW CallH
set_option maxRecDepth 100000 in
set_option maxHeartbeats 1000000 in
theorem down_ok (H : Hp) (p : Nat) (s : St) (rd cap : Nat) (bs : List Nat) (Fs : Nat → Hp) (h : SX H p s rd cap bs Fs) : CallH Try.prog 52 #[(.pointer (some ⟨p, 0, none⟩))] H (fun v H' => v = .bool s.gone ∧ H' = H) := by
 refine zaB (l := [_]) (rl := [.tmp 2]) (n := 12) Try.func52 rfl rfl rfl rfl rfl ?_
 simp only [envOf, Nat.reduceAdd]
 have hhd := h.hd
 refine zad (fun K1 hK1 => ?_)
 refine zaa ?_
 refine zao rfl ?_
 refine zae ?_
 try simp only [Ex.thnH, Ex.inBlockH, ↓reduceIte, Nat.reduceEqDiff]
 refine hK1 _ _ ?_; try clear hK1 K1
 refine zad (fun K2 hK2 => ?_)
 refine zaa ?_
 refine zam rfl ?_
 refine zac (fun K hK r => ?_)
 simp only [zaF, zaH, g_bool, zbo, zbk, g_slice, g_map, g_func, zbl, g_iface, zbe, g_nil_r, g_nil_l, eX, ↓reduceIte, Nat.reduceEqDiff, Int.reduceToNat]
 rw [e_eql _ _ _ _ (by simp)]
 rw [q_equal]
 first | rw [q_ptr_nil _ _ _ Try.underlying31] | rw [q_nil_ptr _ _ _ Try.underlying31]
 try simp only [eX, ↓reduceIte, Nat.reduceEqDiff, Int.reduceToNat]
 refine hK _ _ ?_; clear hK K
 refine zam rfl ?_
 (first | refine zbc (d := 5) rfl (fun g5 => ?_) (fun g5 => ?_) | skip)
 all_goals try (exfalso; exact cnA g5)
 all_goals (try simp only [decide_eq_true_eq, decide_eq_false_iff_not, Bool.not_eq_true, Bool.not_eq_false, Bool.and_eq_true, Bool.or_eq_true, Bool.or_eq_false_iff, Bool.not_eq_eq_eq_not, Bool.not_true, Bool.not_false] at g5)
 all_goals
  try simp only [eX, ↓reduceIte, Nat.reduceEqDiff, Int.reduceToNat]
  first
  |refine zaf rfl (zab (by decide)) rfl (fun K hK r => ?_)
   simp only [zaU, eX, ↓reduceIte, Nat.reduceEqDiff, Int.reduceToNat]
   refine hK _ _ ?_; clear hK K
  |refine zag rfl (zab (by decide)) rfl ?_
   simp only [eX, ↓reduceIte, Nat.reduceEqDiff, Int.reduceToNat]
  first
  |refine zaf rfl (zab (by decide)) rfl (fun K hK r => ?_)
   rw [zbh _ _ rfl]
   simp only [eX, ↓reduceIte, Nat.reduceEqDiff, Int.reduceToNat]
   refine hK _ _ ?_; clear hK K
  |refine zag rfl (zab (by decide)) rfl ?_
   simp only [eX, ↓reduceIte, Nat.reduceEqDiff, Int.reduceToNat]
  first
  |refine zaf rfl (zab (by decide)) rfl (fun K hK r => ?_)
   simp only [zah, fa78_0, zap, Nat.reduceAdd, Nat.zero_add, eX, ↓reduceIte, Nat.reduceEqDiff, Int.reduceToNat]
   refine hK _ _ ?_; clear hK K
  |refine zag rfl (zab (by decide)) rfl ?_
   simp only [eX, ↓reduceIte, Nat.reduceEqDiff, Int.reduceToNat]
  first
  |refine zaf rfl (zab (by decide)) rfl (fun K hK r => ?_)
   simp only [zah, fa75_3, zap, Nat.reduceAdd, Nat.zero_add, eX, ↓reduceIte, Nat.reduceEqDiff, Int.reduceToNat]
   refine hK _ _ ?_; clear hK K
  |refine zag rfl (zab (by decide)) rfl ?_
   simp only [eX, ↓reduceIte, Nat.reduceEqDiff, Int.reduceToNat]
  first
  |refine zaf rfl (zab (by decide)) rfl (fun K hK r => ?_)
   simp only [zan, eX, ↓reduceIte, Nat.reduceEqDiff, Int.reduceToNat]
   refine zak Try.underlying4 rfl hbA ldA ?_
   try simp only [eX, ↓reduceIte, Nat.reduceEqDiff, Int.reduceToNat]
   refine hK _ _ ?_; clear hK K
  |refine zag rfl (zab (by decide)) rfl ?_
   simp only [eX, ↓reduceIte, Nat.reduceEqDiff, Int.reduceToNat]
  refine zac (fun K hK r => ?_)
  simp only [zbp, zaZ, HL.ite_bool, if_true, if_false, Bool.false_eq_true, eX, ↓reduceIte, Nat.reduceEqDiff, Int.reduceToNat]
  refine hK _ _ ?_; clear hK K
  refine zao rfl ?_
  refine zae ?_
  try simp only [Ex.thnH, Ex.inBlockH, ↓reduceIte, Nat.reduceEqDiff]
  refine hK2 _ _ ?_; try clear hK2 K2
  refine zaR ?_
  try simp only [Ex.thnH, Ex.inBlockH, ↓reduceIte, Nat.reduceEqDiff]
  first | exact ⟨[_], ⟨rfl, trivial⟩, _, Le.refl _, rfl, rfl⟩ | (exfalso; simp_all; done)
set_option maxRecDepth 100000 in
set_option maxHeartbeats 1000000 in
theorem arm_ok (H : Hp) (p : Nat) (s : St) (rd cap : Nat) (bs : List Nat) (Fs : Nat → Hp) (h : SX H p s rd cap bs Fs) (n : Int) : CallH Try.prog 20 #[(.pointer (some ⟨p, 0, none⟩)), .int .i64 n] H (fun v H' => v = errV (if n < 0 then some 1 else none) ∧ SetX H' p (if n < 0 then s else { s with armed := true, left := n })) := by
 refine zaB (l := [_, _]) (rl := [.tmp 4]) (n := 22) Try.func20 rfl rfl rfl rfl rfl ?_
 simp only [envOf, Nat.reduceAdd]
 have hhd := h.hd
 refine zad (fun K1 hK1 => ?_)
 refine zaa ?_
 refine zao rfl ?_
 refine zae ?_
 try simp only [Ex.thnH, Ex.inBlockH, ↓reduceIte, Nat.reduceEqDiff]
 refine hK1 _ _ ?_; try clear hK1 K1
 refine zad (fun K2 hK2 => ?_)
 refine zaV ?_
 refine zad (fun K3 hK3 => ?_)
 refine zaa ?_
 refine zam rfl ?_
 refine zac (fun K hK r => ?_)
 simp only [zaF, zaH, g_bool, zbo, zbk, g_slice, g_map, g_func, zbl, g_iface, zbe, g_nil_r, g_nil_l, eX, ↓reduceIte, Nat.reduceEqDiff, Int.reduceToNat]
 rw [e_eql _ _ _ _ (by simp)]
 rw [q_equal]
 first | rw [q_ptr_nil _ _ _ Try.underlying31] | rw [q_nil_ptr _ _ _ Try.underlying31]
 try simp only [eX, ↓reduceIte, Nat.reduceEqDiff, Int.reduceToNat]
 refine hK _ _ ?_; clear hK K
 refine zao rfl ?_
 refine zae ?_
 try simp only [Ex.thnH, Ex.inBlockH, ↓reduceIte, Nat.reduceEqDiff]
 refine hK3 _ _ ?_; try clear hK3 K3
 refine zaG (fun r => rfl) (fun c5 => ?_) (fun c5 => ?_)
 ·first
  |(exfalso; exact cnA c5; done)
  |skip
   (try simp only [decide_eq_true_eq, decide_eq_false_iff_not, Bool.not_eq_true, Bool.not_eq_false, Bool.and_eq_true, Bool.or_eq_true, Bool.or_eq_false_iff, Bool.not_eq_eq_eq_not, Bool.not_true, Bool.not_false] at c5)
   refine zad (fun K4 hK4 => ?_)
   refine zaa ?_
   refine zac (fun K hK r => ?_)
   simp only [zbf, zbg, Try.underlying73, zal, eX, ↓reduceIte, Nat.reduceEqDiff, Int.reduceToNat]
   refine hK _ _ ?_; clear hK K
   refine zao rfl ?_
   refine zae ?_
   try simp only [Ex.thnH, Ex.inBlockH, ↓reduceIte, Nat.reduceEqDiff]
   refine hK4 _ _ ?_; try clear hK4 K4
   refine zaR ?_
   try simp only [Ex.thnH, Ex.inBlockH, ↓reduceIte, Nat.reduceEqDiff]
   skip
 ·first
  |(exfalso; exact cnA c5; done)
  |skip
   (try simp only [decide_eq_true_eq, decide_eq_false_iff_not, Bool.not_eq_true, Bool.not_eq_false, Bool.and_eq_true, Bool.or_eq_true, Bool.or_eq_false_iff, Bool.not_eq_eq_eq_not, Bool.not_true, Bool.not_false] at c5)
   refine zad (fun K5 hK5 => ?_)
   refine zaa ?_
   refine zam rfl ?_
   refine zac (fun K hK r => ?_)
   simp (disch := (first | omega | decide)) only [zaF, zaH, b_lss, zaq, zar, zat, zau, zas, zav, Bool.not_true, Bool.not_false, eX, ↓reduceIte, Nat.reduceEqDiff, Int.reduceToNat]
   refine hK _ _ ?_; clear hK K
   refine zao rfl ?_
   refine zae ?_
   try simp only [Ex.thnH, Ex.inBlockH, ↓reduceIte, Nat.reduceEqDiff]
   refine hK5 _ _ ?_; try clear hK5 K5
   refine zaG (fun r => rfl) (fun c9 => ?_) (fun c9 => ?_)
   ·first
    |(exfalso; exact cnA c9; done)
    |skip
     (try simp only [decide_eq_true_eq, decide_eq_false_iff_not, Bool.not_eq_true, Bool.not_eq_false, Bool.and_eq_true, Bool.or_eq_true, Bool.or_eq_false_iff, Bool.not_eq_eq_eq_not, Bool.not_true, Bool.not_false] at c9)
     refine zad (fun K6 hK6 => ?_)
     refine zaa ?_
     refine zac (fun K hK r => ?_)
     simp only [zbf, zbg, Try.underlying73, zal, eX, ↓reduceIte, Nat.reduceEqDiff, Int.reduceToNat]
     refine hK _ _ ?_; clear hK K
     refine zao rfl ?_
     refine zae ?_
     try simp only [Ex.thnH, Ex.inBlockH, ↓reduceIte, Nat.reduceEqDiff]
     refine hK6 _ _ ?_; try clear hK6 K6
     refine zaR ?_
     try simp only [Ex.thnH, Ex.inBlockH, ↓reduceIte, Nat.reduceEqDiff]
     refine ⟨[_], ⟨rfl, trivial⟩, _, Le.refl _, ?_, ?_⟩
     ·rw [if_pos (by omega)]; rfl
     ·rw [if_pos (by omega)]; exact ⟨rd, cap, bs, Fs, h⟩
   ·first
    |(exfalso; exact cnA c9; done)
    |skip
     (try simp only [decide_eq_true_eq, decide_eq_false_iff_not, Bool.not_eq_true, Bool.not_eq_false, Bool.and_eq_true, Bool.or_eq_true, Bool.or_eq_false_iff, Bool.not_eq_eq_eq_not, Bool.not_true, Bool.not_false] at c9)
     refine zaO ?_
     try simp only [Ex.thnH, Ex.inBlockH, ↓reduceIte, Nat.reduceEqDiff]
     refine hK2 _ _ ?_; try clear hK2 K2
     refine zad (fun K7 hK7 => ?_)
     refine zaa ?_
     refine zam rfl ?_
     refine zam rfl ?_
     refine zam rfl ?_
     refine zac (fun K hK r => ?_)
     rw [zbh _ _ rfl]
     simp only [eX, ↓reduceIte, Nat.reduceEqDiff, Int.reduceToNat]
     refine hK _ _ ?_; clear hK K
     refine zac (fun K hK r => ?_)
     simp only [zah, fa78_0, zap, Nat.reduceAdd, Nat.zero_add, eX, ↓reduceIte, Nat.reduceEqDiff, Int.reduceToNat]
     refine hK _ _ ?_; clear hK K
     refine zac (fun K hK r => ?_)
     simp only [zah, fa75_2, zap, Nat.reduceAdd, Nat.zero_add, eX, ↓reduceIte, Nat.reduceEqDiff, Int.reduceToNat]
     refine hK _ _ ?_; clear hK K
     refine zbq rfl (zaJ) (fun K hK r => ?_)
     simp only [zaL, eX, ↓reduceIte, Nat.reduceEqDiff, Int.reduceToNat]
     refine zaY sz4 hbA bdA plA fzA ?_
     try simp only [setL0, setL1, setL2, setL3, setL4, setL5, setL6, setL7, setL8, setL9]
     try simp only [eX, ↓reduceIte, Nat.reduceEqDiff, Int.reduceToNat]
     refine hK _ _ ?_; clear hK K
     refine zac (fun K hK r => ?_)
     rw [zbh _ _ rfl]
     simp only [eX, ↓reduceIte, Nat.reduceEqDiff, Int.reduceToNat]
     refine hK _ _ ?_; clear hK K
     refine zac (fun K hK r => ?_)
     simp only [zah, fa78_0, zap, Nat.reduceAdd, Nat.zero_add, eX, ↓reduceIte, Nat.reduceEqDiff, Int.reduceToNat]
     refine hK _ _ ?_; clear hK K
     refine zac (fun K hK r => ?_)
     simp only [zah, fa75_1, zap, Nat.reduceAdd, Nat.zero_add, eX, ↓reduceIte, Nat.reduceEqDiff, Int.reduceToNat]
     refine hK _ _ ?_; clear hK K
     refine zbq rfl (zaJ) (fun K hK r => ?_)
     simp only [zaL, eX, ↓reduceIte, Nat.reduceEqDiff, Int.reduceToNat]
     refine zaY sz3 hbA bdA plA fzA ?_
     try simp only [setL0, setL1, setL2, setL3, setL4, setL5, setL6, setL7, setL8, setL9]
     try simp only [eX, ↓reduceIte, Nat.reduceEqDiff, Int.reduceToNat]
     refine hK _ _ ?_; clear hK K
     refine zae ?_
     try simp only [Ex.thnH, Ex.inBlockH, ↓reduceIte, Nat.reduceEqDiff]
     refine hK7 _ _ ?_; try clear hK7 K7
     refine zad (fun K8 hK8 => ?_)
     refine zaa ?_
     refine zao rfl ?_
     refine zae ?_
     try simp only [Ex.thnH, Ex.inBlockH, ↓reduceIte, Nat.reduceEqDiff]
     refine hK8 _ _ ?_; try clear hK8 K8
     refine zaR ?_
     try simp only [Ex.thnH, Ex.inBlockH, ↓reduceIte, Nat.reduceEqDiff]
     refine ⟨[_], ⟨rfl, trivial⟩, _, Le.refl _, ?_, ?_⟩
     ·rw [if_neg (by omega)]; rfl
     ·rw [if_neg (by omega)]; exact ⟨rd, cap, bs, Fs, h.head rfl (zax _ _ _) (fun z o hz hzp => (zaA _ _ hzp).trans hz)⟩
set_option maxRecDepth 100000 in
set_option maxHeartbeats 1000000 in
theorem size_in (H : Hp) (p : Nat) (s : St) (rd cap : Nat) (bs : List Nat) (Fs : Nat → Hp) (h : SX H p s rd cap bs Fs) (hl : s.dv.length ≤ 1000) (dev : Int) (hin : 0 ≤ dev ∧ dev < s.dv.length) : CallH Try.prog 31 #[(.pointer (some ⟨p, 0, none⟩)), .int .i64 dev] H (fun v H' => v = .int .i64 (s.dv.getD dev.toNat default).size ∧ H' = H) := by
 refine zaB (l := [_, _]) (rl := [.tmp 4]) (n := 15) Try.func31 rfl rfl rfl rfl rfl ?_
 simp only [envOf, Nat.reduceAdd]
 have hk : dev.toNat < s.dv.length := by omega
 obtain ⟨mb, es, c, wv, wrs, hb0, hm0, hms, how, hbm, hwb, hwm⟩ := (h.dev dev.toNat hk).facts
 obtain ⟨wa, wcp, rfl⟩ := how.holds.form
 have kb := h.le dev.toNat hk _ _ hb0
 refine zad (fun K1 hK1 => ?_)
 refine zaa ?_
 refine zao rfl ?_
 refine zae ?_
 try simp only [Ex.thnH, Ex.inBlockH, ↓reduceIte, Nat.reduceEqDiff]
 refine hK1 _ _ ?_; try clear hK1 K1
 refine zad (fun K2 hK2 => ?_)
 refine zad (fun K3 hK3 => ?_)
 refine zaa ?_
 refine zam rfl ?_
 refine zam rfl ?_
 refine zac (fun K hK r => ?_)
 simp only [zaT _ bd46, List.map_toArray, List.map_cons, List.map_nil, eX, ↓reduceIte, Nat.reduceEqDiff, Int.reduceToNat]
 refine (device_ok _ p s rd cap bs Fs h dev hl).mono ?_
 rintro v H' ⟨rfl, rfl⟩
 rw [show devV s bs dev = ptrV (bs.getD dev.toNat 0) from if_pos hin]
 simp only [ptrV]
 try simp only [eX, ↓reduceIte, Nat.reduceEqDiff, Int.reduceToNat]
 refine hK _ _ ?_; clear hK K
 refine zao rfl ?_
 refine zae ?_
 try simp only [Ex.thnH, Ex.inBlockH, ↓reduceIte, Nat.reduceEqDiff]
 refine hK3 _ _ ?_; try clear hK3 K3
 refine zad (fun K4 hK4 => ?_)
 refine zaa ?_
 refine zam rfl ?_
 refine zac (fun K hK r => ?_)
 simp only [zaF, zaH, g_bool, zbo, zbk, g_slice, g_map, g_func, zbl, g_iface, zbe, g_nil_r, g_nil_l, eX, ↓reduceIte, Nat.reduceEqDiff, Int.reduceToNat]
 rw [e_neq _ _ _ _ (by simp)]
 rw [q_equal]
 first | rw [q_ptr_nil _ _ _ Try.underlying79] | rw [q_nil_ptr _ _ _ Try.underlying79]
 try simp only [eX, ↓reduceIte, Nat.reduceEqDiff, Int.reduceToNat]
 refine hK _ _ ?_; clear hK K
 refine zae ?_
 try simp only [Ex.thnH, Ex.inBlockH, ↓reduceIte, Nat.reduceEqDiff]
 refine hK4 _ _ ?_; try clear hK4 K4
 refine zaG (fun r => rfl) (fun c10 => ?_) (fun c10 => ?_)
 ·first
  |(exfalso; exact cnA c10; done)
  |skip
   (try simp only [decide_eq_true_eq, decide_eq_false_iff_not, Bool.not_eq_true, Bool.not_eq_false, Bool.and_eq_true, Bool.or_eq_true, Bool.or_eq_false_iff, Bool.not_eq_eq_eq_not, Bool.not_true, Bool.not_false] at c10)
   refine zad (fun K5 hK5 => ?_)
   refine zaa ?_
   refine zam rfl ?_
   refine zac (fun K hK r => ?_)
   rw [zbh _ _ rfl]
   simp only [eX, ↓reduceIte, Nat.reduceEqDiff, Int.reduceToNat]
   refine hK _ _ ?_; clear hK K
   refine zac (fun K hK r => ?_)
   simp only [zah, fa83_0, zap, Nat.reduceAdd, Nat.zero_add, eX, ↓reduceIte, Nat.reduceEqDiff, Int.reduceToNat]
   refine hK _ _ ?_; clear hK K
   refine zac (fun K hK r => ?_)
   simp only [zan, eX, ↓reduceIte, Nat.reduceEqDiff, Int.reduceToNat]
   refine zak Try.underlying3 rfl hbA ldA ?_
   try simp only [eX, ↓reduceIte, Nat.reduceEqDiff, Int.reduceToNat]
   refine hK _ _ ?_; clear hK K
   refine zao rfl ?_
   refine zae ?_
   try simp only [Ex.thnH, Ex.inBlockH, ↓reduceIte, Nat.reduceEqDiff]
   refine hK5 _ _ ?_; try clear hK5 K5
   refine zaR ?_
   try simp only [Ex.thnH, Ex.inBlockH, ↓reduceIte, Nat.reduceEqDiff]
   exact ⟨[_], ⟨rfl, trivial⟩, _, Le.refl _, rfl, rfl⟩
 ·first
  |(exfalso; exact cnA c10; done)
  |skip
   (try simp only [decide_eq_true_eq, decide_eq_false_iff_not, Bool.not_eq_true, Bool.not_eq_false, Bool.and_eq_true, Bool.or_eq_true, Bool.or_eq_false_iff, Bool.not_eq_eq_eq_not, Bool.not_true, Bool.not_false] at c10)
   refine zaO ?_
   try simp only [Ex.thnH, Ex.inBlockH, ↓reduceIte, Nat.reduceEqDiff]
   refine hK2 _ _ ?_; try clear hK2 K2
   refine zad (fun K6 hK6 => ?_)
   refine zaa ?_
   refine zao rfl ?_
   refine zae ?_
   try simp only [Ex.thnH, Ex.inBlockH, ↓reduceIte, Nat.reduceEqDiff]
   refine hK6 _ _ ?_; try clear hK6 K6
   refine zaR ?_
   try simp only [Ex.thnH, Ex.inBlockH, ↓reduceIte, Nat.reduceEqDiff]
   skip
set_option maxRecDepth 100000 in
set_option maxHeartbeats 1000000 in
theorem size_out (H : Hp) (p : Nat) (s : St) (rd cap : Nat) (bs : List Nat) (Fs : Nat → Hp) (h : SX H p s rd cap bs Fs) (hl : s.dv.length ≤ 1000) (dev : Int) (hno : ¬ (0 ≤ dev ∧ dev < s.dv.length)) : CallH Try.prog 31 #[(.pointer (some ⟨p, 0, none⟩)), .int .i64 dev] H (fun v H' => v = .int .i64 0 ∧ H' = H) := by
 refine zaB (l := [_, _]) (rl := [.tmp 4]) (n := 15) Try.func31 rfl rfl rfl rfl rfl ?_
 simp only [envOf, Nat.reduceAdd]
 refine zad (fun K1 hK1 => ?_)
 refine zaa ?_
 refine zao rfl ?_
 refine zae ?_
 try simp only [Ex.thnH, Ex.inBlockH, ↓reduceIte, Nat.reduceEqDiff]
 refine hK1 _ _ ?_; try clear hK1 K1
 refine zad (fun K2 hK2 => ?_)
 refine zad (fun K3 hK3 => ?_)
 refine zaa ?_
 refine zam rfl ?_
 refine zam rfl ?_
 refine zac (fun K hK r => ?_)
 simp only [zaT _ bd46, List.map_toArray, List.map_cons, List.map_nil, eX, ↓reduceIte, Nat.reduceEqDiff, Int.reduceToNat]
 refine (device_ok _ p s rd cap bs Fs h dev hl).mono ?_
 rintro v H' ⟨rfl, rfl⟩
 rw [show devV s bs dev = .pointer none from if_neg hno]
 try simp only [eX, ↓reduceIte, Nat.reduceEqDiff, Int.reduceToNat]
 refine hK _ _ ?_; clear hK K
 refine zao rfl ?_
 refine zae ?_
 try simp only [Ex.thnH, Ex.inBlockH, ↓reduceIte, Nat.reduceEqDiff]
 refine hK3 _ _ ?_; try clear hK3 K3
 refine zad (fun K4 hK4 => ?_)
 refine zaa ?_
 refine zam rfl ?_
 refine zac (fun K hK r => ?_)
 simp only [zaF, zaH, g_bool, zbo, zbk, g_slice, g_map, g_func, zbl, g_iface, zbe, g_nil_r, g_nil_l, eX, ↓reduceIte, Nat.reduceEqDiff, Int.reduceToNat]
 rw [e_neq _ _ _ _ (by simp)]
 rw [q_equal]
 first | rw [q_ptr_nil _ _ _ Try.underlying79] | rw [q_nil_ptr _ _ _ Try.underlying79]
 try simp only [eX, ↓reduceIte, Nat.reduceEqDiff, Int.reduceToNat]
 refine hK _ _ ?_; clear hK K
 refine zae ?_
 try simp only [Ex.thnH, Ex.inBlockH, ↓reduceIte, Nat.reduceEqDiff]
 refine hK4 _ _ ?_; try clear hK4 K4
 refine zaG (fun r => rfl) (fun c10 => ?_) (fun c10 => ?_)
 ·first
  |(exfalso; exact cnA c10; done)
  |skip
   (try simp only [decide_eq_true_eq, decide_eq_false_iff_not, Bool.not_eq_true, Bool.not_eq_false, Bool.and_eq_true, Bool.or_eq_true, Bool.or_eq_false_iff, Bool.not_eq_eq_eq_not, Bool.not_true, Bool.not_false] at c10)
   refine zad (fun K5 hK5 => ?_)
   refine zaa ?_
   refine zam rfl ?_
   refine zac (fun K hK r => ?_)
   rw [zbh _ _ rfl]
   simp only [eX, ↓reduceIte, Nat.reduceEqDiff, Int.reduceToNat]
   refine hK _ _ ?_; clear hK K
   refine zac (fun K hK r => ?_)
   simp only [zah, fa83_0, zap, Nat.reduceAdd, Nat.zero_add, eX, ↓reduceIte, Nat.reduceEqDiff, Int.reduceToNat]
   refine hK _ _ ?_; clear hK K
   refine zac (fun K hK r => ?_)
   simp only [zan, eX, ↓reduceIte, Nat.reduceEqDiff, Int.reduceToNat]
   refine zak Try.underlying3 rfl hbA ldA ?_
   try simp only [eX, ↓reduceIte, Nat.reduceEqDiff, Int.reduceToNat]
   refine hK _ _ ?_; clear hK K
   refine zao rfl ?_
   refine zae ?_
   try simp only [Ex.thnH, Ex.inBlockH, ↓reduceIte, Nat.reduceEqDiff]
   refine hK5 _ _ ?_; try clear hK5 K5
   refine zaR ?_
   try simp only [Ex.thnH, Ex.inBlockH, ↓reduceIte, Nat.reduceEqDiff]
   skip
 ·first
  |(exfalso; exact cnA c10; done)
  |skip
   (try simp only [decide_eq_true_eq, decide_eq_false_iff_not, Bool.not_eq_true, Bool.not_eq_false, Bool.and_eq_true, Bool.or_eq_true, Bool.or_eq_false_iff, Bool.not_eq_eq_eq_not, Bool.not_true, Bool.not_false] at c10)
   refine zaO ?_
   try simp only [Ex.thnH, Ex.inBlockH, ↓reduceIte, Nat.reduceEqDiff]
   refine hK2 _ _ ?_; try clear hK2 K2
   refine zad (fun K6 hK6 => ?_)
   refine zaa ?_
   refine zao rfl ?_
   refine zae ?_
   try simp only [Ex.thnH, Ex.inBlockH, ↓reduceIte, Nat.reduceEqDiff]
   refine hK6 _ _ ?_; try clear hK6 K6
   refine zaR ?_
   try simp only [Ex.thnH, Ex.inBlockH, ↓reduceIte, Nat.reduceEqDiff]
   exact ⟨[_], ⟨rfl, trivial⟩, _, Le.refl _, rfl, rfl⟩
end Go.Proofs.Ytcjdkfhmlnfedaa.HL
end
section
namespace Go.Proofs.Ytcjdkfhmlnfedaa.HL
open Go Go.Proofs
set_option linter.unusedSimpArgs false
set_option linter.unusedVariables false
attribute [local irreducible] Lt Lq CW OW TW CallH
theorem lastW_none {i : Int} : ∀ {ws : List Wt}, (∀ j, j < ws.length → (ws.getD j default).at_ ≠ i) → lastW ws i = none
  | [], _ => rfl
  | w :: r, h => by
    simp only [lastW]
    rw [lastW_none (ws := r) (fun j hj => by simpa using h (j + 1) (by simp; omega))]
    have : w.at_ ≠ i := by simpa using h 0 (by simp)
    simp [this]
theorem lastW_at {i : Int} : ∀ {ws : List Wt} {k : Nat}, k < ws.length → (ws.getD k default).at_ = i → (∀ j, k < j → j < ws.length → (ws.getD j default).at_ ≠ i) → lastW ws i = some (ws.getD k default).x
  | [], _, h, _, _ => absurd h (by simp)
  | w :: r, 0, _, h1, h2 => by
    simp only [lastW]
    rw [lastW_none (ws := r) (fun j hj => by simpa using h2 (j + 1) (by omega) (by simp; omega))]
    have : w.at_ = i := by simpa using h1
    simp [this]
  | w :: r, k + 1, h, h1, h2 => by
    simp only [lastW]
    rw [lastW_at (ws := r) (k := k) (by simpa using h) (by simpa using h1) (fun j hj hjl => by simpa using h2 (j + 1) (by omega) (by simp; omega))]
    simp
def St.rd (s : St) (dev i : Int) : Sec × Option Int := if s.gone = true then (Sec.zero, some 3) else if s.has dev i = true then ((s.dv.getD dev.toNat default).read i, none) else (Sec.zero, some 1)
def St.su (s : St) (dev i : Int) : Sec := if 0 ≤ dev ∧ dev < s.dv.length then (s.dv.getD dev.toNat default).sure i else Sec.zero
abbrev TBack (ws : List Wt) : Nat → List Value → Hp → Prop := Tpure (fun i => [.int .i64 ((ws.length : Int) - 1 - i), .agg (ws.getD (ws.length - 1 - i) default).c.toArray])
set_option maxRecDepth 100000 in
set_option maxHeartbeats 1000000 in
theorem Backward_ok (H : Hp) (a : Option Addr) (n cap : Nat) : CallH Try.prog 64 #[.slice a n cap] H (fun v' H' => ∃ b1, H b1 = none ∧ v' = .func (.func 68) #[] #[.pointer (some ⟨b1, 0, none⟩)] ∧ H' = H.upd b1 (.cells #[.slice a n cap] 81)) := by
 refine zaB (l := [_]) (rl := [.tmp 2]) (n := 4) Try.func64 rfl rfl rfl rfl rfl ?_
 simp only [envOf, Nat.reduceAdd]
 refine zad (fun K1 hK1 => ?_)
 refine zaa ?_
 refine zac (fun K hK r => ?_)
 simp only [x_box, Value.cells, eX, ↓reduceIte, Nat.reduceEqDiff, Int.reduceToNat]
 intro b1 hb1
 have f1_H : H b1 = none := zaj lhA hb1
 try simp only [eX, ↓reduceIte, Nat.reduceEqDiff, Int.reduceToNat]
 refine hK _ _ ?_; clear hK K
 refine zao rfl ?_
 refine zae ?_
 try simp only [Ex.thnH, Ex.inBlockH, ↓reduceIte, Nat.reduceEqDiff]
 refine hK1 _ _ ?_; try clear hK1 K1
 refine zad (fun K2 hK2 => ?_)
 refine zaa ?_
 refine zac (fun K hK r => ?_)
 simp only [x_makeFunc, List.map_toArray, List.map_cons, List.map_nil, eX, ↓reduceIte, Nat.reduceEqDiff, Int.reduceToNat]
 refine hK _ _ ?_; clear hK K
 refine zao rfl ?_
 refine zae ?_
 try simp only [Ex.thnH, Ex.inBlockH, ↓reduceIte, Nat.reduceEqDiff]
 refine hK2 _ _ ?_; try clear hK2 K2
 refine zaR ?_
 try simp only [Ex.thnH, Ex.inBlockH, ↓reduceIte, Nat.reduceEqDiff]
 exact ⟨[_], ⟨rfl, trivial⟩, _, Le.refl _, b1, hb1, rfl, rfl⟩
set_option maxRecDepth 100000 in
set_option maxHeartbeats 4000000 in
theorem backward1_ok (H0 : Hp) (b1 : Nat) (a : Option Addr) (cap : Nat) (ws : List Wt) (hv : Holds H0 65 (.slice a ws.length cap) ws.length (wts ws)) (h1 : H0 b1 = some (.cells #[.slice a ws.length cap] 81)) (hl : ws.length ≤ 1000000) (yf : Fn) (ya yb : Array Value) (J : Nat → Hp → Prop) (S : Hp → Prop) (H : Hp) (hle : ∀ i H, J i H → Le H0 H) (hy : ∀ i, i < ws.length → ∀ H, J i H → ∀ args F, TBack ws i args F → H.apart F → ValH Try.prog (.func yf ya yb) args.toArray (H.join F) (fun v H2 => ∃ H3, Le H3 H2 ∧ ((v = .bool true ∧ J (i + 1) H3) ∨ (v = .bool false ∧ S H3)))) (hj : J 0 H) :
 CallH Try.prog 68 #[.func yf ya yb, .pointer (some ⟨b1, 0, none⟩)] H (fun _ H2 => ∃ H3, Le H3 H2 ∧ (J ws.length H3 ∨ S H3)) := by
 refine zaB (l := [_, _]) (rl := []) (n := 19) Try.func68 rfl rfl rfl rfl rfl ?_
 simp only [envOf, Nat.reduceAdd]
 have hk1 := hle 0 H hj _ _ h1
 refine zad (fun K1 hK1 => ?_)
 refine zaa ?_
 refine zac (fun K hK r => ?_)
 simp only [zan, eX, ↓reduceIte, Nat.reduceEqDiff, Int.reduceToNat]
 refine zak Try.underlying81 rfl hbA ldA ?_
 try simp only [eX, ↓reduceIte, Nat.reduceEqDiff, Int.reduceToNat]
 refine hK _ _ ?_; clear hK K
 refine zac (fun K hK r => ?_)
 simp only [zaM, l_len, List.map_toArray, List.map_cons, List.map_nil, zaS _ _ Try.underlying81, eX, ↓reduceIte, Nat.reduceEqDiff, Int.reduceToNat]
 refine hK _ _ ?_; clear hK K
 refine zac (fun K hK r => ?_)
 simp (disch := (first | omega | decide)) only [zaF, zaH, b_sub, zaw, zaE, zaD, zaQ, eX, ↓reduceIte, Nat.reduceEqDiff, Int.reduceToNat]
 refine hK _ _ ?_; clear hK K
 refine zao rfl ?_
 refine zae ?_
 try simp only [Ex.thnH, Ex.inBlockH, ↓reduceIte, Nat.reduceEqDiff]
 refine hK1 _ _ ?_; try clear hK1 K1
 refine zaV ?_
 refine CW_loop (fun m e H_ => ∃ (k : Nat) (HJ : Hp), k ≤ ws.length ∧ m = ws.length - k ∧ J k HJ ∧ Le HJ H_ ∧ Env.has [(0, .func yf ya yb), (1, .pointer (some ⟨b1, 0, none⟩)), (3, .int .i64 ((ws.length : Int) - 1 - k))] e) (ws.length) ?_ ?_
 ·skip
  refine ⟨0, H, by omega, by omega, hj, Le.refl _, rfl, rfl, ?_, trivial⟩
  show some (Value.int _ _) = some (Value.int _ _)
  congr 2; omega
 intro m_ e_ H_ hI_
 obtain ⟨k, HJ, hk, rfl, hJ, hlJ, he⟩ := hI_
 have hl0 := Le.trans (hle k HJ hJ) hlJ
 have hk1_ := hl0 _ _ h1
 refine CW_env he.sub ?_; clear he e_
 refine zad (fun K2 hK2 => ?_)
 refine zad (fun K3 hK3 => ?_)
 refine zaa ?_
 refine zam rfl ?_
 refine zac (fun K hK r => ?_)
 simp (disch := (first | omega | decide)) only [zaF, zaH, b_geq, zaq, zar, zat, zau, zas, zav, Bool.not_true, Bool.not_false, eX, ↓reduceIte, Nat.reduceEqDiff, Int.reduceToNat]
 refine hK _ _ ?_; clear hK K
 refine zae ?_
 try simp only [Ex.thnH, Ex.inBlockH, ↓reduceIte, Nat.reduceEqDiff]
 refine hK3 _ _ ?_; try clear hK3 K3
 refine zaG (fun r => rfl) (fun c8 => ?_) (fun c8 => ?_)
 ·first
  |(exfalso; exact cnA c8; done)
  |skip
   (try simp only [decide_eq_true_eq, decide_eq_false_iff_not, Bool.not_eq_true, Bool.not_eq_false, Bool.and_eq_true, Bool.or_eq_true, Bool.or_eq_false_iff, Bool.not_eq_eq_eq_not, Bool.not_true, Bool.not_false] at c8)
   have hkN : k < ws.length := by omega
   obtain ⟨bw, ow, cw, Tw, Fw, ew, hbw, hsw, atw⟩ := (hv.le hl0).at (by omega)
   refine zaO ?_
   try simp only [Ex.thnH, Ex.inBlockH, ↓reduceIte, Nat.reduceEqDiff]
   refine hK2 _ _ ?_; try clear hK2 K2
   refine zad (fun K4 hK4 => ?_)
   refine zaV ?_
   refine zad (fun K5 hK5 => ?_)
   refine zaa ?_
   refine zam rfl ?_
   refine zam rfl ?_
   refine zac (fun K hK r => ?_)
   simp only [zan, eX, ↓reduceIte, Nat.reduceEqDiff, Int.reduceToNat]
   refine zak Try.underlying81 rfl hbA ldA ?_
   try simp only [eX, ↓reduceIte, Nat.reduceEqDiff, Int.reduceToNat]
   refine hK _ _ ?_; clear hK K
   refine zam rfl ?_
   refine zac (fun K hK r => ?_)
   simp only [zaK, eX, ↓reduceIte, Nat.reduceEqDiff, Int.reduceToNat]
   refine zbi Try.underlying81 sz120 ew ixA ixA ?_
   rw [show ((ws.length : Int) - 1 - k).toNat = ws.length - 1 - k from by omega]
   refine hK _ _ ?_; clear hK K
   refine zac (fun K hK r => ?_)
   simp only [zan, eX, ↓reduceIte, Nat.reduceEqDiff, Int.reduceToNat]
   refine zaC Try.underlying120 rfl sz120 hbw (by have := Nat.mul_le_mul_right 65 (show ws.length - 1 - k + 1 ≤ ws.length by omega); omega) ?_
   rw [ext_at Wt.len atw rfl (ws.length - 1 - k) (by omega) hsw]
   refine hK _ _ ?_; clear hK K
   refine zac (fun K hK r => ?_)
   simp only [x_call, List.map_toArray, List.map_cons, List.map_nil, eX, ↓reduceIte, Nat.reduceEqDiff, Int.reduceToNat]
   show ValH _ _ _ _ _
   refine (Iter.yield0 (hy k hkN HJ hJ _ emptyHp ⟨rfl, rfl⟩ (apart_empty _)) hlJ).mono ?_
   rintro v17 H17 ⟨t, H3, rfl, hl3, hyes, hno, _⟩
   try simp only [eX, ↓reduceIte, Nat.reduceEqDiff, Int.reduceToNat]
   refine hK _ _ ?_; clear hK K
   refine zac (fun K hK r => ?_)
   simp only [x_un, u_not, eX, ↓reduceIte, Nat.reduceEqDiff, Int.reduceToNat]
   refine hK _ _ ?_; clear hK K
   refine zae ?_
   try simp only [Ex.thnH, Ex.inBlockH, ↓reduceIte, Nat.reduceEqDiff]
   refine hK5 _ _ ?_; try clear hK5 K5
   refine zaG (fun r => rfl) (fun c18 => ?_) (fun c18 => ?_)
   ·first
    |(exfalso; exact cnA c18; done)
    |skip
     have q18 := c18
     refine zaR ?_
     try simp only [Ex.thnH, Ex.inBlockH, ↓reduceIte, Nat.reduceEqDiff]
     exact ⟨[], trivial, _, Le.refl _, H3, hl3, .inr (hno (by simpa using q18))⟩
   ·first
    |(exfalso; exact cnA c18; done)
    |skip
     have ht : t = true := by simpa using c18
     have hJ3 := hyes ht
     refine zaO ?_
     try simp only [Ex.thnH, Ex.inBlockH, ↓reduceIte, Nat.reduceEqDiff]
     refine hK4 _ _ ?_; try clear hK4 K4
     refine zaa ?_
     refine zam rfl ?_
     refine zac (fun K hK r => ?_)
     simp (disch := (first | omega | decide)) only [zaF, zaH, b_sub, zaw, zaE, zaD, zaQ, eX, ↓reduceIte, Nat.reduceEqDiff, Int.reduceToNat]
     refine hK _ _ ?_; clear hK K
     refine zao rfl ?_
     refine zae ?_
     try simp only [Ex.thnH, Ex.inBlockH, ↓reduceIte, Nat.reduceEqDiff]
     refine ⟨ws.length - (k + 1), by omega, k + 1, H3, by omega, rfl, hJ3, hl3, rfl, rfl, ?_, trivial⟩
     show some (Value.int _ _) = some (Value.int _ _)
     congr 2; omega
 ·first
  |(exfalso; exact cnA c8; done)
  |skip
   (try simp only [decide_eq_true_eq, decide_eq_false_iff_not, Bool.not_eq_true, Bool.not_eq_false, Bool.and_eq_true, Bool.or_eq_true, Bool.or_eq_false_iff, Bool.not_eq_eq_eq_not, Bool.not_true, Bool.not_false] at c8)
   have hkN : k = ws.length := by omega
   refine CW_exit ?_
   try simp only [Ex.thnH, Ex.inBlockH, ↓reduceIte, Nat.reduceEqDiff]
   subst hkN
   exact ⟨[], trivial, _, Le.refl _, HJ, hlJ, .inl hJ⟩
theorem iter_back (H0 : Hp) (b1 : Nat) (a : Option Addr) (cap : Nat) (ws : List Wt) (hv : Holds H0 65 (.slice a ws.length cap) ws.length (wts ws)) (h1 : H0 b1 = some (.cells #[.slice a ws.length cap] 81)) (hl : ws.length ≤ 1000000) : Iter Try.prog (.func (.func 68) #[] #[.pointer (some ⟨b1, 0, none⟩)]) H0 ws.length (TBack ws) :=
  fun yf ya yb J S H hle hy hj => ValH_func bd68 (backward1_ok H0 b1 a cap ws hv h1 hl yf ya yb J S H hle hy hj)
set_option maxRecDepth 100000 in
set_option maxHeartbeats 8000000 in
theorem read_ok (H : Hp) (p : Nat) (s : St) (rd cap : Nat) (bs : List Nat) (Fs : Nat → Hp) (h : SX H p s rd cap bs Fs) (hl : s.dv.length ≤ 1000) (hw : ∀ i, (s.dv.getD i default).wait.length ≤ 1000000) (dev i : Int) : CallH Try.prog 54 #[(.pointer (some ⟨p, 0, none⟩)), .int .i64 dev, .int .i64 i] H (fun v H' => v = .tuple #[(s.rd dev i).1.v, errV (s.rd dev i).2] ∧ H' = H) := by
 refine zaB (l := [_, _, _]) (rl := [.cell 6 45, .cell 7 33]) (n := 45) Try.func54 rfl rfl rfl rfl rfl ?_
 simp only [envOf, Nat.reduceAdd]
 refine zad (fun K1 hK1 => ?_)
 refine zaa ?_
 refine zac (fun K hK r => ?_)
 simp only [x_box, Value.cells, eX, ↓reduceIte, Nat.reduceEqDiff, Int.reduceToNat]
 intro b5 hb5
 have f5_H : H b5 = none := zaj lhA hb5
 try simp only [eX, ↓reduceIte, Nat.reduceEqDiff, Int.reduceToNat]
 refine hK _ _ ?_; clear hK K
 refine zac (fun K hK r => ?_)
 simp only [x_alloc, zr45, zal, Value.cells, eX, ↓reduceIte, Nat.reduceEqDiff, Int.reduceToNat]
 intro b6 hb6
 try have n6_b5 : b5 ≠ b6 := zai hbA hb6
 have f6_H : H b6 = none := zaj lhA hb6
 try simp only [eX, ↓reduceIte, Nat.reduceEqDiff, Int.reduceToNat]
 refine hK _ _ ?_; clear hK K
 refine zac (fun K hK r => ?_)
 simp only [x_alloc, zr33, zal, Value.cells, eX, ↓reduceIte, Nat.reduceEqDiff, Int.reduceToNat]
 intro b7 hb7
 try have n7_b5 : b5 ≠ b7 := zai hbA hb7
 try have n7_b6 : b6 ≠ b7 := zai hbA hb7
 have f7_H : H b7 = none := zaj lhA hb7
 try simp only [eX, ↓reduceIte, Nat.reduceEqDiff, Int.reduceToNat]
 refine hK _ _ ?_; clear hK K
 refine zae ?_
 try simp only [Ex.thnH, Ex.inBlockH, ↓reduceIte, Nat.reduceEqDiff]
 refine hK1 _ _ ?_; try clear hK1 K1
 refine zad (fun K2 hK2 => ?_)
 refine zaa ?_
 refine zam rfl ?_
 refine zam rfl ?_
 refine zac (fun K hK r => ?_)
 simp only [zaT _ bd46, List.map_toArray, List.map_cons, List.map_nil, eX, ↓reduceIte, Nat.reduceEqDiff, Int.reduceToNat]
 refine (device_ok _ p s rd cap bs Fs (h.mono lhA) dev hl).mono ?_
 rintro v H' ⟨rfl, rfl⟩
 try simp only [eX, ↓reduceIte, Nat.reduceEqDiff, Int.reduceToNat]
 refine hK _ _ ?_; clear hK K
 refine zao rfl ?_
 refine zae ?_
 try simp only [Ex.thnH, Ex.inBlockH, ↓reduceIte, Nat.reduceEqDiff]
 refine hK2 _ _ ?_; try clear hK2 K2
 refine zad (fun K3 hK3 => ?_)
 refine zaV ?_
 refine zad (fun K4 hK4 => ?_)
 refine zaa ?_
 refine zam rfl ?_
 refine zac (fun K hK r => ?_)
 simp only [zaT _ bd52, List.map_toArray, List.map_cons, List.map_nil, eX, ↓reduceIte, Nat.reduceEqDiff, Int.reduceToNat]
 refine (down_ok _ p s rd cap bs Fs (h.mono lhA)).mono ?_
 rintro v H' ⟨rfl, rfl⟩
 try simp only [eX, ↓reduceIte, Nat.reduceEqDiff, Int.reduceToNat]
 refine hK _ _ ?_; clear hK K
 refine zao rfl ?_
 refine zae ?_
 try simp only [Ex.thnH, Ex.inBlockH, ↓reduceIte, Nat.reduceEqDiff]
 refine hK4 _ _ ?_; try clear hK4 K4
 refine zaG (fun r => rfl) (fun c14 => ?_) (fun c14 => ?_)
 ·first
  |(exfalso; exact cnA c14; done)
  |skip
   have hgo : s.gone = true := c14
   refine zad (fun K5 hK5 => ?_)
   refine zaa ?_
   refine zac (fun K hK r => ?_)
   simp only [x_build, List.map_toArray, List.map_cons, List.map_nil, eX, ↓reduceIte, Nat.reduceEqDiff, Int.reduceToNat]
   rw [l_buildArr Try.underlying45 sz5 zr45]
   simp only [Value.cells]
   simp only [fill_nil, zal, List.setIfInBounds_toArray, List.set_cons_zero, List.set_cons_succ]
   try simp only [eX, ↓reduceIte, Nat.reduceEqDiff, Int.reduceToNat]
   refine hK _ _ ?_; clear hK K
   refine zac (fun K hK r => ?_)
   simp only [zbf, zbg, Try.underlying73, zal, eX, ↓reduceIte, Nat.reduceEqDiff, Int.reduceToNat]
   refine hK _ _ ?_; clear hK K
   refine zbq rfl (zaJ) (fun K hK r => ?_)
   simp only [zaL, eX, ↓reduceIte, Nat.reduceEqDiff, Int.reduceToNat]
   first | refine zaz sz45 bdA hbA bdA plA (by decide) ?_ | refine zaI sz45 bdA hbA bdA plA (by decide) ?_
   try simp only [eX, ↓reduceIte, Nat.reduceEqDiff, Int.reduceToNat]
   refine hK _ _ ?_; clear hK K
   refine zbq rfl (zaJ) (fun K hK r => ?_)
   simp only [zaL, eX, ↓reduceIte, Nat.reduceEqDiff, Int.reduceToNat]
   refine zaY sz33 hbA bdA plA fzA ?_
   try simp only [setL0, setL1, setL2, setL3, setL4, setL5, setL6, setL7, setL8, setL9]
   try simp only [eX, ↓reduceIte, Nat.reduceEqDiff, Int.reduceToNat]
   refine hK _ _ ?_; clear hK K
   refine zae ?_
   try simp only [Ex.thnH, Ex.inBlockH, ↓reduceIte, Nat.reduceEqDiff]
   refine hK5 _ _ ?_; try clear hK5 K5
   refine zaR ?_
   try simp only [Ex.thnH, Ex.inBlockH, ↓reduceIte, Nat.reduceEqDiff]
   refine ⟨[_, _], ⟨⟨_, rfl, zbd Try.underlying45 rfl sz45 hbA (by simp [Sec.h])⟩, ⟨_, rfl, Lq_load1 Try.underlying33 rfl hbA ldA⟩, trivial⟩, H, lhA, ?_, rfl⟩
   show Value.tuple _ = _
   unfold St.rd; rw [if_pos hgo]; rfl
 ·first
  |(exfalso; exact cnA c14; done)
  |skip
   have hgo : s.gone = false := by simpa using c14
   refine zad (fun K6 hK6 => ?_)
   refine zaa ?_
   refine zam rfl ?_
   refine zac (fun K hK r => ?_)
   simp only [zan, eX, ↓reduceIte, Nat.reduceEqDiff, Int.reduceToNat]
   refine zak Try.underlying3 rfl hbA ldA ?_
   try simp only [eX, ↓reduceIte, Nat.reduceEqDiff, Int.reduceToNat]
   refine hK _ _ ?_; clear hK K
   refine zac (fun K hK r => ?_)
   simp only [zaT _ bd47, List.map_toArray, List.map_cons, List.map_nil, eX, ↓reduceIte, Nat.reduceEqDiff, Int.reduceToNat]
   refine (has_dev _ p s rd cap bs Fs (h.mono lhA) dev i).mono ?_
   rintro v H' ⟨rfl, rfl⟩
   try simp only [eX, ↓reduceIte, Nat.reduceEqDiff, Int.reduceToNat]
   refine hK _ _ ?_; clear hK K
   refine zac (fun K hK r => ?_)
   simp only [x_un, u_not, eX, ↓reduceIte, Nat.reduceEqDiff, Int.reduceToNat]
   refine hK _ _ ?_; clear hK K
   refine zao rfl ?_
   refine zae ?_
   try simp only [Ex.thnH, Ex.inBlockH, ↓reduceIte, Nat.reduceEqDiff]
   refine hK6 _ _ ?_; try clear hK6 K6
   refine zaG (fun r => rfl) (fun c19 => ?_) (fun c19 => ?_)
   ·first
    |(exfalso; exact cnA c19; done)
    |skip
     (try simp only [decide_eq_true_eq, decide_eq_false_iff_not, Bool.not_eq_true, Bool.not_eq_false, Bool.and_eq_true, Bool.or_eq_true, Bool.or_eq_false_iff, Bool.not_eq_eq_eq_not, Bool.not_true, Bool.not_false] at c19)
     have hno : s.has dev i = false := by simpa using c19
     refine zad (fun K7 hK7 => ?_)
     refine zaa ?_
     refine zac (fun K hK r => ?_)
     simp only [x_build, List.map_toArray, List.map_cons, List.map_nil, eX, ↓reduceIte, Nat.reduceEqDiff, Int.reduceToNat]
     rw [l_buildArr Try.underlying45 sz5 zr45]
     simp only [Value.cells]
     simp only [fill_nil, zal, List.setIfInBounds_toArray, List.set_cons_zero, List.set_cons_succ]
     try simp only [eX, ↓reduceIte, Nat.reduceEqDiff, Int.reduceToNat]
     refine hK _ _ ?_; clear hK K
     refine zac (fun K hK r => ?_)
     simp only [zbf, zbg, Try.underlying73, zal, eX, ↓reduceIte, Nat.reduceEqDiff, Int.reduceToNat]
     refine hK _ _ ?_; clear hK K
     refine zbq rfl (zaJ) (fun K hK r => ?_)
     simp only [zaL, eX, ↓reduceIte, Nat.reduceEqDiff, Int.reduceToNat]
     first | refine zaz sz45 bdA hbA bdA plA (by decide) ?_ | refine zaI sz45 bdA hbA bdA plA (by decide) ?_
     try simp only [eX, ↓reduceIte, Nat.reduceEqDiff, Int.reduceToNat]
     refine hK _ _ ?_; clear hK K
     refine zbq rfl (zaJ) (fun K hK r => ?_)
     simp only [zaL, eX, ↓reduceIte, Nat.reduceEqDiff, Int.reduceToNat]
     refine zaY sz33 hbA bdA plA fzA ?_
     try simp only [setL0, setL1, setL2, setL3, setL4, setL5, setL6, setL7, setL8, setL9]
     try simp only [eX, ↓reduceIte, Nat.reduceEqDiff, Int.reduceToNat]
     refine hK _ _ ?_; clear hK K
     refine zae ?_
     try simp only [Ex.thnH, Ex.inBlockH, ↓reduceIte, Nat.reduceEqDiff]
     refine hK7 _ _ ?_; try clear hK7 K7
     refine zaR ?_
     try simp only [Ex.thnH, Ex.inBlockH, ↓reduceIte, Nat.reduceEqDiff]
     refine ⟨[_, _], ⟨⟨_, rfl, zbd Try.underlying45 rfl sz45 hbA (by simp [Sec.h])⟩, ⟨_, rfl, Lq_load1 Try.underlying33 rfl hbA ldA⟩, trivial⟩, H, lhA, ?_, rfl⟩
     show Value.tuple _ = _
     unfold St.rd; rw [if_neg (by rw [hgo]; simp), if_neg (by rw [hno]; simp)]; rfl
   ·first
    |(exfalso; exact cnA c19; done)
    |skip
     (try simp only [decide_eq_true_eq, decide_eq_false_iff_not, Bool.not_eq_true, Bool.not_eq_false, Bool.and_eq_true, Bool.or_eq_true, Bool.or_eq_false_iff, Bool.not_eq_eq_eq_not, Bool.not_true, Bool.not_false] at c19)
     have hyes : s.has dev i = true := by simpa using c19
     have hin : 0 ≤ dev ∧ dev < s.dv.length := by unfold St.has at hyes; simp at hyes; omega
     have hk : dev.toNat < s.dv.length := by omega
     have hdv : devV s bs dev = ptrV (bs.getD dev.toNat 0) := by unfold devV; rw [if_pos hin]
     simp only [hdv]
     have hwl := hw dev.toNat
     obtain ⟨b, hbd⟩ : ∃ b, b = bs.getD dev.toNat 0 := ⟨_, rfl⟩
     obtain ⟨d, hd0⟩ : ∃ d, d = s.dv.getD dev.toNat default := ⟨_, rfl⟩
     have hrd : s.rd dev i = (d.read i, none) := by unfold St.rd; rw [if_neg (by rw [hgo]; simp), if_pos hyes, hd0]
     rw [← hd0] at hwl
     simp only [← hbd]
     obtain ⟨mb, es, c, wv, wrs, hb0, hm0, hms, how, hbm, hwb, hwm⟩ := (hd0 ▸ hbd ▸ h.dev dev.toNat hk : DvX (Fs dev.toNat) b d).facts
     obtain ⟨wa, wcp, rfl⟩ := how.holds.form
     have hleF := h.le dev.toNat hk
     have kb := hleF _ _ hb0
     have km := hleF _ _ hm0
     have nb5 : b ≠ b5 := zai kb f5_H
     have nb6 : b ≠ b6 := zai kb f6_H
     have nb7 : b ≠ b7 := zai kb f7_H
     simp only [ptrV]
     refine zaO ?_
     try simp only [Ex.thnH, Ex.inBlockH, ↓reduceIte, Nat.reduceEqDiff]
     refine hK3 _ _ ?_; try clear hK3 K3
     refine zad (fun K8 hK8 => ?_)
     refine zad (fun K9 hK9 => ?_)
     refine zaa ?_
     refine zam rfl ?_
     refine zac (fun K hK r => ?_)
     rw [zbh _ _ rfl]
     simp only [eX, ↓reduceIte, Nat.reduceEqDiff, Int.reduceToNat]
     refine hK _ _ ?_; clear hK K
     refine zac (fun K hK r => ?_)
     simp only [zah, fa83_2, zap, Nat.reduceAdd, Nat.zero_add, eX, ↓reduceIte, Nat.reduceEqDiff, Int.reduceToNat]
     refine hK _ _ ?_; clear hK K
     refine zac (fun K hK r => ?_)
     simp only [zan, eX, ↓reduceIte, Nat.reduceEqDiff, Int.reduceToNat]
     refine zak Try.underlying81 rfl hbA ldA ?_
     try simp only [eX, ↓reduceIte, Nat.reduceEqDiff, Int.reduceToNat]
     refine hK _ _ ?_; clear hK K
     refine zac (fun K hK r => ?_)
     simp only [zaT _ bd64, List.map_toArray, List.map_cons, List.map_nil, eX, ↓reduceIte, Nat.reduceEqDiff, Int.reduceToNat]
     refine (Backward_ok _ wa d.wait.length wcp).mono ?_
     rintro v30 H30 ⟨b30, hb30, rfl, hH30⟩
     have f30 : H b30 = none := zaj lhA hb30
     have l30 : Le H H30 := by rw [hH30]; exact zaP lhA f30
     have k30 : H30 b30 = some (.cells #[.slice wa d.wait.length wcp] 81) := by rw [hH30]; exact zax _ _ _
     have k5 : H30 b5 = some (.cells #[.int .i64 i] 3) := by rw [hH30]; exact (zaA _ _ (zai hbA hb30)).trans hbA
     have k6 : H30 b6 = some (.cells (Array.replicate 64 (.int .u8 0)) 45) := by rw [hH30]; exact (zaA _ _ (zai hbA hb30)).trans hbA
     have k7 : H30 b7 = some (.cells #[.nilIface] 33) := by rw [hH30]; exact (zaA _ _ (zai hbA hb30)).trans hbA
     try simp only [eX, ↓reduceIte, Nat.reduceEqDiff, Int.reduceToNat]
     refine hK _ _ ?_; clear hK K
     refine zae ?_
     try simp only [Ex.thnH, Ex.inBlockH, ↓reduceIte, Nat.reduceEqDiff]
     refine hK9 _ _ ?_; try clear hK9 K9
     refine zaV ?_
     refine CW_rangeFunc (fun r => rfl) (iter_back H30 b30 wa wcp d.wait (how.holds.le (Le.trans hleF l30)) k30 hwl) (fun j H_ => Le H30 H_ ∧ ∀ t, t < j → (d.wait.getD (d.wait.length - 1 - t) default).at_ ≠ i) ?_ ?_ (by decide) ?_ ?_
     ·skip
      exact fun j H_ hj => hj.1
     ·skip
      exact ⟨Le.refl _, fun t ht => absurd ht (by omega)⟩
     ·intro l_ i_ hi_ H_ hI_ args_ F_ hT_ hF_
      obtain ⟨hl_, hno_⟩ := hI_
      obtain ⟨rfl, rfl⟩ := hT_
      rw [join_empty]
      have hlH := Le.trans l30 hl_
      have q5 := hl_ _ _ k5
      have q6 := hl_ _ _ k6
      have q7 := hl_ _ _ k7
      refine ⟨rfl, ?_⟩
      simp only [putAll, List.zip_cons_cons, List.zip_nil_right, List.zip_nil_left, eX, ↓reduceIte, Nat.reduceEqDiff, Int.reduceToNat]
      refine zaa ?_
      refine zac (fun K hK r => ?_)
      simp only [x_alloc, zr120, zal, Value.cells, eX, ↓reduceIte, Nat.reduceEqDiff, Int.reduceToNat]
      intro b10 hb10
      try have n10_b5 : b5 ≠ b10 := zai hbA hb10
      try have n10_b6 : b6 ≠ b10 := zai hbA hb10
      try have n10_b7 : b7 ≠ b10 := zai hbA hb10
      have f10_H : H b10 = none := zaj lhA hb10
      try simp only [eX, ↓reduceIte, Nat.reduceEqDiff, Int.reduceToNat]
      refine hK _ _ ?_; clear hK K
      refine zbq rfl (zaJ) (fun K hK r => ?_)
      simp only [zaL, eX, ↓reduceIte, Nat.reduceEqDiff, Int.reduceToNat]
      refine zaz sz120 (by simp [Sec.h]) hbA (by simp [Sec.h]) (Wt.plain _) (by decide) ?_
      refine hK _ _ ?_; clear hK K
      refine zae ?_
      try simp only [Ex.thnH, Ex.inBlockH, ↓reduceIte, Nat.reduceEqDiff]
      first | refine ⟨rfl, ?_⟩ | refine ⟨trivial, ?_⟩
      refine zaV ?_
      refine zad (fun K10 hK10 => ?_)
      refine zaa ?_
      refine zac (fun K hK r => ?_)
      simp only [zah, fa120_0, zap, Nat.reduceAdd, Nat.zero_add, eX, ↓reduceIte, Nat.reduceEqDiff, Int.reduceToNat]
      refine hK _ _ ?_; clear hK K
      refine zac (fun K hK r => ?_)
      simp only [zan, eX, ↓reduceIte, Nat.reduceEqDiff, Int.reduceToNat]
      refine zak Try.underlying3 rfl hbA (wt_at (d.wait.getD (d.wait.length - 1 - i_) default)) ?_
      refine hK _ _ ?_; clear hK K
      refine zac (fun K hK r => ?_)
      simp only [zan, eX, ↓reduceIte, Nat.reduceEqDiff, Int.reduceToNat]
      refine zak Try.underlying3 rfl hbA ldA ?_
      try simp only [eX, ↓reduceIte, Nat.reduceEqDiff, Int.reduceToNat]
      refine hK _ _ ?_; clear hK K
      refine zac (fun K hK r => ?_)
      simp (disch := (first | omega | decide)) only [zaF, zaH, b_eql, zaq, zar, zat, zau, zas, zav, Bool.not_true, Bool.not_false, eX, ↓reduceIte, Nat.reduceEqDiff, Int.reduceToNat]
      refine hK _ _ ?_; clear hK K
      refine zae ?_
      try simp only [Ex.thnH, Ex.inBlockH, ↓reduceIte, Nat.reduceEqDiff]
      refine hK10 _ _ ?_; try clear hK10 K10
      refine zaG (fun r => rfl) (fun c36 => ?_) (fun c36 => ?_)
      ·first
       |(exfalso; exact cnA c36; done)
       |skip
        (try simp only [decide_eq_true_eq, decide_eq_false_iff_not, Bool.not_eq_true, Bool.not_eq_false, Bool.and_eq_true, Bool.or_eq_true, Bool.or_eq_false_iff, Bool.not_eq_eq_eq_not, Bool.not_true, Bool.not_false] at c36)
        refine zad (fun K11 hK11 => ?_)
        refine zaa ?_
        refine zac (fun K hK r => ?_)
        simp only [zah, fa120_1, zap, Nat.reduceAdd, Nat.zero_add, eX, ↓reduceIte, Nat.reduceEqDiff, Int.reduceToNat]
        refine hK _ _ ?_; clear hK K
        refine zac (fun K hK r => ?_)
        simp only [zan, eX, ↓reduceIte, Nat.reduceEqDiff, Int.reduceToNat]
        refine zaC Try.underlying45 rfl sz45 hbA (by simp [Sec.h]) ?_
        rw [wt_x]
        refine hK _ _ ?_; clear hK K
        refine zbq rfl (zaJ) (fun K hK r => ?_)
        simp only [zaL, eX, ↓reduceIte, Nat.reduceEqDiff, Int.reduceToNat]
        refine zaz sz45 (by simp [Sec.h]) hbA (by simp [Sec.h]) (PlainL.ints _ _) (by decide) ?_
        refine hK _ _ ?_; clear hK K
        refine zbq rfl (zaJ) (fun K hK r => ?_)
        simp only [zaL, eX, ↓reduceIte, Nat.reduceEqDiff, Int.reduceToNat]
        refine zaY sz33 hbA bdA plA fzA ?_
        try simp only [setL0, setL1, setL2, setL3, setL4, setL5, setL6, setL7, setL8, setL9]
        try simp only [eX, ↓reduceIte, Nat.reduceEqDiff, Int.reduceToNat]
        refine hK _ _ ?_; clear hK K
        refine zae ?_
        try simp only [Ex.thnH, Ex.inBlockH, ↓reduceIte, Nat.reduceEqDiff]
        refine hK11 _ _ ?_; try clear hK11 K11
        refine zaR ?_
        try simp only [Ex.thnH, Ex.inBlockH, ↓reduceIte, Nat.reduceEqDiff]
        refine ⟨[_, _], ⟨⟨_, rfl, zbd Try.underlying45 rfl sz45 hbA (by simp [Sec.h])⟩, ⟨_, rfl, Lq_load1 Try.underlying33 rfl hbA ldA⟩, trivial⟩, H, lhA, ?_, rfl⟩
        show Value.tuple _ = _
        rw [hrd]
        unfold Dv.read
        rw [lastW_at (k := d.wait.length - 1 - i_) (by omega) c36 (fun j hj hjl => by have := hno_ (d.wait.length - 1 - j) (by omega); rwa [show d.wait.length - 1 - (d.wait.length - 1 - j) = j from by omega] at this)]
        rfl
      ·first
       |(exfalso; exact cnA c36; done)
       |skip
        (try simp only [decide_eq_true_eq, decide_eq_false_iff_not, Bool.not_eq_true, Bool.not_eq_false, Bool.and_eq_true, Bool.or_eq_true, Bool.or_eq_false_iff, Bool.not_eq_eq_eq_not, Bool.not_true, Bool.not_false] at c36)
        refine zaO ?_
        try simp only [Ex.thnH, Ex.inBlockH, ↓reduceIte, Nat.reduceEqDiff]
        refine ⟨zaP hl_ (zaj hl_ hb10), fun t ht => ?_⟩
        by_cases e : t = i_
        ·subst e; exact c36
        ·exact hno_ t (by omega)
     intro H_ hI_
     obtain ⟨hl_, hno_⟩ := hI_
     have hlH := Le.trans l30 hl_
     have q5 := hl_ _ _ k5
     have q6 := hl_ _ _ k6
     have q7 := hl_ _ _ k7
     have qb := hlH _ _ kb
     have qm := hlH _ _ km
     try simp only [Ex.thnH, Ex.inBlockH, ↓reduceIte, Nat.reduceEqDiff]
     refine hK8 _ _ ?_; try clear hK8 K8
     refine zad (fun K12 hK12 => ?_)
     refine CW_drawE [0, 0, 0, 1, 1, 1, 3, 3] [0, 1, 2, 3, 4, 5, 6, 7] (by kernel_rfl) (by kernel_rfl) (fun R10 hR10 => ?_)
     apply zay rfl (zab (by decide)) rfl
     ·intro r
      simp only [zaU, eX, ↓reduceIte, Nat.reduceEqDiff]
      exact ⟨rfl, Le.refl _⟩
     simp only [eX, ↓reduceIte, Nat.reduceEqDiff, Int.reduceToNat]
     apply zay rfl (zab (by decide)) rfl
     ·intro r
      rw [zbh _ _ rfl]
      exact ⟨rfl, Le.refl _⟩
     simp only [eX, ↓reduceIte, Nat.reduceEqDiff, Int.reduceToNat]
     apply zay rfl (zab (by decide)) rfl
     ·intro r
      simp only [zah, fa83_1, zap, Nat.reduceAdd, Nat.zero_add, eX, ↓reduceIte, Nat.reduceEqDiff]
      exact ⟨rfl, Le.refl _⟩
     simp only [eX, ↓reduceIte, Nat.reduceEqDiff, Int.reduceToNat]
     apply TW_look rfl (zab (by decide)) rfl
     ·intro r
      simp only [zan, eX, ↓reduceIte, Nat.reduceEqDiff]
      refine zak Try.underlying80 rfl hbA ldA ?_
      exact ⟨rfl, Le.refl _⟩
     simp only [eX, ↓reduceIte, Nat.reduceEqDiff, Int.reduceToNat]
     apply TW_look rfl (zab (by decide)) rfl
     ·intro r
      simp only [zan, eX, ↓reduceIte, Nat.reduceEqDiff]
      refine zak Try.underlying3 rfl hbA ldA ?_
      exact ⟨rfl, Le.refl _⟩
     simp only [eX, ↓reduceIte, Nat.reduceEqDiff, Int.reduceToNat]
     apply TW_look rfl (zab (by decide)) rfl
     ·intro r
      simp only [x_lookup, eX, ↓reduceIte, Nat.reduceEqDiff]
      refine Lt_lookup Try.underlying80 Try.underlying3 zr45 hbA hms.1 ?_
      rw [hms.2]
      exact ⟨rfl, Le.refl _⟩
     simp only [eX, ↓reduceIte, Nat.reduceEqDiff, Int.reduceToNat]
     refine TW_last rfl (zaJ) rfl (fun K hK r => ?_)
     simp only [zaL, eX, ↓reduceIte, Nat.reduceEqDiff, Int.reduceToNat]
     refine zaz sz45 (by simp [Sec.h]) hbA (by simp [Sec.h]) (PlainL.ints _ _) (by decide) ?_
     refine hK _ _ ?_; clear hK K
     refine TW_last rfl (zaJ) rfl (fun K hK r => ?_)
     simp only [zaL, eX, ↓reduceIte, Nat.reduceEqDiff, Int.reduceToNat]
     refine zaY sz33 hbA bdA plA fzA ?_
     try simp only [setL0, setL1, setL2, setL3, setL4, setL5, setL6, setL7, setL8, setL9]
     try simp only [eX, ↓reduceIte, Nat.reduceEqDiff, Int.reduceToNat]
     refine hK _ _ ?_; clear hK K
     refine TW_nil ?_
     try simp only [Ex.thnH, Ex.inBlockH, ↓reduceIte, Nat.reduceEqDiff]
     refine hK12 _ _ ?_; try clear hK12 K12
     refine zaR ?_
     try simp only [Ex.thnH, Ex.inBlockH, ↓reduceIte, Nat.reduceEqDiff]
     refine ⟨[_, _], ⟨⟨_, rfl, zbd Try.underlying45 rfl sz45 hbA (by simp [Sec.h])⟩, ⟨_, rfl, Lq_load1 Try.underlying33 rfl hbA ldA⟩, trivial⟩, H, lhA, ?_, rfl⟩
     show Value.tuple _ = _
     rw [hrd]
     unfold Dv.read
     rw [lastW_none (fun j hj => by have := hno_ (d.wait.length - 1 - j) (by omega); rwa [show d.wait.length - 1 - (d.wait.length - 1 - j) = j from by omega] at this)]
     rfl
end Go.Proofs.Ytcjdkfhmlnfedaa.HL
end
section
namespace Go.Proofs.Ytcjdkfhmlnfedaa.HL
open Go Go.Proofs
set_option linter.unusedSimpArgs false
set_option linter.unusedVariables false
attribute [local irreducible] Lt Lq CW OW TW CallH

def SetF (F : Hp) (p : Nat) (s : St) : Prop := SetX F p s
theorem DvX.own {F : Hp} {b : Nat} {d : Dv} (h : DvX F b d) : F b ≠ none := by obtain ⟨m, wv, e⟩ := h.blk; rw [e]; simp
theorem SX.cut {F : Hp} {p : Nat} {s : St} {r cap : Nat} {bs : List Nat} {Fs : Nat → Hp} (h : SX F p s r cap bs Fs) : ∃ F', Le F' F ∧ SX F' p s r cap bs Fs ∧ ∀ x, F' x ≠ none → x = p ∨ x = r ∨ ∃ i, i < s.dv.length ∧ Fs i x ≠ none := by
  classical
  refine ⟨fun x => if x = p ∨ x = r ∨ ∃ i, i < s.dv.length ∧ Fs i x ≠ none then F x else none, fun x o hx => ?_, ⟨by simpa using h.hd, h.len, ?_, h.dev, fun i hi x o hx => ?_, h.fp, h.sep⟩, fun x hx => ?_⟩
  · by_cases hc : x = p ∨ x = r ∨ ∃ i, i < s.dv.length ∧ Fs i x ≠ none
    · simpa only [if_pos hc] using hx
    · simp only [if_neg hc] at hx; cases hx
  · exact h.own.stay (fun b o hb ho => by cases hb; simpa using ho)
  · have hc : x = p ∨ x = r ∨ ∃ i, i < s.dv.length ∧ Fs i x ≠ none := .inr (.inr ⟨i, hi, by rw [hx]; simp⟩)
    simp only [if_pos hc]; exact h.le i hi x o hx
  · by_cases hc : x = p ∨ x = r ∨ ∃ i, i < s.dv.length ∧ Fs i x ≠ none
    · exact hc
    · simp only [if_neg hc] at hx; exact absurd rfl hx
end Go.Proofs.Ytcjdkfhmlnfedaa.HL
end
section
namespace Go.Proofs.Ytcjdkfhmlnfedaa.HL
open Go Go.Proofs
set_option linter.unusedSimpArgs false
set_option linter.unusedVariables false
attribute [local irreducible] Lt Lq CW OW TW CallH
def okN (n : Int) : Bool := decide (1 ≤ n) && decide (n ≤ 4096)
def newDv (n : Int) : Dv := ⟨n, fun _ => Sec.zero, []⟩
def newSt (l : List Int) : St := ⟨0, 0, false, false, l.map newDv⟩
def goodN (l : List Int) : Bool := decide (1 ≤ l.length) && decide (l.length ≤ 5) && l.all okN
structure NX (H0 H : Hp) (p : Nat) (l : List Int) (k : Nat) (v : Value) (rs : Option Nat) (bs : List Nat) (Fs : Nat → Hp) : Prop where
  hd : H p = some (.cells #[.int .i64 0, .int .i64 0, .bool false, .bool false, v] 78)
  len : bs.length = k
  own : OwnS H 79 1 v k (bs.map ptrV) rs
  dev : ∀ i, i < k → DvX (Fs i) (bs.getD i 0) (newDv (l.getD i default))
  le : ∀ i, i < k → Le (Fs i) H
  fp : ∀ i, i < k → Fs i p = none ∧ ∀ r, rs = some r → Fs i r = none
  sep : ∀ i j, i < k → j < k → i ≠ j → ∀ x, Fs i x ≠ none → Fs j x = none
  fr : ∀ i, i < k → ∀ x, Fs i x ≠ none → H0 x = none
  frr : ∀ r, rs = some r → H0 r = none
  frp : H0 p = none
  old : Le H0 H
theorem good_bad {l : List Int} {k : Nat} (hk : k < l.length) (h : okN (l.getD k default) = false) : goodN l = false := by
  unfold goodN
  have : l.all okN = false := by
    rw [List.all_eq_false]
    rw [List.getD_eq_getElem?_getD, List.getElem?_eq_getElem hk] at h
    exact ⟨l[k], List.getElem_mem hk, by simpa using h⟩
  rw [this]; simp
theorem good_all {l : List Int} (h1 : 1 ≤ l.length) (h2 : l.length ≤ 5) (h : ∀ j, j < l.length → okN (l.getD j default) = true) : goodN l = true := by
  unfold goodN
  have : l.all okN = true := by
    rw [List.all_eq_true]
    intro x hx
    obtain ⟨j, hj, rfl⟩ := List.mem_iff_getElem.1 hx
    have := h j hj
    rwa [List.getD_eq_getElem?_getD, List.getElem?_eq_getElem hj] at this
  rw [this]; simp [h1, h2]
theorem ints_get {l : List Int} {c : Array Value} {o n : Nat} (h : ∀ j, j < n * 1 → c[o + j]? = (l.map (Value.int .i64))[j]?) (hn : n = l.length) (k : Nat) (hk : k < l.length) : c[o + k]? = some (.int .i64 (l.getD k default)) := by
  rw [h k (by omega), List.getElem?_map, List.getElem?_eq_getElem hk, List.getD_eq_getElem?_getD, List.getElem?_eq_getElem hk]; rfl
theorem NX.ne {H0 H : Hp} {p : Nat} {l : List Int} {k : Nat} {v : Value} {rs : Option Nat} {bs : List Nat} {Fs : Nat → Hp} (h : NX H0 H p l k v rs bs Fs) : rs ≠ some p := fun e => by
  obtain ⟨_, ⟨_, _, h0⟩ | ⟨r', cc, c', _, g2, _, _, _, g3⟩⟩ := h.own
  · rw [e] at h0; cases h0
  · rw [e] at g3; cases g3; rw [h.hd] at g2; injection g2 with g2; injection g2 with _ g2; revert g2; decide
theorem NX.next {H0 H HF : Hp} {p : Nat} {l : List Int} {k : Nat} {v : Value} {rs : Option Nat} {bs : List Nat} {Fs : Nat → Hp} (h : NX H0 H p l k v rs bs Fs) {bm b : Nat} (hm : H bm = none) (hb : H b = none) (hmb : bm ≠ b) {v' : Value} {rs' : Option Nat}
    (hhd : HF p = some (.cells #[.int .i64 0, .int .i64 0, .bool false, .bool false, v'] 78)) (hown : OwnS HF 79 1 v' (k + 1) (bs.map ptrV ++ [ptrV b]) rs') (hfm : HF bm = some (.map #[] 0)) (hfb : HF b = some (.cells #[.int .i64 (l.getD k default), .map (some bm), .slice none 0 0] 83))
    (hkeep : ∀ x o, H x = some o → x ≠ p → rs ≠ some x → HF x = some o) (hr : ∀ r, rs' = some r → rs = some r ∨ (H r = none ∧ r ≠ bm ∧ r ≠ b)) :
    NX H0 HF p l (k + 1) v' rs' (bs ++ [b]) (fun i => if i = k then (emptyHp.upd bm (.map #[] 0)).upd b (.cells #[.int .i64 (l.getD k default), .map (some bm), .slice none 0 0] 83) else Fs i) := by
  have dF : ∀ x, ((emptyHp.upd bm (.map #[] 0)).upd b (.cells #[.int .i64 (l.getD k default), .map (some bm), .slice none 0 0] 83)) x ≠ none → x = bm ∨ x = b := fun x hx => by
    by_cases e : x = b
    · exact .inr e
    · by_cases e2 : x = bm
      · exact .inl e2
      · rw [zaA _ _ e, zaA _ _ e2] at hx; exact absurd rfl hx
  have dn : ∀ x, H x ≠ none → ((emptyHp.upd bm (.map #[] 0)).upd b (.cells #[.int .i64 (l.getD k default), .map (some bm), .slice none 0 0] 83)) x = none := fun x hx => by
    rw [zaA _ _ (fun e => by subst e; exact hx hb), zaA _ _ (fun e => by subst e; exact hx hm)]; rfl
  have hkp : ∀ i, i < k → ∀ x, Fs i x ≠ none → H x ≠ none := fun i hi x hx hn => hx (zaj (h.le i hi) hn)
  refine ⟨hhd, by simp [h.len], by rw [List.map_append]; exact hown, fun i hi => ?_, fun i hi => ?_, fun i hi => ?_, fun i j hi hj hij x hx => ?_, fun i hi x hx => ?_, fun r e => ?_, h.frp, fun x o hx => hkeep x o (h.old x o hx) (fun e => by subst e; rw [h.frp] at hx; cases hx) (fun e => by rw [h.frr x e] at hx; cases hx)⟩
  · by_cases e : i = k
    · subst e
      simp only [if_true]
      have eb : (bs ++ [b]).getD i 0 = b := by rw [← h.len]; simp [List.getD_eq_getElem?_getD]
      rw [eb]
      exact ⟨bm, #[], 0, .slice none 0 0, none, zax _ _ _, (zaA _ _ hmb).trans (zax _ _ _), MapS.nil, OwnS.nil _ _ _, fun x hx => (dF x hx).elim (fun e => .inr (.inl e)) .inl⟩
    · simp only [if_neg e]
      have eb : (bs ++ [b]).getD i 0 = bs.getD i 0 := by
        rw [List.getD_eq_getElem?_getD, List.getD_eq_getElem?_getD, List.getElem?_append_left (by rw [h.len]; omega)]
      rw [eb]; exact h.dev i (by omega)
  · by_cases e : i = k
    · subst e; simp only [if_true]; exact le_put (le_put (le_empty _) hfm) hfb
    · simp only [if_neg e]
      have hi' : i < k := by omega
      exact fun x o hx => hkeep x o (h.le i hi' x o hx) (fun e => by subst e; rw [(h.fp i hi').1] at hx; cases hx) (fun e => by rw [(h.fp i hi').2 x e] at hx; cases hx)
  · by_cases e : i = k
    · subst e; simp only [if_true]
      refine ⟨dn p (by rw [h.hd]; simp), fun r e => ?_⟩
      rcases hr r e with h1 | ⟨_, h1, h2⟩
      · exact dn r (h.own.known r h1)
      · rw [zaA _ _ h2, zaA _ _ h1]; rfl
    · simp only [if_neg e]
      have hi' : i < k := by omega
      refine ⟨(h.fp i hi').1, fun r e => ?_⟩
      rcases hr r e with h1 | ⟨h1, _, _⟩
      · exact (h.fp i hi').2 r h1
      · exact zaj (h.le i hi') h1
  · by_cases e : i = k
    · subst e
      simp only [if_true] at hx
      simp only [if_neg (Ne.symm hij)]
      refine zaj (h.le j (by omega)) ?_
      rcases dF x hx with rfl | rfl
      · exact hm
      · exact hb
    · simp only [if_neg e] at hx
      by_cases e2 : j = k
      · subst e2; simp only [if_true]; exact dn x (hkp i (by omega) x hx)
      · simp only [if_neg e2]; exact h.sep i j (by omega) (by omega) hij x hx
  · by_cases e : i = k
    · subst e
      simp only [if_true] at hx
      refine zaj h.old ?_
      rcases dF x hx with rfl | rfl
      · exact hm
      · exact hb
    · simp only [if_neg e] at hx; exact h.fr i (by omega) x hx
  · rcases hr r e with h1 | ⟨h1, _, _⟩
    · exact h.frr r h1
    · exact zaj h.old h1
theorem NX.done {H0 H : Hp} {p : Nat} {l : List Int} {v : Value} {rs : Option Nat} {bs : List Nat} {Fs : Nat → Hp} (h : NX H0 H p l l.length v rs bs Fs) (hl : 1 ≤ l.length) : ∃ F, SetX F p (newSt l) ∧ Le F H ∧ ∀ x, F x ≠ none → H0 x = none := by
  have hn : (newSt l).dv.length = l.length := by simp [newSt]
  obtain ⟨r, cap, rfl, rfl⟩ : ∃ r cap, v = .slice (some ⟨r, 0, none⟩) l.length cap ∧ rs = some r := by
    obtain ⟨_, ⟨_, h0, _⟩ | ⟨r', cc, c', g1, _, _, _, _, g3⟩⟩ := h.own
    · omega
    · exact ⟨r', cc, g1, g3⟩
  have hs : SX H p (newSt l) r cap bs Fs := by
    refine ⟨by rw [hn]; exact h.hd, by rw [hn]; exact h.len, by rw [hn]; exact h.own, ?_, by rw [hn]; exact h.le, ?_, by rw [hn]; exact h.sep⟩
    · rw [hn]
      intro i hi
      have e : (newSt l).dv.getD i default = newDv (l.getD i default) := by
        simp [newSt, List.getD_eq_getElem?_getD, List.getElem?_eq_getElem hi]
      rw [e]; exact h.dev i hi
    · rw [hn]; exact fun i hi => ⟨(h.fp i hi).1, (h.fp i hi).2 r rfl⟩
  obtain ⟨F, hF, hS, hd⟩ := hs.cut
  refine ⟨F, ⟨_, _, _, _, hS⟩, hF, fun x hx => ?_⟩
  rcases hd x hx with rfl | rfl | ⟨i, hi, hx⟩
  · exact h.frp
  · exact h.frr x rfl
  · rw [hn] at hi; exact h.fr i hi x hx
set_option maxRecDepth 100000 in
set_option maxHeartbeats 8000000 in
theorem new_ok (H : Hp) (a : Option Addr) (cap : Nat) (l : List Int) (hv : Holds H 1 (.slice a l.length cap) l.length (l.map (Value.int .i64))) (hl : l.length ≤ 1000) : CallH Try.prog 9 #[.slice a l.length cap] H (fun v H' => (goodN l = false ∧ v = .tuple #[.pointer none, errV (some 1)] ∧ H' = H) ∨ (goodN l = true ∧ Le H H' ∧ ∃ p, v = .tuple #[ptrV p, errV none] ∧ ∃ F, SetX F p (newSt l) ∧ Le F H' ∧ ∀ x, F x ≠ none → H x = none)) := by
 refine zaB (l := [_]) (rl := [.tmp 2, .tmp 3]) (n := 46) Try.func9 rfl rfl rfl rfl rfl ?_
 simp only [envOf, Nat.reduceAdd]
 refine zad (fun K1 hK1 => ?_)
 refine zaa ?_
 refine zao rfl ?_
 refine zao rfl ?_
 refine zae ?_
 try simp only [Ex.thnH, Ex.inBlockH, ↓reduceIte, Nat.reduceEqDiff]
 refine hK1 _ _ ?_; try clear hK1 K1
 refine zad (fun K2 hK2 => ?_)
 refine zad (fun K3 hK3 => ?_)
 refine zaa ?_
 refine zam rfl ?_
 refine zac (fun K hK r => ?_)
 simp only [zaM, l_len, List.map_toArray, List.map_cons, List.map_nil, zaS _ _ Try.underlying41, eX, ↓reduceIte, Nat.reduceEqDiff, Int.reduceToNat]
 refine hK _ _ ?_; clear hK K
 refine zac (fun K hK r => ?_)
 simp (disch := (first | omega | decide)) only [zaF, zaH, b_lss, zaq, zar, zat, zau, zas, zav, Bool.not_true, Bool.not_false, eX, ↓reduceIte, Nat.reduceEqDiff, Int.reduceToNat]
 refine hK _ _ ?_; clear hK K
 refine zam rfl ?_
 (first | refine zbc (d := 10) rfl (fun g10 => ?_) (fun g10 => ?_) | skip)
 all_goals try (exfalso; exact cnA g10)
 all_goals (try simp only [decide_eq_true_eq, decide_eq_false_iff_not, Bool.not_eq_true, Bool.not_eq_false, Bool.and_eq_true, Bool.or_eq_true, Bool.or_eq_false_iff, Bool.not_eq_eq_eq_not, Bool.not_true, Bool.not_false] at g10)
 all_goals
  try simp only [eX, ↓reduceIte, Nat.reduceEqDiff, Int.reduceToNat]
  first
  |refine zaf rfl (zab (by decide)) rfl (fun K hK r => ?_)
   simp only [zaU, eX, ↓reduceIte, Nat.reduceEqDiff, Int.reduceToNat]
   refine hK _ _ ?_; clear hK K
  |refine zag rfl (zab (by decide)) rfl ?_
   simp only [eX, ↓reduceIte, Nat.reduceEqDiff, Int.reduceToNat]
  first
  |refine zaf rfl (zab (by decide)) rfl (fun K hK r => ?_)
   simp only [zaM, l_len, List.map_toArray, List.map_cons, List.map_nil, zaS _ _ Try.underlying41, eX, ↓reduceIte, Nat.reduceEqDiff, Int.reduceToNat]
   refine hK _ _ ?_; clear hK K
  |refine zag rfl (zab (by decide)) rfl ?_
   simp only [eX, ↓reduceIte, Nat.reduceEqDiff, Int.reduceToNat]
  first
  |refine zaf rfl (zab (by decide)) rfl (fun K hK r => ?_)
   simp (disch := (first | omega | decide)) only [zaF, zaH, b_gtr, zaq, zar, zat, zau, zas, zav, Bool.not_true, Bool.not_false, eX, ↓reduceIte, Nat.reduceEqDiff, Int.reduceToNat]
   refine hK _ _ ?_; clear hK K
  |refine zag rfl (zab (by decide)) rfl ?_
   simp only [eX, ↓reduceIte, Nat.reduceEqDiff, Int.reduceToNat]
  refine zac (fun K hK r => ?_)
  simp only [zbp, zaZ, HL.ite_bool, if_true, if_false, Bool.false_eq_true, eX, ↓reduceIte, Nat.reduceEqDiff, Int.reduceToNat]
  refine hK _ _ ?_; clear hK K
  refine zae ?_
  try simp only [Ex.thnH, Ex.inBlockH, ↓reduceIte, Nat.reduceEqDiff]
  refine hK3 _ _ ?_; try clear hK3 K3
  refine zaG (fun r => rfl) (fun c14 => ?_) (fun c14 => ?_)
  ·first
   |(exfalso; exact cnA c14; done)
   |skip
    (try simp only [decide_eq_true_eq, decide_eq_false_iff_not, Bool.not_eq_true, Bool.not_eq_false, Bool.and_eq_true, Bool.or_eq_true, Bool.or_eq_false_iff, Bool.not_eq_eq_eq_not, Bool.not_true, Bool.not_false] at c14)
    have hbad : goodN l = false := by unfold goodN; simp; omega
    refine zad (fun K4 hK4 => ?_)
    refine zaa ?_
    refine zac (fun K hK r => ?_)
    simp only [zbf, zbg, Try.underlying73, zal, eX, ↓reduceIte, Nat.reduceEqDiff, Int.reduceToNat]
    refine hK _ _ ?_; clear hK K
    refine zao rfl ?_
    refine zao rfl ?_
    refine zae ?_
    try simp only [Ex.thnH, Ex.inBlockH, ↓reduceIte, Nat.reduceEqDiff]
    refine hK4 _ _ ?_; try clear hK4 K4
    refine zaR ?_
    try simp only [Ex.thnH, Ex.inBlockH, ↓reduceIte, Nat.reduceEqDiff]
    exact ⟨[_, _], ⟨rfl, rfl, trivial⟩, _, Le.refl _, .inl ⟨hbad, rfl, rfl⟩⟩
  ·first
   |(exfalso; exact cnA c14; done)
   |skip
    (try simp only [decide_eq_true_eq, decide_eq_false_iff_not, Bool.not_eq_true, Bool.not_eq_false, Bool.and_eq_true, Bool.or_eq_true, Bool.or_eq_false_iff, Bool.not_eq_eq_eq_not, Bool.not_true, Bool.not_false] at c14)
    have hlen : 1 ≤ l.length ∧ l.length ≤ 5 := by omega
    refine zaO ?_
    try simp only [Ex.thnH, Ex.inBlockH, ↓reduceIte, Nat.reduceEqDiff]
    refine hK2 _ _ ?_; try clear hK2 K2
    refine zad (fun K5 hK5 => ?_)
    refine zaa ?_
    refine zac (fun K hK r => ?_)
    simp only [x_build, bp78, List.map_toArray, List.map_cons, List.map_nil, eX, ↓reduceIte, Nat.reduceEqDiff, Int.reduceToNat]
    simp only [fill_nil, zal, List.setIfInBounds_toArray, List.set_cons_zero, List.set_cons_succ]
    try simp only [eX, ↓reduceIte, Nat.reduceEqDiff, Int.reduceToNat]
    refine hK _ _ ?_; clear hK K
    refine zac (fun K hK r => ?_)
    simp only [x_box, Value.cells, eX, ↓reduceIte, Nat.reduceEqDiff, Int.reduceToNat]
    intro b17 hb17
    have f17_H : H b17 = none := zaj lhA hb17
    try simp only [eX, ↓reduceIte, Nat.reduceEqDiff, Int.reduceToNat]
    refine hK _ _ ?_; clear hK K
    refine zao rfl ?_
    refine zae ?_
    try simp only [Ex.thnH, Ex.inBlockH, ↓reduceIte, Nat.reduceEqDiff]
    refine hK5 _ _ ?_; try clear hK5 K5
    refine zad (fun K6 hK6 => ?_)
    refine zad (fun K7 hK7 => ?_)
    refine zaa ?_
    refine zam rfl ?_
    refine zac (fun K hK r => ?_)
    simp only [zaM, l_len, List.map_toArray, List.map_cons, List.map_nil, zaS _ _ Try.underlying41, eX, ↓reduceIte, Nat.reduceEqDiff, Int.reduceToNat]
    refine hK _ _ ?_; clear hK K
    refine zam rfl ?_
    refine zae ?_
    try simp only [Ex.thnH, Ex.inBlockH, ↓reduceIte, Nat.reduceEqDiff]
    refine hK7 _ _ ?_; try clear hK7 K7
    refine zaV ?_
    refine CW_loop (fun m e H_ => ∃ (k : Nat) (v : Value) (rs : Option Nat) (bs : List Nat) (Fs : Nat → Hp), k ≤ l.length ∧ m = l.length - k ∧ (∀ j, j < k → okN (l.getD j default) = true) ∧ NX H H_ b17 l k v rs bs Fs ∧ Env.has [(4, .pointer (some ⟨b17, 0, none⟩)), (18, .slice a l.length cap), (19, .int .i64 l.length), (20, .int .i64 k)] e) (l.length) ?_ ?_
    ·skip
     refine ⟨0, .slice none 0 0, none, [], fun _ => emptyHp, by omega, by omega, (fun j hj => absurd hj (by omega)), ⟨zax _ _ _, rfl, OwnS.nil _ _ _, (fun i hi => absurd hi (by omega)), (fun i hi => absurd hi (by omega)), (fun i hi => absurd hi (by omega)), (fun i j hi => absurd hi (by omega)), (fun i hi => absurd hi (by omega)), (fun r hr => by cases hr), hb17, le_upd _ _ _ hb17⟩, rfl, rfl, rfl, rfl, trivial⟩
    intro m_ e_ H_ hI_
    obtain ⟨k, v, rs, bs, Fs, hk, rfl, hoks, hN, he⟩ := hI_
    refine CW_env he.sub ?_; clear he e_
    have kp := hN.hd
    have hOld := hN.old
    obtain ⟨va, vc, rfl⟩ := hN.own.holds.form
    refine zad (fun K8 hK8 => ?_)
    refine zaa ?_
    refine zac (fun K hK r => ?_)
    simp (disch := (first | omega | decide)) only [zaF, zaH, b_lss, zaq, zar, zat, zau, zas, zav, Bool.not_true, Bool.not_false, eX, ↓reduceIte, Nat.reduceEqDiff, Int.reduceToNat]
    refine hK _ _ ?_; clear hK K
    refine zae ?_
    try simp only [Ex.thnH, Ex.inBlockH, ↓reduceIte, Nat.reduceEqDiff]
    refine hK8 _ _ ?_; try clear hK8 K8
    refine zad (fun K9 hK9 => ?_)
    refine zaG (fun r => rfl) (fun c21 => ?_) (fun c21 => ?_)
    ·first
     |(exfalso; exact cnA c21; done)
     |skip
      (try simp only [decide_eq_true_eq, decide_eq_false_iff_not, Bool.not_eq_true, Bool.not_eq_false, Bool.and_eq_true, Bool.or_eq_true, Bool.or_eq_false_iff, Bool.not_eq_eq_eq_not, Bool.not_true, Bool.not_false] at c21)
      obtain ⟨bw, ow, cw, Tw, Fw, ew, hbw, hsw, atw⟩ := (hv.le hN.old).at (by omega)
      refine zaO ?_
      try simp only [Ex.thnH, Ex.inBlockH, ↓reduceIte, Nat.reduceEqDiff]
      refine hK9 _ _ ?_; try clear hK9 K9
      refine zad (fun K10 hK10 => ?_)
      refine zaV ?_
      refine zad (fun K11 hK11 => ?_)
      refine zaa ?_
      refine zac (fun K hK r => ?_)
      simp only [zaK, eX, ↓reduceIte, Nat.reduceEqDiff, Int.reduceToNat]
      refine zbi Try.underlying41 sz3 ew ixA ixA ?_
      try simp only [Int.toNat_natCast, Nat.mul_one]
      refine hK _ _ ?_; clear hK K
      refine zac (fun K hK r => ?_)
      simp only [zan, eX, ↓reduceIte, Nat.reduceEqDiff, Int.reduceToNat]
      refine zak Try.underlying3 rfl hbA (v := .int .i64 (l.getD k default)) (by first | exact ints_get atw rfl k (by omega) | (rw [Nat.mul_one]; exact ints_get atw rfl k (by omega))) ?_
      refine hK _ _ ?_; clear hK K
      refine zao rfl ?_
      refine zae ?_
      try simp only [Ex.thnH, Ex.inBlockH, ↓reduceIte, Nat.reduceEqDiff]
      refine hK11 _ _ ?_; try clear hK11 K11
      refine zad (fun K12 hK12 => ?_)
      refine zad (fun K13 hK13 => ?_)
      refine zaa ?_
      refine zam rfl ?_
      refine zac (fun K hK r => ?_)
      simp (disch := (first | omega | decide)) only [zaF, zaH, b_lss, zaq, zar, zat, zau, zas, zav, Bool.not_true, Bool.not_false, eX, ↓reduceIte, Nat.reduceEqDiff, Int.reduceToNat]
      refine hK _ _ ?_; clear hK K
      refine zam rfl ?_
      (first | refine zbc (d := 26) rfl (fun g26 => ?_) (fun g26 => ?_) | skip)
      all_goals try (exfalso; exact cnA g26)
      all_goals (try simp only [decide_eq_true_eq, decide_eq_false_iff_not, Bool.not_eq_true, Bool.not_eq_false, Bool.and_eq_true, Bool.or_eq_true, Bool.or_eq_false_iff, Bool.not_eq_eq_eq_not, Bool.not_true, Bool.not_false] at g26)
      all_goals
       try simp only [eX, ↓reduceIte, Nat.reduceEqDiff, Int.reduceToNat]
       first
       |refine zaf rfl (zab (by decide)) rfl (fun K hK r => ?_)
        simp only [zaU, eX, ↓reduceIte, Nat.reduceEqDiff, Int.reduceToNat]
        refine hK _ _ ?_; clear hK K
       |refine zag rfl (zab (by decide)) rfl ?_
        simp only [eX, ↓reduceIte, Nat.reduceEqDiff, Int.reduceToNat]
       first
       |refine zaf rfl (zab (by decide)) rfl (fun K hK r => ?_)
        simp (disch := (first | omega | decide)) only [zaF, zaH, b_gtr, zaq, zar, zat, zau, zas, zav, Bool.not_true, Bool.not_false, eX, ↓reduceIte, Nat.reduceEqDiff, Int.reduceToNat]
        refine hK _ _ ?_; clear hK K
       |refine zag rfl (zab (by decide)) rfl ?_
        simp only [eX, ↓reduceIte, Nat.reduceEqDiff, Int.reduceToNat]
       refine zac (fun K hK r => ?_)
       simp only [zbp, zaZ, HL.ite_bool, if_true, if_false, Bool.false_eq_true, eX, ↓reduceIte, Nat.reduceEqDiff, Int.reduceToNat]
       refine hK _ _ ?_; clear hK K
       refine zae ?_
       try simp only [Ex.thnH, Ex.inBlockH, ↓reduceIte, Nat.reduceEqDiff]
       refine hK13 _ _ ?_; try clear hK13 K13
       refine zaG (fun r => rfl) (fun c29 => ?_) (fun c29 => ?_)
       ·first
        |(exfalso; exact cnA c29; done)
        |skip
         (try simp only [decide_eq_true_eq, decide_eq_false_iff_not, Bool.not_eq_true, Bool.not_eq_false, Bool.and_eq_true, Bool.or_eq_true, Bool.or_eq_false_iff, Bool.not_eq_eq_eq_not, Bool.not_true, Bool.not_false] at c29)
         have hbad : goodN l = false := good_bad (k := k) (by omega) (by unfold okN; rw [Bool.and_eq_false_iff]; simp only [decide_eq_false_iff_not]; omega)
         refine zad (fun K14 hK14 => ?_)
         refine zaa ?_
         refine zac (fun K hK r => ?_)
         simp only [zbf, zbg, Try.underlying73, zal, eX, ↓reduceIte, Nat.reduceEqDiff, Int.reduceToNat]
         refine hK _ _ ?_; clear hK K
         refine zao rfl ?_
         refine zao rfl ?_
         refine zae ?_
         try simp only [Ex.thnH, Ex.inBlockH, ↓reduceIte, Nat.reduceEqDiff]
         refine hK14 _ _ ?_; try clear hK14 K14
         refine zaR ?_
         try simp only [Ex.thnH, Ex.inBlockH, ↓reduceIte, Nat.reduceEqDiff]
         exact ⟨[_, _], ⟨rfl, rfl, trivial⟩, H, hN.old, .inl ⟨hbad, rfl, rfl⟩⟩
       ·first
        |(exfalso; exact cnA c29; done)
        |skip
         (try simp only [decide_eq_true_eq, decide_eq_false_iff_not, Bool.not_eq_true, Bool.not_eq_false, Bool.and_eq_true, Bool.or_eq_true, Bool.or_eq_false_iff, Bool.not_eq_eq_eq_not, Bool.not_true, Bool.not_false] at c29)
         have hok : okN (l.getD k default) = true := by unfold okN; rw [Bool.and_eq_true]; simp only [decide_eq_true_eq]; omega
         refine zaO ?_
         try simp only [Ex.thnH, Ex.inBlockH, ↓reduceIte, Nat.reduceEqDiff]
         refine hK12 _ _ ?_; try clear hK12 K12
         refine zaa ?_
         refine zam rfl ?_
         refine zam rfl ?_
         refine zac (fun K hK r => ?_)
         rw [zbh _ _ rfl]
         simp only [eX, ↓reduceIte, Nat.reduceEqDiff, Int.reduceToNat]
         refine hK _ _ ?_; clear hK K
         refine zac (fun K hK r => ?_)
         simp only [zah, fa78_1, zap, Nat.reduceAdd, Nat.zero_add, eX, ↓reduceIte, Nat.reduceEqDiff, Int.reduceToNat]
         refine hK _ _ ?_; clear hK K
         refine zac (fun K hK r => ?_)
         simp only [zan, eX, ↓reduceIte, Nat.reduceEqDiff, Int.reduceToNat]
         refine zak Try.underlying76 rfl hbA ldA ?_
         try simp only [eX, ↓reduceIte, Nat.reduceEqDiff, Int.reduceToNat]
         refine hK _ _ ?_; clear hK K
         refine zam rfl ?_
         refine zac (fun K hK r => ?_)
         simp only [x_makeMap, Option.map_none, eX, ↓reduceIte, Nat.reduceEqDiff, Int.reduceToNat]
         refine Lt_makeMap ?_
         intro b37 hb37
         try have n37_b17 : b17 ≠ b37 := zai hbA hb37
         have f37_H : H b37 = none := zaj lhA hb37
         try simp only [eX, ↓reduceIte, Nat.reduceEqDiff, Int.reduceToNat]
         refine hK _ _ ?_; clear hK K
         refine zac (fun K hK r => ?_)
         simp only [x_build, bp83, List.map_toArray, List.map_cons, List.map_nil, eX, ↓reduceIte, Nat.reduceEqDiff, Int.reduceToNat]
         rw [fill_one rfl clA bdA]
         rw [fill_one rfl clA bdA]
         simp only [fill_nil, zal, List.setIfInBounds_toArray, List.set_cons_zero, List.set_cons_succ]
         try simp only [eX, ↓reduceIte, Nat.reduceEqDiff, Int.reduceToNat]
         refine hK _ _ ?_; clear hK K
         refine zac (fun K hK r => ?_)
         simp only [x_box, Value.cells, eX, ↓reduceIte, Nat.reduceEqDiff, Int.reduceToNat]
         intro b39 hb39
         try have n39_b17 : b17 ≠ b39 := zai hbA hb39
         try have n39_b37 : b37 ≠ b39 := zai hbA hb39
         have f39_H : H b39 = none := zaj lhA hb39
         try simp only [eX, ↓reduceIte, Nat.reduceEqDiff, Int.reduceToNat]
         refine hK _ _ ?_; clear hK K
         refine zac (fun K hK r => ?_)
         simp only [zbn, List.map_toArray, List.map_cons, List.map_nil, eX, ↓reduceIte, Nat.reduceEqDiff, Int.reduceToNat]
         refine zbm (vs := [_]) Try.underlying76 sz79 zr79 rfl bsA (by first | decide | (simp; done)) ?_
         simp only [List.flatMap_cons, List.flatMap_nil, Value.cells, List.append_nil, List.cons_append, List.nil_append, List.length_cons, List.length_nil, Nat.zero_add, Nat.reduceAdd]
         intro b40 hb40
         try have n40_b17 : b17 ≠ b40 := zai hbA hb40
         try have n40_b37 : b37 ≠ b40 := zai hbA hb40
         try have n40_b39 : b39 ≠ b40 := zai hbA hb40
         have f40_H : H b40 = none := zaj lhA hb40
         try simp only [eX, ↓reduceIte, Nat.reduceEqDiff, Int.reduceToNat]
         refine hK _ _ ?_; clear hK K
         refine zac (fun K hK r => ?_)
         simp only [zaM, l_append, List.map_toArray, List.map_cons, List.map_nil, eX, ↓reduceIte, Nat.reduceEqDiff, Int.reduceToNat]
         have nmp : b37 ≠ b17 := Ne.symm (zai kp hb37)
         have hrs17 := hN.ne
         have hm_ : H_ b37 = none := hb37
         have hb_39 : H_ b39 = none := zaj (le_upd _ _ _ hb37) hb39
         have nm39 : b37 ≠ b39 := zai (zax _ _ _) hb39
         have n1739 : b17 ≠ b39 := zai kp hb_39
         have hb_40 : H_ b40 = none := zaj (Le.trans (le_upd _ _ _ hb37) (le_upd _ _ _ hb39)) hb40
         have n1740 : b17 ≠ b40 := zai kp hb_40
         have n3740 : b37 ≠ b40 := zai hbA hb40
         have n3940 : b39 ≠ b40 := zai hbA hb40
         refine Lt_append1 Try.underlying76 sz79 by79 (by decide) zr79 rfl _ (((hN.own.make hb37).make hb39).make hb40) (x := ptrV b39) hbA rfl (by omega) ?_
         intro v41 H41 rs41 hg41 ho41 hr41
         obtain ⟨wa41, wc41, rfl⟩ := ho41.holds.form
         have kp41 := hg41.known b17 _ hbA hrs17
         have km41 := hg41.known b37 (.map #[] 0) hbA (fun e => hN.own.known b37 e hb37)
         have kb41 := hg41.known b39 (.cells #[.int .i64 (l.getD k default), .map (some b37), .slice none 0 0] 83) hbA (fun e => hN.own.known b39 e hb_39)
         have hkp41 : ∀ x o, H_ x = some o → rs ≠ some x → H41 x = some o := fun x o hx hn => hg41.known x o (Le.trans (Le.trans (le_upd _ _ _ hb37) (le_upd _ _ _ hb39)) (le_upd _ _ _ hb40) x o hx) hn
         have hr41' : ∀ r, rs41 = some r → rs = some r ∨ (H_ r = none ∧ r ≠ b37 ∧ r ≠ b39) := fun r e => (hr41 r e).imp id (fun hn => by
          have h3 := upd_none hn
          have h2 := upd_none h3
          refine ⟨upd_none h2, fun e => ?_, fun e => ?_⟩
          ·subst e; rw [zax] at h2; cases h2
          ·subst e; rw [zax] at h3; cases h3)
         refine hK _ _ ?_; clear hK K
         refine zac (fun K hK r => ?_)
         rw [zbh _ _ rfl]
         simp only [eX, ↓reduceIte, Nat.reduceEqDiff, Int.reduceToNat]
         refine hK _ _ ?_; clear hK K
         refine zac (fun K hK r => ?_)
         simp only [zah, fa78_1, zap, Nat.reduceAdd, Nat.zero_add, eX, ↓reduceIte, Nat.reduceEqDiff, Int.reduceToNat]
         refine hK _ _ ?_; clear hK K
         refine zbq rfl (zaJ) (fun K hK r => ?_)
         simp only [zaL, eX, ↓reduceIte, Nat.reduceEqDiff, Int.reduceToNat]
         refine zaY sz76 hbA bdA plA fzA ?_
         try simp only [setL0, setL1, setL2, setL3, setL4, setL5, setL6, setL7, setL8, setL9]
         try simp only [eX, ↓reduceIte, Nat.reduceEqDiff, Int.reduceToNat]
         refine hK _ _ ?_; clear hK K
         refine zae ?_
         try simp only [Ex.thnH, Ex.inBlockH, ↓reduceIte, Nat.reduceEqDiff]
         refine hK10 _ _ ?_; try clear hK10 K10
         refine zaa ?_
         refine zac (fun K hK r => ?_)
         simp (disch := (first | omega | decide)) only [zaF, zaH, b_add, zaw, zaE, zaD, zaQ, eX, ↓reduceIte, Nat.reduceEqDiff, Int.reduceToNat]
         refine hK _ _ ?_; clear hK K
         refine zam rfl ?_
         refine zae ?_
         try simp only [Ex.thnH, Ex.inBlockH, ↓reduceIte, Nat.reduceEqDiff]
         refine ⟨l.length - (k + 1), by omega, k + 1, _, rs41, bs ++ [b39], _, by omega, rfl, (fun j hj => ?_), hN.next hm_ hb_39 nm39 (zax _ _ _) (ho41.upd (fun e => ?_)) ((zaA _ _ nmp).trans km41) ((zaA _ _ (Ne.symm n1739)).trans kb41) (fun x o hx hxp hxr => (zaA _ _ hxp).trans (hkp41 x o hx hxr)) hr41', rfl, rfl, rfl, rfl, trivial⟩
         ·by_cases e : j = k
          ·subst e; exact hok
          ·exact hoks j (by omega)
         ·rcases hr41' _ e with h1 | ⟨h1, _⟩
          ·exact hrs17 h1
          ·rw [kp] at h1; cases h1
    ·first
     |(exfalso; exact cnA c21; done)
     |skip
      (try simp only [decide_eq_true_eq, decide_eq_false_iff_not, Bool.not_eq_true, Bool.not_eq_false, Bool.and_eq_true, Bool.or_eq_true, Bool.or_eq_false_iff, Bool.not_eq_eq_eq_not, Bool.not_true, Bool.not_false] at c21)
      have hkn : k = l.length := by omega
      refine CW_exit ?_
      try simp only [Ex.thnH, Ex.inBlockH, ↓reduceIte, Nat.reduceEqDiff]
      refine hK6 _ _ ?_; try clear hK6 K6
      refine zad (fun K15 hK15 => ?_)
      refine zaa ?_
      refine zam rfl ?_
      refine zao rfl ?_
      refine zao rfl ?_
      refine zae ?_
      try simp only [Ex.thnH, Ex.inBlockH, ↓reduceIte, Nat.reduceEqDiff]
      refine hK15 _ _ ?_; try clear hK15 K15
      refine zaR ?_
      try simp only [Ex.thnH, Ex.inBlockH, ↓reduceIte, Nat.reduceEqDiff]
      subst hkn
      obtain ⟨F, hF1, hF2, hF3⟩ := hN.done hlen.1
      exact ⟨[_, _], ⟨rfl, rfl, trivial⟩, _, Le.refl _, .inr ⟨good_all hlen.1 hlen.2 hoks, hN.old, b17, rfl, F, hF1, hF2, hF3⟩⟩
end Go.Proofs.Ytcjdkfhmlnfedaa.HL
end
section
namespace Go.Proofs.Ytcjdkfhmlnfedaa.HL
open Go Go.Proofs
set_option linter.unusedSimpArgs false
set_option linter.unusedVariables false
attribute [local irreducible] Lt Lq CW OW TW CallH
set_option maxRecDepth 100000 in
set_option maxHeartbeats 1000000 in
theorem flush1_ok (H : Hp) (n : Int) : CallH Try.prog 62 #[.int .i64 n] H (fun v H' => v = .tuple #[.int .i64 0, .bool true] ∧ H' = H) := by
 refine zaB (l := [_]) (rl := [.tmp 2, .tmp 3]) (n := 4) Try.func62 rfl rfl rfl rfl rfl ?_
 simp only [envOf, Nat.reduceAdd]
 refine zad (fun K1 hK1 => ?_)
 refine zaa ?_
 refine zao rfl ?_
 refine zao rfl ?_
 refine zae ?_
 try simp only [Ex.thnH, Ex.inBlockH, ↓reduceIte, Nat.reduceEqDiff]
 refine hK1 _ _ ?_; try clear hK1 K1
 refine zad (fun K2 hK2 => ?_)
 refine zaa ?_
 refine zao rfl ?_
 refine zao rfl ?_
 refine zae ?_
 try simp only [Ex.thnH, Ex.inBlockH, ↓reduceIte, Nat.reduceEqDiff]
 refine hK2 _ _ ?_; try clear hK2 K2
 refine zaR ?_
 try simp only [Ex.thnH, Ex.inBlockH, ↓reduceIte, Nat.reduceEqDiff]
 exact ⟨[_, _], ⟨rfl, rfl, trivial⟩, _, Le.refl _, rfl, rfl⟩
set_option maxRecDepth 100000 in
set_option maxHeartbeats 1000000 in
theorem flush_bad (H : Hp) (p : Nat) (s : St) (rd cap : Nat) (bs : List Nat) (Fs : Nat → Hp) (h : SX H p s rd cap bs Fs) (hl : s.dv.length ≤ 1000) (dev : Int) (hno : ¬ (0 ≤ dev ∧ dev < s.dv.length)) : CallH Try.prog 37 #[(.pointer (some ⟨p, 0, none⟩)), .int .i64 dev] H (fun v H' => v = errV (s.fl dev).2 ∧ SetX H' p (s.fl dev).1) := by
 refine zaB (l := [_, _]) (rl := [.tmp 4]) (n := 27) Try.func37 rfl rfl rfl rfl rfl ?_
 simp only [envOf, Nat.reduceAdd]
 refine zad (fun K1 hK1 => ?_)
 refine zaa ?_
 refine zao rfl ?_
 refine zae ?_
 try simp only [Ex.thnH, Ex.inBlockH, ↓reduceIte, Nat.reduceEqDiff]
 refine hK1 _ _ ?_; try clear hK1 K1
 refine zad (fun K2 hK2 => ?_)
 refine zaa ?_
 refine zam rfl ?_
 refine zam rfl ?_
 refine zac (fun K hK r => ?_)
 simp only [zaT _ bd46, List.map_toArray, List.map_cons, List.map_nil, eX, ↓reduceIte, Nat.reduceEqDiff, Int.reduceToNat]
 refine (device_ok _ p s rd cap bs Fs h dev hl).mono ?_
 rintro v H' ⟨rfl, rfl⟩
 rw [show devV s bs dev = .pointer none from if_neg hno]
 try simp only [eX, ↓reduceIte, Nat.reduceEqDiff, Int.reduceToNat]
 refine hK _ _ ?_; clear hK K
 refine zao rfl ?_
 refine zae ?_
 try simp only [Ex.thnH, Ex.inBlockH, ↓reduceIte, Nat.reduceEqDiff]
 refine hK2 _ _ ?_; try clear hK2 K2
 refine zad (fun K3 hK3 => ?_)
 refine zaV ?_
 refine zad (fun K4 hK4 => ?_)
 refine zaa ?_
 refine zam rfl ?_
 refine zac (fun K hK r => ?_)
 simp only [zaF, zaH, g_bool, zbo, zbk, g_slice, g_map, g_func, zbl, g_iface, zbe, g_nil_r, g_nil_l, eX, ↓reduceIte, Nat.reduceEqDiff, Int.reduceToNat]
 rw [e_eql _ _ _ _ (by simp)]
 rw [q_equal]
 first | rw [q_ptr_nil _ _ _ Try.underlying31] | rw [q_nil_ptr _ _ _ Try.underlying31]
 try simp only [eX, ↓reduceIte, Nat.reduceEqDiff, Int.reduceToNat]
 refine hK _ _ ?_; clear hK K
 refine zao rfl ?_
 refine zae ?_
 try simp only [Ex.thnH, Ex.inBlockH, ↓reduceIte, Nat.reduceEqDiff]
 refine hK4 _ _ ?_; try clear hK4 K4
 refine zaG (fun r => rfl) (fun c10 => ?_) (fun c10 => ?_)
 ·first
  |(exfalso; exact cnA c10; done)
  |skip
   (try simp only [decide_eq_true_eq, decide_eq_false_iff_not, Bool.not_eq_true, Bool.not_eq_false, Bool.and_eq_true, Bool.or_eq_true, Bool.or_eq_false_iff, Bool.not_eq_eq_eq_not, Bool.not_true, Bool.not_false] at c10)
   refine zad (fun K5 hK5 => ?_)
   refine zaa ?_
   refine zac (fun K hK r => ?_)
   simp only [zbf, zbg, Try.underlying73, zal, eX, ↓reduceIte, Nat.reduceEqDiff, Int.reduceToNat]
   refine hK _ _ ?_; clear hK K
   refine zao rfl ?_
   refine zae ?_
   try simp only [Ex.thnH, Ex.inBlockH, ↓reduceIte, Nat.reduceEqDiff]
   refine hK5 _ _ ?_; try clear hK5 K5
   refine zaR ?_
   try simp only [Ex.thnH, Ex.inBlockH, ↓reduceIte, Nat.reduceEqDiff]
   skip
 ·first
  |(exfalso; exact cnA c10; done)
  |skip
   (try simp only [decide_eq_true_eq, decide_eq_false_iff_not, Bool.not_eq_true, Bool.not_eq_false, Bool.and_eq_true, Bool.or_eq_true, Bool.or_eq_false_iff, Bool.not_eq_eq_eq_not, Bool.not_true, Bool.not_false] at c10)
   refine zad (fun K6 hK6 => ?_)
   refine zaa ?_
   refine zam rfl ?_
   refine zac (fun K hK r => ?_)
   simp only [zaF, zaH, g_bool, zbo, zbk, g_slice, g_map, g_func, zbl, g_iface, zbe, g_nil_r, g_nil_l, eX, ↓reduceIte, Nat.reduceEqDiff, Int.reduceToNat]
   rw [e_eql _ _ _ _ (by simp)]
   rw [q_equal]
   first | rw [q_ptr_nil _ _ _ Try.underlying79] | rw [q_nil_ptr _ _ _ Try.underlying79]
   try simp only [eX, ↓reduceIte, Nat.reduceEqDiff, Int.reduceToNat]
   refine hK _ _ ?_; clear hK K
   refine zao rfl ?_
   refine zae ?_
   try simp only [Ex.thnH, Ex.inBlockH, ↓reduceIte, Nat.reduceEqDiff]
   refine hK6 _ _ ?_; try clear hK6 K6
   refine zaG (fun r => rfl) (fun c14 => ?_) (fun c14 => ?_)
   ·first
    |(exfalso; exact cnA c14; done)
    |skip
     (try simp only [decide_eq_true_eq, decide_eq_false_iff_not, Bool.not_eq_true, Bool.not_eq_false, Bool.and_eq_true, Bool.or_eq_true, Bool.or_eq_false_iff, Bool.not_eq_eq_eq_not, Bool.not_true, Bool.not_false] at c14)
     refine zad (fun K7 hK7 => ?_)
     refine zaa ?_
     refine zac (fun K hK r => ?_)
     simp only [zbf, zbg, Try.underlying73, zal, eX, ↓reduceIte, Nat.reduceEqDiff, Int.reduceToNat]
     refine hK _ _ ?_; clear hK K
     refine zao rfl ?_
     refine zae ?_
     try simp only [Ex.thnH, Ex.inBlockH, ↓reduceIte, Nat.reduceEqDiff]
     refine hK7 _ _ ?_; try clear hK7 K7
     refine zaR ?_
     try simp only [Ex.thnH, Ex.inBlockH, ↓reduceIte, Nat.reduceEqDiff]
     refine ⟨[_], ⟨rfl, trivial⟩, _, Le.refl _, ?_, ?_⟩
     ·show _ = errV _
      unfold St.fl; rw [if_neg hno]; rfl
     ·unfold St.fl; rw [if_neg hno]; exact ⟨rd, cap, bs, Fs, h⟩
   ·first
    |(exfalso; exact cnA c14; done)
    |skip
     (try simp only [decide_eq_true_eq, decide_eq_false_iff_not, Bool.not_eq_true, Bool.not_eq_false, Bool.and_eq_true, Bool.or_eq_true, Bool.or_eq_false_iff, Bool.not_eq_eq_eq_not, Bool.not_true, Bool.not_false] at c14)
     refine zaO ?_
     try simp only [Ex.thnH, Ex.inBlockH, ↓reduceIte, Nat.reduceEqDiff]
     refine hK3 _ _ ?_; try clear hK3 K3
     refine zad (fun K8 hK8 => ?_)
     refine zad (fun K9 hK9 => ?_)
     refine zaa ?_
     refine zam rfl ?_
     refine zac (fun K hK r => ?_)
     rw [zbh _ _ rfl]
     simp only [eX, ↓reduceIte, Nat.reduceEqDiff, Int.reduceToNat]
     refine hK _ _ ?_; clear hK K
     refine zac (fun K hK r => ?_)
     simp only [zah, fa78_0, zap, Nat.reduceAdd, Nat.zero_add, eX, ↓reduceIte, Nat.reduceEqDiff, Int.reduceToNat]
     refine hK _ _ ?_; clear hK K
     refine zac (fun K hK r => ?_)
     simp only [zaT _ bd48, List.map_toArray, List.map_cons, List.map_nil, eX, ↓reduceIte, Nat.reduceEqDiff, Int.reduceToNat]
     fail "left out: CALL (*sluiceway/dev.power).step slot 21"
set_option maxRecDepth 100000 in
set_option maxHeartbeats 1000000 in
theorem flush_in (H : Hp) (p : Nat) (s : St) (rd cap : Nat) (bs : List Nat) (Fs : Nat → Hp) (h : SX H p s rd cap bs Fs) (hl : s.dv.length ≤ 1000) (hw : ∀ i, (s.dv.getD i default).wait.length ≤ 1000000) (dev : Int) (hin : 0 ≤ dev ∧ dev < s.dv.length) : CallH Try.prog 37 #[(.pointer (some ⟨p, 0, none⟩)), .int .i64 dev] H (fun v H' => v = errV (s.fl dev).2 ∧ SetX H' p (s.fl dev).1) := by
 refine zaB (l := [_, _]) (rl := [.tmp 4]) (n := 27) Try.func37 rfl rfl rfl rfl rfl ?_
 simp only [envOf, Nat.reduceAdd]
 have hk : dev.toNat < s.dv.length := by omega
 have hfp := h.fp dev.toNat hk
 refine zad (fun K1 hK1 => ?_)
 refine zaa ?_
 refine zao rfl ?_
 refine zae ?_
 try simp only [Ex.thnH, Ex.inBlockH, ↓reduceIte, Nat.reduceEqDiff]
 refine hK1 _ _ ?_; try clear hK1 K1
 refine zad (fun K2 hK2 => ?_)
 refine zaa ?_
 refine zam rfl ?_
 refine zam rfl ?_
 refine zac (fun K hK r => ?_)
 simp only [zaT _ bd46, List.map_toArray, List.map_cons, List.map_nil, eX, ↓reduceIte, Nat.reduceEqDiff, Int.reduceToNat]
 refine (device_ok _ p s rd cap bs Fs h dev hl).mono ?_
 rintro v H' ⟨rfl, rfl⟩
 rw [show devV s bs dev = ptrV (bs.getD dev.toNat 0) from if_pos hin]
 simp only [ptrV]
 try simp only [eX, ↓reduceIte, Nat.reduceEqDiff, Int.reduceToNat]
 refine hK _ _ ?_; clear hK K
 refine zao rfl ?_
 refine zae ?_
 try simp only [Ex.thnH, Ex.inBlockH, ↓reduceIte, Nat.reduceEqDiff]
 refine hK2 _ _ ?_; try clear hK2 K2
 refine zad (fun K3 hK3 => ?_)
 refine zaV ?_
 refine zad (fun K4 hK4 => ?_)
 refine zaa ?_
 refine zam rfl ?_
 refine zac (fun K hK r => ?_)
 simp only [zaF, zaH, g_bool, zbo, zbk, g_slice, g_map, g_func, zbl, g_iface, zbe, g_nil_r, g_nil_l, eX, ↓reduceIte, Nat.reduceEqDiff, Int.reduceToNat]
 rw [e_eql _ _ _ _ (by simp)]
 rw [q_equal]
 first | rw [q_ptr_nil _ _ _ Try.underlying31] | rw [q_nil_ptr _ _ _ Try.underlying31]
 try simp only [eX, ↓reduceIte, Nat.reduceEqDiff, Int.reduceToNat]
 refine hK _ _ ?_; clear hK K
 refine zao rfl ?_
 refine zae ?_
 try simp only [Ex.thnH, Ex.inBlockH, ↓reduceIte, Nat.reduceEqDiff]
 refine hK4 _ _ ?_; try clear hK4 K4
 refine zaG (fun r => rfl) (fun c10 => ?_) (fun c10 => ?_)
 ·first
  |(exfalso; exact cnA c10; done)
  |skip
   (try simp only [decide_eq_true_eq, decide_eq_false_iff_not, Bool.not_eq_true, Bool.not_eq_false, Bool.and_eq_true, Bool.or_eq_true, Bool.or_eq_false_iff, Bool.not_eq_eq_eq_not, Bool.not_true, Bool.not_false] at c10)
   refine zad (fun K5 hK5 => ?_)
   refine zaa ?_
   refine zac (fun K hK r => ?_)
   simp only [zbf, zbg, Try.underlying73, zal, eX, ↓reduceIte, Nat.reduceEqDiff, Int.reduceToNat]
   refine hK _ _ ?_; clear hK K
   refine zao rfl ?_
   refine zae ?_
   try simp only [Ex.thnH, Ex.inBlockH, ↓reduceIte, Nat.reduceEqDiff]
   refine hK5 _ _ ?_; try clear hK5 K5
   refine zaR ?_
   try simp only [Ex.thnH, Ex.inBlockH, ↓reduceIte, Nat.reduceEqDiff]
   skip
 ·first
  |(exfalso; exact cnA c10; done)
  |skip
   (try simp only [decide_eq_true_eq, decide_eq_false_iff_not, Bool.not_eq_true, Bool.not_eq_false, Bool.and_eq_true, Bool.or_eq_true, Bool.or_eq_false_iff, Bool.not_eq_eq_eq_not, Bool.not_true, Bool.not_false] at c10)
   refine zad (fun K6 hK6 => ?_)
   refine zaa ?_
   refine zam rfl ?_
   refine zac (fun K hK r => ?_)
   simp only [zaF, zaH, g_bool, zbo, zbk, g_slice, g_map, g_func, zbl, g_iface, zbe, g_nil_r, g_nil_l, eX, ↓reduceIte, Nat.reduceEqDiff, Int.reduceToNat]
   rw [e_eql _ _ _ _ (by simp)]
   rw [q_equal]
   first | rw [q_ptr_nil _ _ _ Try.underlying79] | rw [q_nil_ptr _ _ _ Try.underlying79]
   try simp only [eX, ↓reduceIte, Nat.reduceEqDiff, Int.reduceToNat]
   refine hK _ _ ?_; clear hK K
   refine zao rfl ?_
   refine zae ?_
   try simp only [Ex.thnH, Ex.inBlockH, ↓reduceIte, Nat.reduceEqDiff]
   refine hK6 _ _ ?_; try clear hK6 K6
   refine zaG (fun r => rfl) (fun c14 => ?_) (fun c14 => ?_)
   ·first
    |(exfalso; exact cnA c14; done)
    |skip
     (try simp only [decide_eq_true_eq, decide_eq_false_iff_not, Bool.not_eq_true, Bool.not_eq_false, Bool.and_eq_true, Bool.or_eq_true, Bool.or_eq_false_iff, Bool.not_eq_eq_eq_not, Bool.not_true, Bool.not_false] at c14)
     refine zad (fun K7 hK7 => ?_)
     refine zaa ?_
     refine zac (fun K hK r => ?_)
     simp only [zbf, zbg, Try.underlying73, zal, eX, ↓reduceIte, Nat.reduceEqDiff, Int.reduceToNat]
     refine hK _ _ ?_; clear hK K
     refine zao rfl ?_
     refine zae ?_
     try simp only [Ex.thnH, Ex.inBlockH, ↓reduceIte, Nat.reduceEqDiff]
     refine hK7 _ _ ?_; try clear hK7 K7
     refine zaR ?_
     try simp only [Ex.thnH, Ex.inBlockH, ↓reduceIte, Nat.reduceEqDiff]
     skip
   ·first
    |(exfalso; exact cnA c14; done)
    |skip
     (try simp only [decide_eq_true_eq, decide_eq_false_iff_not, Bool.not_eq_true, Bool.not_eq_false, Bool.and_eq_true, Bool.or_eq_true, Bool.or_eq_false_iff, Bool.not_eq_eq_eq_not, Bool.not_true, Bool.not_false] at c14)
     refine zaO ?_
     try simp only [Ex.thnH, Ex.inBlockH, ↓reduceIte, Nat.reduceEqDiff]
     refine hK3 _ _ ?_; try clear hK3 K3
     refine zad (fun K8 hK8 => ?_)
     refine zad (fun K9 hK9 => ?_)
     refine zaa ?_
     refine zam rfl ?_
     refine zac (fun K hK r => ?_)
     rw [zbh _ _ rfl]
     simp only [eX, ↓reduceIte, Nat.reduceEqDiff, Int.reduceToNat]
     refine hK _ _ ?_; clear hK K
     refine zac (fun K hK r => ?_)
     simp only [zah, fa78_0, zap, Nat.reduceAdd, Nat.zero_add, eX, ↓reduceIte, Nat.reduceEqDiff, Int.reduceToNat]
     refine hK _ _ ?_; clear hK K
     refine zac (fun K hK r => ?_)
     simp only [zaT _ bd48, List.map_toArray, List.map_cons, List.map_nil, eX, ↓reduceIte, Nat.reduceEqDiff, Int.reduceToNat]
     refine (step_ok _ p s _ h.hd).mono ?_
     rintro v H' ⟨rfl, rfl⟩
     try simp only [eX, ↓reduceIte, Nat.reduceEqDiff, Int.reduceToNat]
     refine hK _ _ ?_; clear hK K
     refine zao rfl ?_
     refine zae ?_
     try simp only [Ex.thnH, Ex.inBlockH, ↓reduceIte, Nat.reduceEqDiff]
     refine hK9 _ _ ?_; try clear hK9 K9
     refine zad (fun K10 hK10 => ?_)
     refine zaa ?_
     refine zam rfl ?_
     refine zac (fun K hK r => ?_)
     simp only [zaF, zaH, g_bool, zbo, zbk, g_slice, g_map, g_func, zbl, g_err, g_iface, zbe, g_nil_r, g_nil_l, eX, ↓reduceIte, Nat.reduceEqDiff, Int.reduceToNat]
     first | rw [b_err_neq _ _ Try.underlying33] | (rw [e_neq _ _ _ _ (by simp), q_equal]; first | rw [q_iface_nil _ _ _ Try.underlying33] | rw [q_nil_iface _ _ _ Try.underlying33] | rw [q_nil_nil _ _ _ Try.underlying33])
     try simp only [eX, ↓reduceIte, Nat.reduceEqDiff, Int.reduceToNat]
     refine hK _ _ ?_; clear hK K
     refine zae ?_
     try simp only [Ex.thnH, Ex.inBlockH, ↓reduceIte, Nat.reduceEqDiff]
     refine hK10 _ _ ?_; try clear hK10 K10
     refine zaG (fun r => rfl) (fun c23 => ?_) (fun c23 => ?_)
     ·first
      |(exfalso; exact cnA c23; done)
      |skip
       (try simp only [decide_eq_true_eq, decide_eq_false_iff_not, Bool.not_eq_true, Bool.not_eq_false, Bool.and_eq_true, Bool.or_eq_true, Bool.or_eq_false_iff, Bool.not_eq_eq_eq_not, Bool.not_true, Bool.not_false] at c23)
       have hst : s.step.2 = false := by cases hc : s.step.2 with
        |false => rfl
        |true => rw [hc] at c23; simp at c23
       refine zad (fun K11 hK11 => ?_)
       refine zaa ?_
       refine zam rfl ?_
       refine zao rfl ?_
       refine zae ?_
       try simp only [Ex.thnH, Ex.inBlockH, ↓reduceIte, Nat.reduceEqDiff]
       refine hK11 _ _ ?_; try clear hK11 K11
       refine zaR ?_
       try simp only [Ex.thnH, Ex.inBlockH, ↓reduceIte, Nat.reduceEqDiff]
       have hfl : s.fl dev = (s.step.1, some 3) := by
        unfold St.fl; rw [if_pos hin]
        generalize hq : s.step = q at *
        obtain ⟨t, bb⟩ := q
        simp only at hst; subst hst; rfl
       refine ⟨[_], ⟨rfl, trivial⟩, _, Le.refl _, ?_, ?_⟩
       ·rw [hfl, hst]; rfl
       ·rw [hfl]; exact ⟨rd, cap, bs, Fs, h.head (step_dv s) (zax _ _ _) (fun z o hz hzp => (zaA _ _ hzp).trans hz)⟩
     ·first
      |(exfalso; exact cnA c23; done)
      |skip
       (try simp only [decide_eq_true_eq, decide_eq_false_iff_not, Bool.not_eq_true, Bool.not_eq_false, Bool.and_eq_true, Bool.or_eq_true, Bool.or_eq_false_iff, Bool.not_eq_eq_eq_not, Bool.not_true, Bool.not_false] at c23)
       have hst : s.step.2 = true := by cases hc : s.step.2 with
        |true => rfl
        |false => rw [hc] at c23; simp at c23
       refine zaO ?_
       try simp only [Ex.thnH, Ex.inBlockH, ↓reduceIte, Nat.reduceEqDiff]
       refine hK8 _ _ ?_; try clear hK8 K8
       refine zad (fun K12 hK12 => ?_)
       refine zaa ?_
       refine zam rfl ?_
       refine zac (fun K hK r => ?_)
       simp only [zaT _ bd42, List.map_toArray, List.map_cons, List.map_nil, eX, ↓reduceIte, Nat.reduceEqDiff, Int.reduceToNat]
       refine (settle_ok _ _ _ (Fs dev.toNat) emptyHp (h.dev dev.toNat hk) (fun x o hx => (zaA _ _ (fun e => by subst e; rw [hfp.1] at hx; cases hx)).trans (h.le dev.toNat hk x o hx)) (le_empty _) (fun _ _ => rfl) (.func 62) #[] #[] (fun _ => some 0) (fun KK _ n hn => ValH_func bd62 (flush1_ok KK n)) (hw _)).mono ?_
       rintro v26 H26 ⟨F', hdF, hlF, hdom, hkp⟩
       try simp only [eX, ↓reduceIte, Nat.reduceEqDiff, Int.reduceToNat]
       refine hK _ _ ?_; clear hK K
       refine zae ?_
       try simp only [Ex.thnH, Ex.inBlockH, ↓reduceIte, Nat.reduceEqDiff]
       refine hK12 _ _ ?_; try clear hK12 K12
       refine zad (fun K13 hK13 => ?_)
       refine zaa ?_
       refine zao rfl ?_
       refine zae ?_
       try simp only [Ex.thnH, Ex.inBlockH, ↓reduceIte, Nat.reduceEqDiff]
       refine hK13 _ _ ?_; try clear hK13 K13
       refine zaR ?_
       try simp only [Ex.thnH, Ex.inBlockH, ↓reduceIte, Nat.reduceEqDiff]
       have hfl : s.fl dev = ({ s.step.1 with dv := s.dv.set dev.toNat ((s.dv.getD dev.toNat default).settle (fun _ => some 0)) }, none) := by
        unfold St.fl; rw [if_pos hin]
        have hdq := step_dv s
        generalize hq : s.step = q at *
        obtain ⟨t, bb⟩ := q
        simp only at hst hdq; subst hst; rw [← hdq]
       refine ⟨[_], ⟨rfl, trivial⟩, _, Le.refl _, ?_, ?_⟩
       ·rw [hfl]; rfl
       ·rw [hfl]
        exact h.put hk hdF rfl (hkp p _ (zax _ _ _) hfp.1) hlF (fun z o hz hn hzp => hkp z o ((zaA _ _ hzp).trans hz) hn) (fun z hz => .inl (hdom z hz))
theorem flush_ok (H : Hp) (p : Nat) (s : St) (rd cap : Nat) (bs : List Nat) (Fs : Nat → Hp) (h : SX H p s rd cap bs Fs) (hl : s.dv.length ≤ 1000) (hw : ∀ i, (s.dv.getD i default).wait.length ≤ 1000000) (dev : Int) : CallH Try.prog 37 #[(.pointer (some ⟨p, 0, none⟩)), .int .i64 dev] H (fun v H' => v = errV (s.fl dev).2 ∧ SetX H' p (s.fl dev).1) := by
  by_cases hin : 0 ≤ dev ∧ dev < s.dv.length
  · exact flush_in H p s rd cap bs Fs h hl hw dev hin
  · exact flush_bad H p s rd cap bs Fs h hl dev hin
end Go.Proofs.Ytcjdkfhmlnfedaa.HL
end
section
namespace Go.Proofs.Ytcjdkfhmlnfedaa.HL
open Go Go.Proofs
set_option linter.unusedSimpArgs false
set_option linter.unusedVariables false
attribute [local irreducible] Lt Lq CW OW TW CallH

structure Stn (H K F : Hp) (p : Nat) (s : St) : Prop where
  set : SetX F p s
  le : Le F K
  old : Le H K
  ap : ∀ b, H b ≠ none → F b = none
def Sm (n : Nat) (s : St) : Prop := s.dv.length ≤ 5 ∧ ∀ i, (s.dv.getD i default).wait.length ≤ n
theorem Sm.up {n m : Nat} {s : St} (h : Sm n s) (hm : n ≤ m) : Sm m s := ⟨h.1, fun i => Nat.le_trans (h.2 i) hm⟩
theorem getD_set {l : List Dv} {k : Nat} {d : Dv} (i : Nat) : (l.set k d).getD i default = if i = k ∧ k < l.length then d else l.getD i default := by
  simp only [List.getD_eq_getElem?_getD, List.getElem?_set]
  by_cases h : k = i
  · subst h
    by_cases h2 : k < l.length
    · simp [h2]
    · simp [h2, List.getElem?_eq_none (by omega : l.length ≤ k)]
  · rw [if_neg h, if_neg (by rintro ⟨rfl, _⟩; exact h rfl)]
theorem Sm.set {n : Nat} {s t : St} (h : Sm n s) {k : Nat} {d : Dv} (hd : d.wait.length ≤ n) (ht : t.dv = s.dv.set k d) : Sm n t := by
  refine ⟨by rw [ht, List.length_set]; exact h.1, fun i => ?_⟩
  rw [ht, getD_set]
  split
  · exact hd
  · exact h.2 i
theorem wr_cases (s : St) (dev i : Int) (x : Sec) : ((s.wr dev i x).1 = s ∧ (s.wr dev i x).2 = some 1 ∧ s.has dev i = false) ∨ ((s.wr dev i x).1 = s.step.1 ∧ (s.wr dev i x).2 = some 3 ∧ s.step.2 = false ∧ s.has dev i = true) ∨ ((s.wr dev i x).1 = { s.step.1 with dv := s.dv.set dev.toNat ((s.dv.getD dev.toNat default).put ⟨i, x⟩) } ∧ (s.wr dev i x).2 = none ∧ s.step.2 = true ∧ s.has dev i = true) := by
  unfold St.wr
  by_cases h : s.has dev i = true
  · rw [if_pos h]
    have hd := step_dv s
    generalize hq : s.step = q at *
    obtain ⟨t, b⟩ := q
    cases b with
    | true => exact .inr (.inr ⟨by simp only at hd; rw [← hd], rfl, rfl, h⟩)
    | false => exact .inr (.inl ⟨rfl, rfl, rfl, h⟩)
  · rw [if_neg h]; exact .inl ⟨rfl, rfl, by simpa using h⟩
theorem fl_cases (s : St) (dev : Int) : ((s.fl dev).1 = s ∧ (s.fl dev).2 = some 1 ∧ ¬ (0 ≤ dev ∧ dev < s.dv.length)) ∨ ((s.fl dev).1 = s.step.1 ∧ (s.fl dev).2 = some 3 ∧ s.step.2 = false ∧ (0 ≤ dev ∧ dev < s.dv.length)) ∨ ((s.fl dev).1 = { s.step.1 with dv := s.dv.set dev.toNat ((s.dv.getD dev.toNat default).settle (fun _ => some 0)) } ∧ (s.fl dev).2 = none ∧ s.step.2 = true ∧ (0 ≤ dev ∧ dev < s.dv.length)) := by
  unfold St.fl
  by_cases h : 0 ≤ dev ∧ dev < s.dv.length
  · rw [if_pos h]
    have hd := step_dv s
    generalize hq : s.step = q at *
    obtain ⟨t, b⟩ := q
    cases b with
    | true => exact .inr (.inr ⟨by simp only at hd; rw [← hd], rfl, rfl, h⟩)
    | false => exact .inr (.inl ⟨rfl, rfl, rfl, h⟩)
  · rw [if_neg h]; exact .inl ⟨rfl, rfl, h⟩
theorem Sm.of_dv {n : Nat} {s t : St} (h : Sm n s) (ht : t.dv = s.dv) : Sm n t := ⟨by rw [ht]; exact h.1, by rw [ht]; exact h.2⟩
theorem Sm.wr {n : Nat} {s : St} (h : Sm n s) (dev i : Int) (x : Sec) : Sm (n + 1) (s.wr dev i x).1 := by
  rcases wr_cases s dev i x with ⟨e, _⟩ | ⟨e, _⟩ | ⟨e, _⟩
  · rw [e]; exact h.up (by omega)
  · rw [e]; exact (h.of_dv (step_dv s)).up (by omega)
  · rw [e]; exact (h.up (show n ≤ n + 1 by omega)).set (by simp [Dv.put]; exact h.2 _) rfl
theorem Sm.fl {n : Nat} {s : St} (h : Sm n s) (dev : Int) : Sm n (s.fl dev).1 := by
  rcases fl_cases s dev with ⟨e, _⟩ | ⟨e, _⟩ | ⟨e, _⟩
  · rw [e]; exact h
  · rw [e]; exact h.of_dv (step_dv s)
  · rw [e]; exact h.set (by simp [Dv.settle]) rfl
theorem Sm.cr {n : Nat} {s : St} (h : Sm n s) (l : List Kp) : Sm n (s.cr l) := by
  refine ⟨by simp [St.cr]; exact h.1, fun i => ?_⟩
  simp only [St.cr, List.getD_eq_getElem?_getD, List.getElem?_mapIdx]
  cases s.dv[i]? with
  | none => simp [default]
  | some d => simp [Dv.settle]
theorem Sm.new {l : List Int} (h : l.length ≤ 5) : Sm 0 (newSt l) := by
  refine ⟨by simp [newSt]; exact h, fun i => ?_⟩
  simp only [newSt, List.getD_eq_getElem?_getD, List.getElem?_map]
  cases l[i]? with
  | none => simp [default]
  | some d => simp [newDv]
theorem Stn.use {H K F : Hp} {p : Nat} {s t : St} (hA : Stn H K F p s) {F' K' : Hp} (hX : SetX F' p t) (hl : Le F' K') (hf : ∀ b o, K b = some o → F b = none → K' b = some o ∧ F' b = none) : Stn H K' F' p t := by
  refine ⟨hX, hl, fun b o hb => (hf b o (hA.old b o hb) (hA.ap b (by rw [hb]; simp))).1, fun b hb => ?_⟩
  cases hc : H b with
  | none => exact absurd hc hb
  | some o => exact (hf b o (hA.old b o hc) (hA.ap b hb)).2
theorem Stn.put {H K F : Hp} {p : Nat} {s : St} (hA : Stn H K F p s) {b : Nat} (hb : F b = none) (o : Obj) : Stn (H.upd b o) (K.upd b o) F p s := by
  refine ⟨hA.set, zaP hA.le hb, fun x u hx => ?_, fun x hx => ?_⟩
  · by_cases e : x = b
    · subst e; rw [zax] at hx ⊢; exact hx
    · rw [zaA _ _ e] at hx ⊢; exact hA.old x u hx
  · by_cases e : x = b
    · subst e; exact hb
    · rw [zaA _ _ e] at hx; exact hA.ap x hx
theorem Stn.fresh {H K F : Hp} {p : Nat} {s : St} (hA : Stn H K F p s) {b : Nat} (hb : K b = none) : F b = none := zaj hA.le hb
theorem Stn.less {H H' K F : Hp} {p : Nat} {s : St} (hA : Stn H K F p s) (hl : Le H' H) : Stn H' K F p s := ⟨hA.set, hA.le, Le.trans hl hA.old, fun b hb => hA.ap b (fun hn => hb (zaj hl hn))⟩
theorem Stn.more {H K F : Hp} {p : Nat} {s : St} (hA : Stn H K F p s) {K' : Hp} (hl : Le K K') : Stn H K' F p s := ⟨hA.set, Le.trans hA.le hl, Le.trans hA.old hl, hA.ap⟩
theorem writeL {H K F : Hp} {p : Nat} {s : St} (hA : Stn H K F p s) {n : Nat} (hs : Sm n s) (hn : n ≤ 1000000) (dev i : Int) (x : Sec) : CallH Try.prog 21 #[(.pointer (some ⟨p, 0, none⟩)), .int .i64 dev, .int .i64 i, x.v] K (fun v K' => v = errV (s.wr dev i x).2 ∧ ∃ F', Stn H K' F' p (s.wr dev i x).1) := by
  obtain ⟨r, cap, bs, Fs, h⟩ := hA.set
  refine (CallH.use (write_ok F p s r cap bs Fs h (Nat.le_trans hs.1 (by decide)) (fun i => Nat.le_trans (hs.2 i) hn) dev i x) hA.le).mono ?_
  rintro v K' ⟨F', ⟨rfl, hX⟩, hl, hf⟩
  exact ⟨rfl, F', hA.use hX hl hf⟩
theorem flushL {H K F : Hp} {p : Nat} {s : St} (hA : Stn H K F p s) {n : Nat} (hs : Sm n s) (hn : n ≤ 1000000) (dev : Int) : CallH Try.prog 37 #[(.pointer (some ⟨p, 0, none⟩)), .int .i64 dev] K (fun v K' => v = errV (s.fl dev).2 ∧ ∃ F', Stn H K' F' p (s.fl dev).1) := by
  obtain ⟨r, cap, bs, Fs, h⟩ := hA.set
  refine (CallH.use (flush_ok F p s r cap bs Fs h (Nat.le_trans hs.1 (by decide)) (fun i => Nat.le_trans (hs.2 i) hn) dev) hA.le).mono ?_
  rintro v K' ⟨F', ⟨rfl, hX⟩, hl, hf⟩
  exact ⟨rfl, F', hA.use hX hl hf⟩
theorem armL {H K F : Hp} {p : Nat} {s : St} (hA : Stn H K F p s) (n : Int) : CallH Try.prog 20 #[(.pointer (some ⟨p, 0, none⟩)), .int .i64 n] K (fun v K' => v = errV (if n < 0 then some 1 else none) ∧ ∃ F', Stn H K' F' p (if n < 0 then s else { s with armed := true, left := n })) := by
  obtain ⟨r, cap, bs, Fs, h⟩ := hA.set
  refine (CallH.use (arm_ok F p s r cap bs Fs h n) hA.le).mono ?_
  rintro v K' ⟨F', ⟨rfl, hX⟩, hl, hf⟩
  exact ⟨rfl, F', hA.use hX hl hf⟩
theorem crashL {H K F : Hp} {p : Nat} {s : St} (hA : Stn H K F p s) {n : Nat} (hs : Sm n s) (hn : n ≤ 1000000) {G : Hp} (hG : Le G K) (hGF : ∀ x, G x ≠ none → F x = none) (hGH : ∀ x, G x ≠ none → H x = none) (a : Option Addr) (cap : Nat) (l : List Kp) (hv : Holds G 3 (.slice a l.length cap) l.length (kps l)) (hl : l.length ≤ 1000) : CallH Try.prog 17 #[(.pointer (some ⟨p, 0, none⟩)), .slice a l.length cap] K (fun _ K' => ∃ F', Stn H K' F' p (s.cr l)) := by
  obtain ⟨r, cap', bs, Fs, h⟩ := hA.set
  have hap : F.apart G := fun b hb => hGF b hb
  have hfg : ∀ x, F x ≠ none → G x = none := fun x hx => by
    cases hc : G x with
    | none => rfl
    | some o => exact absurd (hGF x (by rw [hc]; simp)) hx
  have hpF : F p ≠ none := by rw [h.hd]; simp
  refine (CallH.use (crash_ok (F.join G) p s r cap' bs Fs (h.mono (le_join F G)) (Nat.le_trans hs.1 (by decide)) (fun i => Nat.le_trans (hs.2 i) hn) G (le_join_r hap) (hfg p hpF) (fun i hi x hx => hfg x (fun hn => hx (zaj (h.le i hi) hn))) a cap l hv hl) (join_le hA.le hG)).mono ?_
  rintro v K' ⟨F', hX, hl', hf⟩
  have hf' : ∀ b o, H b = some o → K' b = some o ∧ F' b = none := fun b o hb => by
    refine hf b o (hA.old b o hb) ?_
    have h1 : F b = none := hA.ap b (by rw [hb]; simp)
    rw [join_r h1]
    cases hc : G b with
    | none => rfl
    | some u => have := hGH b (by rw [hc]; simp); rw [hb] at this; cases this
  refine ⟨F', hX, hl', fun b o hb => (hf' b o hb).1, fun b hb => ?_⟩
  cases hc : H b with
  | none => exact absurd hc hb
  | some o => exact (hf' b o hc).2
theorem readL {H K F : Hp} {p : Nat} {s : St} (hA : Stn H K F p s) {n : Nat} (hs : Sm n s) (hn : n ≤ 1000000) (dev i : Int) : CallH Try.prog 54 #[(.pointer (some ⟨p, 0, none⟩)), .int .i64 dev, .int .i64 i] K (fun v K' => v = .tuple #[(s.rd dev i).1.v, errV (s.rd dev i).2] ∧ K' = K) := by
  obtain ⟨r, cap, bs, Fs, h⟩ := hA.set
  exact read_ok K p s r cap bs Fs (h.mono hA.le) (Nat.le_trans hs.1 (by decide)) (fun i => Nat.le_trans (hs.2 i) hn) dev i
theorem downL {H K F : Hp} {p : Nat} {s : St} (hA : Stn H K F p s) : CallH Try.prog 52 #[(.pointer (some ⟨p, 0, none⟩))] K (fun v K' => v = .bool s.gone ∧ K' = K) := by
  obtain ⟨r, cap, bs, Fs, h⟩ := hA.set
  exact down_ok K p s r cap bs Fs (h.mono hA.le)
def St.wa (s : St) (dev : Int) : Int := if 0 ≤ dev ∧ dev < s.dv.length then ((s.dv.getD dev.toNat default).wait.length : Int) else 0
def St.sz (s : St) (dev : Int) : Int := if 0 ≤ dev ∧ dev < s.dv.length then (s.dv.getD dev.toNat default).size else 0
theorem sizeL {H K F : Hp} {p : Nat} {s : St} (hA : Stn H K F p s) {n : Nat} (hs : Sm n s) (dev : Int) : CallH Try.prog 31 #[(.pointer (some ⟨p, 0, none⟩)), .int .i64 dev] K (fun v K' => v = .int .i64 (s.sz dev) ∧ K' = K) := by
  obtain ⟨r, cap, bs, Fs, h⟩ := hA.set
  unfold St.sz
  by_cases hin : 0 ≤ dev ∧ dev < s.dv.length
  · rw [if_pos hin]; exact size_in K p s r cap bs Fs (h.mono hA.le) (Nat.le_trans hs.1 (by decide)) dev hin
  · rw [if_neg hin]; exact size_out K p s r cap bs Fs (h.mono hA.le) (Nat.le_trans hs.1 (by decide)) dev hin
theorem newL (H : Hp) (a : Option Addr) (cap : Nat) (l : List Int) (hv : Holds H 1 (.slice a l.length cap) l.length (l.map (Value.int .i64))) (hg : goodN l = true) (hl : l.length ≤ 1000) : CallH Try.prog 9 #[.slice a l.length cap] H (fun v H' => ∃ p F, v = .tuple #[ptrV p, errV none] ∧ Stn H H' F p (newSt l)) := by
  refine (new_ok H a cap l hv hl).mono ?_
  rintro v H' (⟨h1, _, _⟩ | ⟨_, hle, p, rfl, F, hX, hF, hd⟩)
  · rw [hg] at h1; cases h1
  · refine ⟨p, F, rfl, hX, hF, hle, fun b hb => ?_⟩
    cases hc : F b with
    | none => rfl
    | some o => exact absurd (hd b (by rw [hc]; simp)) hb
end Go.Proofs.Ytcjdkfhmlnfedaa.HL
end
section
namespace Go.Proofs.Ytcjdkfhmlnfedaa.HL
open Go Go.Proofs
set_option linter.unusedSimpArgs false
set_option linter.unusedVariables false
attribute [local irreducible] Lt Lq CW OW TW CallH
structure RDv where
  sec : List Sec
  wait : List Wt
deriving Inhabited
structure RSt where
  dv : List RDv
  steps : Int
  left : Int
  armed : Bool
  gone : Bool
structure RDX where
  sa : Option Addr
  sc : Nat
  wa : Option Addr
  wc : Nat
  d : RDv
deriving Inhabited
abbrev secs (l : List Sec) : List Value := l.flatMap Sec.c
abbrev RDX.c (x : RDX) : List Value := [.slice x.sa x.d.sec.length x.sc, .slice x.wa x.d.wait.length x.wc]
theorem RDX.len (x : RDX) : x.c.length = 2 := rfl
structure RDX.ok (H : Hp) (x : RDX) : Prop where
  s : Holds H 64 (.slice x.sa x.d.sec.length x.sc) x.d.sec.length (secs x.d.sec)
  w : Holds H 65 (.slice x.wa x.d.wait.length x.wc) x.d.wait.length (wts x.d.wait)
theorem RDX.ok.le {H K : Hp} {x : RDX} (h : x.ok H) (k : Le H K) : x.ok K := ⟨h.s.le k, h.w.le k⟩
structure RX (H : Hp) (a : Option Addr) (cap : Nat) (X : List RDX) : Prop where
  h : Holds H 2 (.slice a X.length cap) X.length (X.flatMap RDX.c)
  ok : ∀ x ∈ X, x.ok H
theorem RX.le {H K : Hp} {a : Option Addr} {cap : Nat} {X : List RDX} (h : RX H a cap X) (k : Le H K) : RX K a cap X := ⟨h.h.le k, fun x hx => (h.ok x hx).le k⟩
abbrev rdv (X : List RDX) : List RDv := X.map RDX.d
theorem rdv_at {X : List RDX} (i : Nat) : (rdv X).getD i default = (X.getD i default).d := by
  simp only [List.getD_eq_getElem?_getD, List.getElem?_map]
  cases X[i]? <;> rfl
abbrev RSt.c (m : RSt) (dvv : Value) : List Value := [dvv, .int .i64 m.steps, .int .i64 m.left, .bool m.armed, .bool m.gone]
abbrev RSt.v (m : RSt) (dvv : Value) : Value := .agg (m.c dvv).toArray
def RSt.has (m : RSt) (dev i : Int) : Bool := decide (0 ≤ dev ∧ dev < m.dv.length) && decide (0 ≤ i ∧ i < (m.dv.getD dev.toNat default).sec.length)
def RSt.step (m : RSt) : RSt × Bool :=
  if m.gone = true then (m, false) else if m.armed = true ∧ m.left = 0 then ({ m with gone := true }, false) else ({ m with left := if m.armed = true then IntKind.i64.wrap (m.left - 1) else m.left, steps := IntKind.i64.wrap (m.steps + 1) }, true)
theorem RSt.step_dv (m : RSt) : m.step.1.dv = m.dv := by unfold RSt.step; split; rfl; split <;> rfl
def RSt.put (m : RSt) (dev i : Int) (x : Sec) : RSt × Int :=
  if m.has dev i = true then (match m.step with | (t, true) => ({ t with dv := t.dv.set dev.toNat ⟨(t.dv.getD dev.toNat default).sec, (t.dv.getD dev.toNat default).wait ++ [⟨i, x⟩]⟩ }, 0) | (t, false) => (t, 3)) else (m, 1)
def doneL (l : List Sec) (w : List Wt) : List Sec := w.foldl (fun l w => l.set w.at_.toNat w.x) l
def RSt.fl (m : RSt) (dev : Int) : RSt × Int :=
  if 0 ≤ dev ∧ dev < m.dv.length then (match m.step with | (t, true) => ({ t with dv := t.dv.set dev.toNat ⟨doneL (t.dv.getD dev.toNat default).sec (t.dv.getD dev.toNat default).wait, []⟩ }, 0) | (t, false) => (t, 3)) else (m, 1)
def RSt.rd (m : RSt) (dev i : Int) : Sec × Int :=
  if m.gone = true then (Sec.zero, 3) else if m.has dev i = true then ((lastW (m.dv.getD dev.toNat default).wait i).getD ((m.dv.getD dev.toNat default).sec.getD i.toNat default), 0) else (Sec.zero, 1)
set_option maxRecDepth 100000 in
set_option maxHeartbeats 1000000 in
theorem rhas_ok (H : Hp) (a : Option Addr) (cap : Nat) (X : List RDX) (hX : RX H a cap X) (m : RSt) (hm : m.dv = rdv X) (dev i : Int) : CallH Try.prog 49 #[m.v (.slice a X.length cap), .int .i64 dev, .int .i64 i] H (fun v H' => v = .bool (m.has dev i) ∧ H' = H) := by
 refine zaB (l := [_, _, _]) (rl := [.tmp 6]) (n := 31) Try.func49 rfl rfl rfl rfl rfl ?_
 simp only [envOf, Nat.reduceAdd]
 have hlen : m.dv.length = X.length := by rw [hm]; simp
 refine zad (fun K1 hK1 => ?_)
 refine zaa ?_
 refine zac (fun K hK r => ?_)
 simp only [x_box, Value.cells, eX, ↓reduceIte, Nat.reduceEqDiff, Int.reduceToNat]
 intro b3 hb3
 have f3_H : H b3 = none := zaj lhA hb3
 try simp only [eX, ↓reduceIte, Nat.reduceEqDiff, Int.reduceToNat]
 refine hK _ _ ?_; clear hK K
 refine zao rfl ?_
 refine zae ?_
 try simp only [Ex.thnH, Ex.inBlockH, ↓reduceIte, Nat.reduceEqDiff]
 refine hK1 _ _ ?_; try clear hK1 K1
 refine zad (fun K2 hK2 => ?_)
 refine zaa ?_
 refine zam rfl ?_
 refine zac (fun K hK r => ?_)
 simp (disch := (first | omega | decide)) only [zaF, zaH, b_geq, zaq, zar, zat, zau, zas, zav, Bool.not_true, Bool.not_false, eX, ↓reduceIte, Nat.reduceEqDiff, Int.reduceToNat]
 refine hK _ _ ?_; clear hK K
 refine zam rfl ?_
 (first | refine zbc (d := 9) rfl (fun g9 => ?_) (fun g9 => ?_) | skip)
 all_goals try (exfalso; exact cnA g9)
 all_goals (try simp only [decide_eq_true_eq, decide_eq_false_iff_not, Bool.not_eq_true, Bool.not_eq_false, Bool.and_eq_true, Bool.or_eq_true, Bool.or_eq_false_iff, Bool.not_eq_eq_eq_not, Bool.not_true, Bool.not_false] at g9)
 all_goals
  try simp only [eX, ↓reduceIte, Nat.reduceEqDiff, Int.reduceToNat]
  first
  |refine zaf rfl (zab (by decide)) rfl (fun K hK r => ?_)
   simp only [zaU, eX, ↓reduceIte, Nat.reduceEqDiff, Int.reduceToNat]
   refine hK _ _ ?_; clear hK K
  |refine zag rfl (zab (by decide)) rfl ?_
   simp only [eX, ↓reduceIte, Nat.reduceEqDiff, Int.reduceToNat]
  first
  |refine zaf rfl (zab (by decide)) rfl (fun K hK r => ?_)
   simp only [zah, fa38_0, zap, Nat.reduceAdd, Nat.zero_add, eX, ↓reduceIte, Nat.reduceEqDiff, Int.reduceToNat]
   refine hK _ _ ?_; clear hK K
  |refine zag rfl (zab (by decide)) rfl ?_
   simp only [eX, ↓reduceIte, Nat.reduceEqDiff, Int.reduceToNat]
  first
  |refine zaf rfl (zab (by decide)) rfl (fun K hK r => ?_)
   simp only [zan, eX, ↓reduceIte, Nat.reduceEqDiff, Int.reduceToNat]
   refine zak Try.underlying36 rfl hbA ldA ?_
   try simp only [eX, ↓reduceIte, Nat.reduceEqDiff, Int.reduceToNat]
   refine hK _ _ ?_; clear hK K
  |refine zag rfl (zab (by decide)) rfl ?_
   simp only [eX, ↓reduceIte, Nat.reduceEqDiff, Int.reduceToNat]
  first
  |refine zaf rfl (zab (by decide)) rfl (fun K hK r => ?_)
   simp only [zaM, l_len, List.map_toArray, List.map_cons, List.map_nil, zaS _ _ Try.underlying36, eX, ↓reduceIte, Nat.reduceEqDiff, Int.reduceToNat]
   refine hK _ _ ?_; clear hK K
  |refine zag rfl (zab (by decide)) rfl ?_
   simp only [eX, ↓reduceIte, Nat.reduceEqDiff, Int.reduceToNat]
  first
  |refine zaf rfl (zab (by decide)) rfl (fun K hK r => ?_)
   simp (disch := (first | omega | decide)) only [zaF, zaH, b_lss, zaq, zar, zat, zau, zas, zav, Bool.not_true, Bool.not_false, eX, ↓reduceIte, Nat.reduceEqDiff, Int.reduceToNat]
   refine hK _ _ ?_; clear hK K
  |refine zag rfl (zab (by decide)) rfl ?_
   simp only [eX, ↓reduceIte, Nat.reduceEqDiff, Int.reduceToNat]
  refine zac (fun K hK r => ?_)
  simp only [zbp, zaZ, HL.ite_bool, if_true, if_false, Bool.false_eq_true, eX, ↓reduceIte, Nat.reduceEqDiff, Int.reduceToNat]
  refine hK _ _ ?_; clear hK K
  refine zam rfl ?_
  (first | refine zbc (d := 16) rfl (fun g16 => ?_) (fun g16 => ?_) | skip)
  all_goals try (exfalso; exact cnA g16)
  all_goals (try simp only [decide_eq_true_eq, decide_eq_false_iff_not, Bool.not_eq_true, Bool.not_eq_false, Bool.and_eq_true, Bool.or_eq_true, Bool.or_eq_false_iff, Bool.not_eq_eq_eq_not, Bool.not_true, Bool.not_false] at g16)
  all_goals
   try simp only [eX, ↓reduceIte, Nat.reduceEqDiff, Int.reduceToNat]
   first
   |refine zaf rfl (zab (by decide)) rfl (fun K hK r => ?_)
    simp only [zaU, eX, ↓reduceIte, Nat.reduceEqDiff, Int.reduceToNat]
    refine hK _ _ ?_; clear hK K
   |refine zag rfl (zab (by decide)) rfl ?_
    simp only [eX, ↓reduceIte, Nat.reduceEqDiff, Int.reduceToNat]
   first
   |refine zaf rfl (zab (by decide)) rfl (fun K hK r => ?_)
    simp (disch := (first | omega | decide)) only [zaF, zaH, b_geq, zaq, zar, zat, zau, zas, zav, Bool.not_true, Bool.not_false, eX, ↓reduceIte, Nat.reduceEqDiff, Int.reduceToNat]
    refine hK _ _ ?_; clear hK K
   |refine zag rfl (zab (by decide)) rfl ?_
    simp only [eX, ↓reduceIte, Nat.reduceEqDiff, Int.reduceToNat]
   refine zac (fun K hK r => ?_)
   simp only [zbp, zaZ, HL.ite_bool, if_true, if_false, Bool.false_eq_true, eX, ↓reduceIte, Nat.reduceEqDiff, Int.reduceToNat]
   refine hK _ _ ?_; clear hK K
   refine zam rfl ?_
   (first | refine zbc (d := 20) rfl (fun g20 => ?_) (fun g20 => ?_) | skip)
   all_goals try (exfalso; exact cnA g20)
   all_goals (try simp only [decide_eq_true_eq, decide_eq_false_iff_not, Bool.not_eq_true, Bool.not_eq_false, Bool.and_eq_true, Bool.or_eq_true, Bool.or_eq_false_iff, Bool.not_eq_eq_eq_not, Bool.not_true, Bool.not_false] at g20)
   all_goals
    try simp only [eX, ↓reduceIte, Nat.reduceEqDiff, Int.reduceToNat]
    first
    |refine zaf rfl (zab (by decide)) rfl (fun K hK r => ?_)
     simp only [zaU, eX, ↓reduceIte, Nat.reduceEqDiff, Int.reduceToNat]
     refine hK _ _ ?_; clear hK K
    |refine zag rfl (zab (by decide)) rfl ?_
     simp only [eX, ↓reduceIte, Nat.reduceEqDiff, Int.reduceToNat]
    first
    |refine zaf rfl (zab (by decide)) rfl (fun K hK r => ?_)
     simp only [zah, fa38_0, zap, Nat.reduceAdd, Nat.zero_add, eX, ↓reduceIte, Nat.reduceEqDiff, Int.reduceToNat]
     refine hK _ _ ?_; clear hK K
    |refine zag rfl (zab (by decide)) rfl ?_
     simp only [eX, ↓reduceIte, Nat.reduceEqDiff, Int.reduceToNat]
    first
    |refine zaf rfl (zab (by decide)) rfl (fun K hK r => ?_)
     simp only [zan, eX, ↓reduceIte, Nat.reduceEqDiff, Int.reduceToNat]
     refine zak Try.underlying36 rfl hbA ldA ?_
     try simp only [eX, ↓reduceIte, Nat.reduceEqDiff, Int.reduceToNat]
     refine hK _ _ ?_; clear hK K
    |refine zag rfl (zab (by decide)) rfl ?_
     simp only [eX, ↓reduceIte, Nat.reduceEqDiff, Int.reduceToNat]
    first
    |refine zaf rfl (zab (by decide)) rfl (fun K hK r => ?_)
     simp only [zaU, eX, ↓reduceIte, Nat.reduceEqDiff, Int.reduceToNat]
     refine hK _ _ ?_; clear hK K
    |refine zag rfl (zab (by decide)) rfl ?_
     simp only [eX, ↓reduceIte, Nat.reduceEqDiff, Int.reduceToNat]
    first
    |refine zaf rfl (zab (by decide)) rfl (fun K hK r => ?_)
     simp only [zaK, eX, ↓reduceIte, Nat.reduceEqDiff, Int.reduceToNat]
     obtain ⟨bw, ow, cw, Tw, Fw, ew, hbw, hsw, atw⟩ := hX.h.at (by omega)
     refine zbi Try.underlying36 sz87 ew ixA ixA ?_
     refine hK _ _ ?_; clear hK K
    |refine zag rfl (zab (by decide)) rfl ?_
     simp only [eX, ↓reduceIte, Nat.reduceEqDiff, Int.reduceToNat]
    first
    |refine zaf rfl (zab (by decide)) rfl (fun K hK r => ?_)
     simp only [zah, fa87_0, zap, Nat.reduceAdd, Nat.zero_add, eX, ↓reduceIte, Nat.reduceEqDiff, Int.reduceToNat]
     refine hK _ _ ?_; clear hK K
    |refine zag rfl (zab (by decide)) rfl ?_
     simp only [eX, ↓reduceIte, Nat.reduceEqDiff, Int.reduceToNat]
    first
    |refine zaf rfl (zab (by decide)) rfl (fun K hK r => ?_)
     simp only [zan, eX, ↓reduceIte, Nat.reduceEqDiff, Int.reduceToNat]
     refine zak Try.underlying84 rfl ((zaA _ _ (zai hbw f3_H)).trans hbw) (v := .slice (X.getD dev.toNat default).sa (X.getD dev.toNat default).d.sec.length (X.getD dev.toNat default).sc) (by first | exact cell_at RDX.len atw rfl dev.toNat (by omega) 0 (by decide) | (rw [cell_at RDX.len atw rfl dev.toNat (by omega) 0 (by decide)]; rfl)) ?_
     refine hK _ _ ?_; clear hK K
    |refine zag rfl (zab (by decide)) rfl ?_
     simp only [eX, ↓reduceIte, Nat.reduceEqDiff, Int.reduceToNat]
    first
    |refine zaf rfl (zab (by decide)) rfl (fun K hK r => ?_)
     simp only [zaM, l_len, List.map_toArray, List.map_cons, List.map_nil, zaS _ _ Try.underlying84, eX, ↓reduceIte, Nat.reduceEqDiff, Int.reduceToNat]
     refine hK _ _ ?_; clear hK K
    |refine zag rfl (zab (by decide)) rfl ?_
     simp only [eX, ↓reduceIte, Nat.reduceEqDiff, Int.reduceToNat]
    first
    |refine zaf rfl (zab (by decide)) rfl (fun K hK r => ?_)
     simp (disch := (first | omega | decide)) only [zaF, zaH, b_lss, zaq, zar, zat, zau, zas, zav, Bool.not_true, Bool.not_false, eX, ↓reduceIte, Nat.reduceEqDiff, Int.reduceToNat]
     refine hK _ _ ?_; clear hK K
    |refine zag rfl (zab (by decide)) rfl ?_
     simp only [eX, ↓reduceIte, Nat.reduceEqDiff, Int.reduceToNat]
    refine zac (fun K hK r => ?_)
    simp only [zbp, zaZ, HL.ite_bool, if_true, if_false, Bool.false_eq_true, eX, ↓reduceIte, Nat.reduceEqDiff, Int.reduceToNat]
    refine hK _ _ ?_; clear hK K
    refine zao rfl ?_
    refine zae ?_
    try simp only [Ex.thnH, Ex.inBlockH, ↓reduceIte, Nat.reduceEqDiff]
    refine hK2 _ _ ?_; try clear hK2 K2
    refine zaR ?_
    try simp only [Ex.thnH, Ex.inBlockH, ↓reduceIte, Nat.reduceEqDiff]
    refine ⟨[_], ⟨rfl, trivial⟩, H, lhA, ?_, rfl⟩
    show Value.bool _ = _
    congr 1
    unfold RSt.has
    rw [hlen, hm, rdv_at]
    first | (symm; simp only [Bool.and_eq_false_iff, decide_eq_false_iff_not]; omega) | (rw [Bool.eq_iff_iff]; simp only [Bool.and_eq_true, decide_eq_true_eq]; omega)
set_option maxRecDepth 100000 in
set_option maxHeartbeats 1000000 in
theorem rstep_ok (H : Hp) (dvv : Value) (hp : plainCell dvv = true) (m : RSt) : CallH Try.prog 50 #[m.v dvv] H (fun v H' => v = .tuple #[m.step.1.v dvv, .bool m.step.2] ∧ H' = H) := by
 refine zaB (l := [_]) (rl := [.cell 2 38, .tmp 3]) (n := 23) Try.func50 rfl rfl rfl rfl rfl ?_
 simp only [envOf, Nat.reduceAdd]
 refine zad (fun K1 hK1 => ?_)
 refine zaa ?_
 refine zac (fun K hK r => ?_)
 simp only [x_box, Value.cells, eX, ↓reduceIte, Nat.reduceEqDiff, Int.reduceToNat]
 intro b1 hb1
 have f1_H : H b1 = none := zaj lhA hb1
 try simp only [eX, ↓reduceIte, Nat.reduceEqDiff, Int.reduceToNat]
 refine hK _ _ ?_; clear hK K
 refine zac (fun K hK r => ?_)
 simp only [x_alloc, zr38, zal, Value.cells, eX, ↓reduceIte, Nat.reduceEqDiff, Int.reduceToNat]
 intro b2 hb2
 try have n2_b1 : b1 ≠ b2 := zai hbA hb2
 have f2_H : H b2 = none := zaj lhA hb2
 try simp only [eX, ↓reduceIte, Nat.reduceEqDiff, Int.reduceToNat]
 refine hK _ _ ?_; clear hK K
 refine zao rfl ?_
 refine zae ?_
 try simp only [Ex.thnH, Ex.inBlockH, ↓reduceIte, Nat.reduceEqDiff]
 refine hK1 _ _ ?_; try clear hK1 K1
 refine zad (fun K2 hK2 => ?_)
 refine zad (fun K3 hK3 => ?_)
 refine zaa ?_
 refine zac (fun K hK r => ?_)
 simp only [zah, fa38_4, zap, Nat.reduceAdd, Nat.zero_add, eX, ↓reduceIte, Nat.reduceEqDiff, Int.reduceToNat]
 refine hK _ _ ?_; clear hK K
 refine zac (fun K hK r => ?_)
 simp only [zan, eX, ↓reduceIte, Nat.reduceEqDiff, Int.reduceToNat]
 refine zak Try.underlying4 rfl hbA ldA ?_
 try simp only [eX, ↓reduceIte, Nat.reduceEqDiff, Int.reduceToNat]
 refine hK _ _ ?_; clear hK K
 refine zae ?_
 try simp only [Ex.thnH, Ex.inBlockH, ↓reduceIte, Nat.reduceEqDiff]
 refine hK3 _ _ ?_; try clear hK3 K3
 refine zaG (fun r => rfl) (fun c5 => ?_) (fun c5 => ?_)
 ·first
  |(exfalso; exact cnA c5; done)
  |skip
   (try simp only [decide_eq_true_eq, decide_eq_false_iff_not, Bool.not_eq_true, Bool.not_eq_false, Bool.and_eq_true, Bool.or_eq_true, Bool.or_eq_false_iff, Bool.not_eq_eq_eq_not, Bool.not_true, Bool.not_false] at c5)
   refine zad (fun K4 hK4 => ?_)
   refine zaa ?_
   refine zac (fun K hK r => ?_)
   simp only [zan, eX, ↓reduceIte, Nat.reduceEqDiff, Int.reduceToNat]
   first | refine zaN Try.underlying38 rfl sz38 hbA bdA ?_ | refine zaC Try.underlying38 rfl sz38 hbA bdA ?_
   try simp only [List.extract_toArray, List.extract_eq_take_drop, Nat.zero_add, Nat.reduceAdd, Nat.reduceSub, Nat.sub_zero, List.drop_succ_cons, List.drop_zero, List.take_succ_cons, List.take_zero, List.take_nil, List.drop_nil]
   try simp only [eX, ↓reduceIte, Nat.reduceEqDiff, Int.reduceToNat]
   refine hK _ _ ?_; clear hK K
   refine zbq rfl (zaJ) (fun K hK r => ?_)
   simp only [zaL, eX, ↓reduceIte, Nat.reduceEqDiff, Int.reduceToNat]
   first | refine zaz sz38 bdA hbA bdA plA (by decide) ?_ | refine zaI sz38 bdA hbA bdA plA (by decide) ?_
   try simp only [eX, ↓reduceIte, Nat.reduceEqDiff, Int.reduceToNat]
   refine hK _ _ ?_; clear hK K
   refine zao rfl ?_
   refine zae ?_
   try simp only [Ex.thnH, Ex.inBlockH, ↓reduceIte, Nat.reduceEqDiff]
   refine hK4 _ _ ?_; try clear hK4 K4
   refine zaR ?_
   try simp only [Ex.thnH, Ex.inBlockH, ↓reduceIte, Nat.reduceEqDiff]
   refine ⟨[_, _], ⟨⟨_, rfl, zbd Try.underlying38 rfl sz38 hbA bdA⟩, rfl, trivial⟩, H, lhA, ?_, rfl⟩
   unfold RSt.step
   first | (simp_all; done) | (simp_all; rfl) | (split <;> first | (simp_all; done) | (simp_all; rfl))
 ·first
  |(exfalso; exact cnA c5; done)
  |skip
   (try simp only [decide_eq_true_eq, decide_eq_false_iff_not, Bool.not_eq_true, Bool.not_eq_false, Bool.and_eq_true, Bool.or_eq_true, Bool.or_eq_false_iff, Bool.not_eq_eq_eq_not, Bool.not_true, Bool.not_false] at c5)
   refine zaO ?_
   try simp only [Ex.thnH, Ex.inBlockH, ↓reduceIte, Nat.reduceEqDiff]
   refine hK2 _ _ ?_; try clear hK2 K2
   refine zad (fun K5 hK5 => ?_)
   refine zad (fun K6 hK6 => ?_)
   refine zaa ?_
   refine zac (fun K hK r => ?_)
   simp only [zah, fa38_3, zap, Nat.reduceAdd, Nat.zero_add, eX, ↓reduceIte, Nat.reduceEqDiff, Int.reduceToNat]
   refine hK _ _ ?_; clear hK K
   refine zac (fun K hK r => ?_)
   simp only [zan, eX, ↓reduceIte, Nat.reduceEqDiff, Int.reduceToNat]
   refine zak Try.underlying4 rfl hbA ldA ?_
   try simp only [eX, ↓reduceIte, Nat.reduceEqDiff, Int.reduceToNat]
   refine hK _ _ ?_; clear hK K
   refine zae ?_
   try simp only [Ex.thnH, Ex.inBlockH, ↓reduceIte, Nat.reduceEqDiff]
   refine hK6 _ _ ?_; try clear hK6 K6
   refine zaG (fun r => rfl) (fun c8 => ?_) (fun c8 => ?_)
   ·first
    |(exfalso; exact cnA c8; done)
    |skip
     (try simp only [decide_eq_true_eq, decide_eq_false_iff_not, Bool.not_eq_true, Bool.not_eq_false, Bool.and_eq_true, Bool.or_eq_true, Bool.or_eq_false_iff, Bool.not_eq_eq_eq_not, Bool.not_true, Bool.not_false] at c8)
     refine zad (fun K7 hK7 => ?_)
     refine zad (fun K8 hK8 => ?_)
     refine zaa ?_
     refine zac (fun K hK r => ?_)
     simp only [zah, fa38_2, zap, Nat.reduceAdd, Nat.zero_add, eX, ↓reduceIte, Nat.reduceEqDiff, Int.reduceToNat]
     refine hK _ _ ?_; clear hK K
     refine zac (fun K hK r => ?_)
     simp only [zan, eX, ↓reduceIte, Nat.reduceEqDiff, Int.reduceToNat]
     refine zak Try.underlying3 rfl hbA ldA ?_
     try simp only [eX, ↓reduceIte, Nat.reduceEqDiff, Int.reduceToNat]
     refine hK _ _ ?_; clear hK K
     refine zac (fun K hK r => ?_)
     simp (disch := (first | omega | decide)) only [zaF, zaH, b_eql, zaq, zar, zat, zau, zas, zav, Bool.not_true, Bool.not_false, eX, ↓reduceIte, Nat.reduceEqDiff, Int.reduceToNat]
     refine hK _ _ ?_; clear hK K
     refine zae ?_
     try simp only [Ex.thnH, Ex.inBlockH, ↓reduceIte, Nat.reduceEqDiff]
     refine hK8 _ _ ?_; try clear hK8 K8
     refine zaG (fun r => rfl) (fun c11 => ?_) (fun c11 => ?_)
     ·first
      |(exfalso; exact cnA c11; done)
      |skip
       (try simp only [decide_eq_true_eq, decide_eq_false_iff_not, Bool.not_eq_true, Bool.not_eq_false, Bool.and_eq_true, Bool.or_eq_true, Bool.or_eq_false_iff, Bool.not_eq_eq_eq_not, Bool.not_true, Bool.not_false] at c11)
       refine zad (fun K9 hK9 => ?_)
       refine zaa ?_
       refine zac (fun K hK r => ?_)
       simp only [zah, fa38_4, zap, Nat.reduceAdd, Nat.zero_add, eX, ↓reduceIte, Nat.reduceEqDiff, Int.reduceToNat]
       refine hK _ _ ?_; clear hK K
       refine zbq rfl (zaJ) (fun K hK r => ?_)
       simp only [zaL, eX, ↓reduceIte, Nat.reduceEqDiff, Int.reduceToNat]
       refine zaY sz4 hbA bdA plA fzA ?_
       try simp only [setL0, setL1, setL2, setL3, setL4, setL5, setL6, setL7, setL8, setL9]
       try simp only [eX, ↓reduceIte, Nat.reduceEqDiff, Int.reduceToNat]
       refine hK _ _ ?_; clear hK K
       refine zae ?_
       try simp only [Ex.thnH, Ex.inBlockH, ↓reduceIte, Nat.reduceEqDiff]
       refine hK9 _ _ ?_; try clear hK9 K9
       refine zad (fun K10 hK10 => ?_)
       refine zaa ?_
       refine zac (fun K hK r => ?_)
       simp only [zan, eX, ↓reduceIte, Nat.reduceEqDiff, Int.reduceToNat]
       first | refine zaN Try.underlying38 rfl sz38 hbA bdA ?_ | refine zaC Try.underlying38 rfl sz38 hbA bdA ?_
       try simp only [List.extract_toArray, List.extract_eq_take_drop, Nat.zero_add, Nat.reduceAdd, Nat.reduceSub, Nat.sub_zero, List.drop_succ_cons, List.drop_zero, List.take_succ_cons, List.take_zero, List.take_nil, List.drop_nil]
       try simp only [eX, ↓reduceIte, Nat.reduceEqDiff, Int.reduceToNat]
       refine hK _ _ ?_; clear hK K
       refine zbq rfl (zaJ) (fun K hK r => ?_)
       simp only [zaL, eX, ↓reduceIte, Nat.reduceEqDiff, Int.reduceToNat]
       first | refine zaz sz38 bdA hbA bdA plA (by decide) ?_ | refine zaI sz38 bdA hbA bdA plA (by decide) ?_
       try simp only [eX, ↓reduceIte, Nat.reduceEqDiff, Int.reduceToNat]
       refine hK _ _ ?_; clear hK K
       refine zao rfl ?_
       refine zae ?_
       try simp only [Ex.thnH, Ex.inBlockH, ↓reduceIte, Nat.reduceEqDiff]
       refine hK10 _ _ ?_; try clear hK10 K10
       refine zaR ?_
       try simp only [Ex.thnH, Ex.inBlockH, ↓reduceIte, Nat.reduceEqDiff]
       refine ⟨[_, _], ⟨⟨_, rfl, zbd Try.underlying38 rfl sz38 hbA bdA⟩, rfl, trivial⟩, H, lhA, ?_, rfl⟩
       unfold RSt.step
       first | (simp_all; done) | (simp_all; rfl) | (split <;> first | (simp_all; done) | (simp_all; rfl))
     ·first
      |(exfalso; exact cnA c11; done)
      |skip
       (try simp only [decide_eq_true_eq, decide_eq_false_iff_not, Bool.not_eq_true, Bool.not_eq_false, Bool.and_eq_true, Bool.or_eq_true, Bool.or_eq_false_iff, Bool.not_eq_eq_eq_not, Bool.not_true, Bool.not_false] at c11)
       refine zaO ?_
       try simp only [Ex.thnH, Ex.inBlockH, ↓reduceIte, Nat.reduceEqDiff]
       refine hK7 _ _ ?_; try clear hK7 K7
       refine zaa ?_
       refine zac (fun K hK r => ?_)
       simp only [zah, fa38_2, zap, Nat.reduceAdd, Nat.zero_add, eX, ↓reduceIte, Nat.reduceEqDiff, Int.reduceToNat]
       refine hK _ _ ?_; clear hK K
       refine zac (fun K hK r => ?_)
       simp only [zan, eX, ↓reduceIte, Nat.reduceEqDiff, Int.reduceToNat]
       refine zak Try.underlying3 rfl hbA ldA ?_
       try simp only [eX, ↓reduceIte, Nat.reduceEqDiff, Int.reduceToNat]
       refine hK _ _ ?_; clear hK K
       refine zac (fun K hK r => ?_)
       simp (disch := (first | omega | decide)) only [zaF, zaH, b_sub, zaw, zaE, zaD, zaQ, eX, ↓reduceIte, Nat.reduceEqDiff, Int.reduceToNat]
       refine hK _ _ ?_; clear hK K
       refine zac (fun K hK r => ?_)
       simp only [zah, fa38_2, zap, Nat.reduceAdd, Nat.zero_add, eX, ↓reduceIte, Nat.reduceEqDiff, Int.reduceToNat]
       refine hK _ _ ?_; clear hK K
       refine zbq rfl (zaJ) (fun K hK r => ?_)
       simp only [zaL, eX, ↓reduceIte, Nat.reduceEqDiff, Int.reduceToNat]
       refine zaY sz3 hbA bdA plA fzA ?_
       try simp only [setL0, setL1, setL2, setL3, setL4, setL5, setL6, setL7, setL8, setL9]
       try simp only [eX, ↓reduceIte, Nat.reduceEqDiff, Int.reduceToNat]
       refine hK _ _ ?_; clear hK K
       refine zae ?_
       try simp only [Ex.thnH, Ex.inBlockH, ↓reduceIte, Nat.reduceEqDiff]
       refine hK5 _ _ ?_; try clear hK5 K5
       refine zad (fun K11 hK11 => ?_)
       refine zaa ?_
       refine zac (fun K hK r => ?_)
       simp only [zah, fa38_1, zap, Nat.reduceAdd, Nat.zero_add, eX, ↓reduceIte, Nat.reduceEqDiff, Int.reduceToNat]
       refine hK _ _ ?_; clear hK K
       refine zac (fun K hK r => ?_)
       simp only [zan, eX, ↓reduceIte, Nat.reduceEqDiff, Int.reduceToNat]
       refine zak Try.underlying3 rfl hbA ldA ?_
       try simp only [eX, ↓reduceIte, Nat.reduceEqDiff, Int.reduceToNat]
       refine hK _ _ ?_; clear hK K
       refine zac (fun K hK r => ?_)
       simp (disch := (first | omega | decide)) only [zaF, zaH, b_add, zaw, zaE, zaD, zaQ, eX, ↓reduceIte, Nat.reduceEqDiff, Int.reduceToNat]
       refine hK _ _ ?_; clear hK K
       refine zac (fun K hK r => ?_)
       simp only [zah, fa38_1, zap, Nat.reduceAdd, Nat.zero_add, eX, ↓reduceIte, Nat.reduceEqDiff, Int.reduceToNat]
       refine hK _ _ ?_; clear hK K
       refine zbq rfl (zaJ) (fun K hK r => ?_)
       simp only [zaL, eX, ↓reduceIte, Nat.reduceEqDiff, Int.reduceToNat]
       refine zaY sz3 hbA bdA plA fzA ?_
       try simp only [setL0, setL1, setL2, setL3, setL4, setL5, setL6, setL7, setL8, setL9]
       try simp only [eX, ↓reduceIte, Nat.reduceEqDiff, Int.reduceToNat]
       refine hK _ _ ?_; clear hK K
       refine zae ?_
       try simp only [Ex.thnH, Ex.inBlockH, ↓reduceIte, Nat.reduceEqDiff]
       refine hK11 _ _ ?_; try clear hK11 K11
       refine zad (fun K12 hK12 => ?_)
       refine zaa ?_
       refine zac (fun K hK r => ?_)
       simp only [zan, eX, ↓reduceIte, Nat.reduceEqDiff, Int.reduceToNat]
       first | refine zaN Try.underlying38 rfl sz38 hbA bdA ?_ | refine zaC Try.underlying38 rfl sz38 hbA bdA ?_
       try simp only [List.extract_toArray, List.extract_eq_take_drop, Nat.zero_add, Nat.reduceAdd, Nat.reduceSub, Nat.sub_zero, List.drop_succ_cons, List.drop_zero, List.take_succ_cons, List.take_zero, List.take_nil, List.drop_nil]
       try simp only [eX, ↓reduceIte, Nat.reduceEqDiff, Int.reduceToNat]
       refine hK _ _ ?_; clear hK K
       refine zbq rfl (zaJ) (fun K hK r => ?_)
       simp only [zaL, eX, ↓reduceIte, Nat.reduceEqDiff, Int.reduceToNat]
       first | refine zaz sz38 bdA hbA bdA plA (by decide) ?_ | refine zaI sz38 bdA hbA bdA plA (by decide) ?_
       try simp only [eX, ↓reduceIte, Nat.reduceEqDiff, Int.reduceToNat]
       refine hK _ _ ?_; clear hK K
       refine zao rfl ?_
       refine zae ?_
       try simp only [Ex.thnH, Ex.inBlockH, ↓reduceIte, Nat.reduceEqDiff]
       refine hK12 _ _ ?_; try clear hK12 K12
       refine zaR ?_
       try simp only [Ex.thnH, Ex.inBlockH, ↓reduceIte, Nat.reduceEqDiff]
       refine ⟨[_, _], ⟨⟨_, rfl, zbd Try.underlying38 rfl sz38 hbA bdA⟩, rfl, trivial⟩, H, lhA, ?_, rfl⟩
       unfold RSt.step
       first | (simp_all; done) | (simp_all; rfl) | (split <;> first | (simp_all; done) | (simp_all; rfl))
   ·first
    |(exfalso; exact cnA c8; done)
    |skip
     (try simp only [decide_eq_true_eq, decide_eq_false_iff_not, Bool.not_eq_true, Bool.not_eq_false, Bool.and_eq_true, Bool.or_eq_true, Bool.or_eq_false_iff, Bool.not_eq_eq_eq_not, Bool.not_true, Bool.not_false] at c8)
     refine zaO ?_
     try simp only [Ex.thnH, Ex.inBlockH, ↓reduceIte, Nat.reduceEqDiff]
     refine hK5 _ _ ?_; try clear hK5 K5
     refine zad (fun K13 hK13 => ?_)
     refine zaa ?_
     refine zac (fun K hK r => ?_)
     simp only [zah, fa38_1, zap, Nat.reduceAdd, Nat.zero_add, eX, ↓reduceIte, Nat.reduceEqDiff, Int.reduceToNat]
     refine hK _ _ ?_; clear hK K
     refine zac (fun K hK r => ?_)
     simp only [zan, eX, ↓reduceIte, Nat.reduceEqDiff, Int.reduceToNat]
     refine zak Try.underlying3 rfl hbA ldA ?_
     try simp only [eX, ↓reduceIte, Nat.reduceEqDiff, Int.reduceToNat]
     refine hK _ _ ?_; clear hK K
     refine zac (fun K hK r => ?_)
     simp (disch := (first | omega | decide)) only [zaF, zaH, b_add, zaw, zaE, zaD, zaQ, eX, ↓reduceIte, Nat.reduceEqDiff, Int.reduceToNat]
     refine hK _ _ ?_; clear hK K
     refine zac (fun K hK r => ?_)
     simp only [zah, fa38_1, zap, Nat.reduceAdd, Nat.zero_add, eX, ↓reduceIte, Nat.reduceEqDiff, Int.reduceToNat]
     refine hK _ _ ?_; clear hK K
     refine zbq rfl (zaJ) (fun K hK r => ?_)
     simp only [zaL, eX, ↓reduceIte, Nat.reduceEqDiff, Int.reduceToNat]
     refine zaY sz3 hbA bdA plA fzA ?_
     try simp only [setL0, setL1, setL2, setL3, setL4, setL5, setL6, setL7, setL8, setL9]
     try simp only [eX, ↓reduceIte, Nat.reduceEqDiff, Int.reduceToNat]
     refine hK _ _ ?_; clear hK K
     refine zae ?_
     try simp only [Ex.thnH, Ex.inBlockH, ↓reduceIte, Nat.reduceEqDiff]
     refine hK13 _ _ ?_; try clear hK13 K13
     refine zad (fun K14 hK14 => ?_)
     refine zaa ?_
     refine zac (fun K hK r => ?_)
     simp only [zan, eX, ↓reduceIte, Nat.reduceEqDiff, Int.reduceToNat]
     first | refine zaN Try.underlying38 rfl sz38 hbA bdA ?_ | refine zaC Try.underlying38 rfl sz38 hbA bdA ?_
     try simp only [List.extract_toArray, List.extract_eq_take_drop, Nat.zero_add, Nat.reduceAdd, Nat.reduceSub, Nat.sub_zero, List.drop_succ_cons, List.drop_zero, List.take_succ_cons, List.take_zero, List.take_nil, List.drop_nil]
     try simp only [eX, ↓reduceIte, Nat.reduceEqDiff, Int.reduceToNat]
     refine hK _ _ ?_; clear hK K
     refine zbq rfl (zaJ) (fun K hK r => ?_)
     simp only [zaL, eX, ↓reduceIte, Nat.reduceEqDiff, Int.reduceToNat]
     first | refine zaz sz38 bdA hbA bdA plA (by decide) ?_ | refine zaI sz38 bdA hbA bdA plA (by decide) ?_
     try simp only [eX, ↓reduceIte, Nat.reduceEqDiff, Int.reduceToNat]
     refine hK _ _ ?_; clear hK K
     refine zao rfl ?_
     refine zae ?_
     try simp only [Ex.thnH, Ex.inBlockH, ↓reduceIte, Nat.reduceEqDiff]
     refine hK14 _ _ ?_; try clear hK14 K14
     refine zaR ?_
     try simp only [Ex.thnH, Ex.inBlockH, ↓reduceIte, Nat.reduceEqDiff]
     refine ⟨[_, _], ⟨⟨_, rfl, zbd Try.underlying38 rfl sz38 hbA bdA⟩, rfl, trivial⟩, H, lhA, ?_, rfl⟩
     unfold RSt.step
     first | (simp_all; done) | (simp_all; rfl) | (split <;> first | (simp_all; done) | (simp_all; rfl))
end Go.Proofs.Ytcjdkfhmlnfedaa.HL
end
section
namespace Go.Proofs.Ytcjdkfhmlnfedaa.HL
open Go Go.Proofs
set_option linter.unusedSimpArgs false
set_option linter.unusedVariables false
attribute [local irreducible] Lt Lq CW OW TW CallH
theorem flat_set {α : Type} {f : α → List Value} {wd : Nat} (hw : ∀ a, (f a).length = wd) : ∀ (X : List α) (i : Nat) (y : α), i < X.length → (X.set i y).flatMap f = (X.flatMap f).take (i * wd) ++ f y ++ (X.flatMap f).drop (i * wd + wd)
  | [], i, y, h => absurd h (by simp)
  | x :: r, 0, y, _ => by
    simp only [List.set_cons_zero, List.flatMap_cons, Nat.zero_mul, List.take_zero, List.nil_append, Nat.zero_add]
    rw [List.drop_append_of_le_length (by rw [hw]; exact Nat.le_refl _), List.drop_eq_nil_of_le (by rw [hw]; exact Nat.le_refl _), List.nil_append]
  | x :: r, i + 1, y, h => by
    simp only [List.set_cons_succ, List.flatMap_cons]
    rw [flat_set hw r i y (by simpa using h)]
    have e : (i + 1) * wd = wd + i * wd := by rw [Nat.succ_mul]; omega
    have e1 : ((i + 1) * wd) - (f x).length = i * wd := by rw [hw, e]; omega
    have e2 : ((i + 1) * wd + wd) - (f x).length = i * wd + wd := by rw [hw, e]; omega
    have t1 : List.take ((i + 1) * wd) (f x) = f x := List.take_of_length_le (by rw [hw, e]; omega)
    have t2 : List.drop ((i + 1) * wd + wd) (f x) = [] := List.drop_eq_nil_of_le (by rw [hw, e]; omega)
    rw [List.take_append, List.drop_append, e1, e2, t1, t2]
    simp
theorem OwnS.row {α : Type} {f : α → List Value} {wd : Nat} (hw : ∀ a, (f a).length = wd) {H : Hp} {E : TypeId} {r n cap : Nat} {X : List α} {c : Array Value} (h : OwnS H E wd (.slice (some ⟨r, 0, none⟩) n cap) n (X.flatMap f) (some r)) (hc : H r = some (.cells c E)) (hn : n = X.length) {i : Nat} (hi : i < n) (y : α) : OwnS (H.upd r (.cells (putCells c (i * wd) (f y)) E)) E wd (.slice (some ⟨r, 0, none⟩) n cap) n ((X.set i y).flatMap f) (some r) := by
  obtain ⟨h1, ⟨h2, _, _⟩ | ⟨r', cap', c', h3, h4, h5, h6, h7, h8⟩⟩ := h
  · cases h2
  · cases h3
    rw [hc] at h4; cases h4
    have m1 := Nat.mul_le_mul_right wd (show i + 1 ≤ n by omega)
    have m2 := Nat.mul_le_mul_right wd h5
    rw [Nat.succ_mul] at m1
    have hsz : i * wd + (f y).length ≤ c.size := by rw [hw, h6]; omega
    have hpl := putCells_toList (f y) c (i * wd) hsz
    refine ⟨by rw [flat_size hw, List.length_set, hn], .inr ⟨r, cap, _, rfl, zax _ _ _, h5, ?_, ?_, rfl⟩⟩
    · have hl : (putCells c (i * wd) (f y)).toList.length = c.toList.length := by
        rw [hpl]; simp only [List.length_append, List.length_take, List.length_drop, Array.length_toList]; omega
      rw [Array.length_toList, Array.length_toList] at hl
      rw [hl, h6]
    · rw [flat_set hw X i y (by omega), ← h7]
      simp only [Array.toList_extract, List.extract_eq_take_drop, List.drop_zero, Nat.sub_zero, hpl]
      apply List.ext_getElem?
      intro j
      have hfl := hw y
      simp only [List.getElem?_take, List.getElem?_append, List.getElem?_drop, List.length_take, List.length_append, Array.length_toList]
      have q1 : min (i * wd) c.size = i * wd := by omega
      have q2 : min (i * wd) (min (n * wd) c.size) = i * wd := by omega
      rw [q1, q2, hfl]
      by_cases a1 : j < i * wd
      · have a2 : j < i * wd + wd := by omega
        have a3 : j < n * wd := by omega
        simp [a1, a2, a3]
      · by_cases a2 : j < i * wd + wd
        · have a3 : j < n * wd := by omega
          simp [a1, a2, a3]
        · have e3 : i * wd + wd + (j - (i * wd + wd)) = j := by omega
          simp only [a1, a2, if_false, e3]
set_option maxRecDepth 100000 in
set_option maxHeartbeats 4000000 in
theorem rwith_ok (H : Hp) (a : Option Addr) (cap : Nat) (X : List RDX) (hX : RX H a cap X) (m : RSt) (hl : X.length ≤ 5) (dev : Int) (hin : 0 ≤ dev ∧ dev < X.length) (y : RDX) (hy : y.ok H) : CallH Try.prog 51 #[m.v (.slice a X.length cap), .int .i64 dev, .agg y.c.toArray] H (fun v H' => ∃ a' cap', Le H H' ∧ v = m.v (.slice a' X.length cap') ∧ RX H' a' cap' (X.set dev.toNat y)) := by
 refine zaB (l := [_, _, _]) (rl := [.cell 6 38]) (n := 18) Try.func51 rfl rfl rfl rfl rfl ?_
 simp only [envOf, Nat.reduceAdd]
 refine zad (fun K1 hK1 => ?_)
 refine zaa ?_
 refine zac (fun K hK r => ?_)
 simp only [x_box, Value.cells, eX, ↓reduceIte, Nat.reduceEqDiff, Int.reduceToNat]
 intro b3 hb3
 have f3_H : H b3 = none := zaj lhA hb3
 try simp only [eX, ↓reduceIte, Nat.reduceEqDiff, Int.reduceToNat]
 refine hK _ _ ?_; clear hK K
 refine zac (fun K hK r => ?_)
 simp only [x_box, Value.cells, eX, ↓reduceIte, Nat.reduceEqDiff, Int.reduceToNat]
 intro b5 hb5
 try have n5_b3 : b3 ≠ b5 := zai hbA hb5
 have f5_H : H b5 = none := zaj lhA hb5
 try simp only [eX, ↓reduceIte, Nat.reduceEqDiff, Int.reduceToNat]
 refine hK _ _ ?_; clear hK K
 refine zac (fun K hK r => ?_)
 simp only [x_alloc, zr38, zal, Value.cells, eX, ↓reduceIte, Nat.reduceEqDiff, Int.reduceToNat]
 intro b6 hb6
 try have n6_b3 : b3 ≠ b6 := zai hbA hb6
 try have n6_b5 : b5 ≠ b6 := zai hbA hb6
 have f6_H : H b6 = none := zaj lhA hb6
 try simp only [eX, ↓reduceIte, Nat.reduceEqDiff, Int.reduceToNat]
 refine hK _ _ ?_; clear hK K
 refine zae ?_
 try simp only [Ex.thnH, Ex.inBlockH, ↓reduceIte, Nat.reduceEqDiff]
 refine hK1 _ _ ?_; try clear hK1 K1
 refine zad (fun K2 hK2 => ?_)
 refine zaa ?_
 refine zac (fun K hK r => ?_)
 simp only [zbn, List.map_toArray, List.map_cons, List.map_nil, eX, ↓reduceIte, Nat.reduceEqDiff, Int.reduceToNat]
 refine zbm (vs := []) Try.underlying36 sz87 zr87 rfl bsA (by first | decide | (simp; done)) ?_
 simp only [List.flatMap_cons, List.flatMap_nil, Value.cells, List.append_nil, List.cons_append, List.nil_append, List.length_cons, List.length_nil, Nat.zero_add, Nat.reduceAdd]
 intro b7 hb7
 try have n7_b3 : b3 ≠ b7 := zai hbA hb7
 try have n7_b5 : b5 ≠ b7 := zai hbA hb7
 try have n7_b6 : b6 ≠ b7 := zai hbA hb7
 have f7_H : H b7 = none := zaj lhA hb7
 try simp only [eX, ↓reduceIte, Nat.reduceEqDiff, Int.reduceToNat]
 refine hK _ _ ?_; clear hK K
 refine zac (fun K hK r => ?_)
 simp only [zah, fa38_0, zap, Nat.reduceAdd, Nat.zero_add, eX, ↓reduceIte, Nat.reduceEqDiff, Int.reduceToNat]
 refine hK _ _ ?_; clear hK K
 refine zac (fun K hK r => ?_)
 simp only [zan, eX, ↓reduceIte, Nat.reduceEqDiff, Int.reduceToNat]
 refine zak Try.underlying36 rfl hbA ldA ?_
 try simp only [eX, ↓reduceIte, Nat.reduceEqDiff, Int.reduceToNat]
 refine hK _ _ ?_; clear hK K
 refine zac (fun K hK r => ?_)
 simp only [zaM, l_append, List.map_toArray, List.map_cons, List.map_nil, eX, ↓reduceIte, Nat.reduceEqDiff, Int.reduceToNat]
 refine Lt_appendNew Try.underlying36 sz87 by87 (by decide) zr87 rfl _ (m := X.length) (ds := X.flatMap RDX.c) hbA (hX.h.le lhA) (by
  intro v hv
  rw [List.mem_flatMap] at hv
  obtain ⟨x, _, hv⟩ := hv
  simp at hv
  rcases hv with rfl | rfl <;> rfl) (by omega) ?_
 intro v10 H10 rs10 hg10 ho10 hr10
 have kb3 := hg10.known b3 _ hbA (fun e => n7_b3 (by cases e; rfl))
 have kb5 := hg10.known b5 _ hbA (fun e => n7_b5 (by cases e; rfl))
 have kb6 := hg10.known b6 _ hbA (fun e => n7_b6 (by cases e; rfl))
 have lH10 : Le H H10 := fun x o hx => hg10.known x o (Le.trans lhA (Le.refl _) x o hx) (fun e => by cases e; rw [f7_H] at hx; cases hx)
 obtain ⟨r10, cap10, c10, hv10, hc10, hn10, hs10, _, hr10'⟩ : ∃ r cap c, v10 = .slice (some ⟨r, 0, none⟩) X.length cap ∧ H10 r = some (.cells c 87) ∧ X.length ≤ cap ∧ c.size = cap * 2 ∧ (c.extract 0 (X.length * 2)).toList = X.flatMap RDX.c ∧ rs10 = some r := by
  obtain ⟨_, ⟨_, h0, _⟩ | h⟩ := ho10
  ·omega
  ·exact h
 subst hv10
 subst hr10'
 refine hK _ _ ?_; clear hK K
 refine zac (fun K hK r => ?_)
 simp only [zah, fa38_0, zap, Nat.reduceAdd, Nat.zero_add, eX, ↓reduceIte, Nat.reduceEqDiff, Int.reduceToNat]
 refine hK _ _ ?_; clear hK K
 refine zbq rfl (zaJ) (fun K hK r => ?_)
 simp only [zaL, eX, ↓reduceIte, Nat.reduceEqDiff, Int.reduceToNat]
 refine zaY sz36 hbA bdA plA fzA ?_
 try simp only [setL0, setL1, setL2, setL3, setL4, setL5, setL6, setL7, setL8, setL9]
 try simp only [eX, ↓reduceIte, Nat.reduceEqDiff, Int.reduceToNat]
 refine hK _ _ ?_; clear hK K
 refine zae ?_
 try simp only [Ex.thnH, Ex.inBlockH, ↓reduceIte, Nat.reduceEqDiff]
 refine hK2 _ _ ?_; try clear hK2 K2
 refine zad (fun K3 hK3 => ?_)
 refine zaa ?_
 refine zac (fun K hK r => ?_)
 simp only [zah, fa38_0, zap, Nat.reduceAdd, Nat.zero_add, eX, ↓reduceIte, Nat.reduceEqDiff, Int.reduceToNat]
 refine hK _ _ ?_; clear hK K
 refine zac (fun K hK r => ?_)
 simp only [zan, eX, ↓reduceIte, Nat.reduceEqDiff, Int.reduceToNat]
 refine zak Try.underlying36 rfl hbA ldA ?_
 try simp only [eX, ↓reduceIte, Nat.reduceEqDiff, Int.reduceToNat]
 refine hK _ _ ?_; clear hK K
 refine zam rfl ?_
 refine zac (fun K hK r => ?_)
 simp only [zan, eX, ↓reduceIte, Nat.reduceEqDiff, Int.reduceToNat]
 first | refine zaN Try.underlying87 rfl sz87 hbA bdA ?_ | refine zaC Try.underlying87 rfl sz87 hbA bdA ?_
 try simp only [List.extract_toArray, List.extract_eq_take_drop, Nat.zero_add, Nat.reduceAdd, Nat.reduceSub, Nat.sub_zero, List.drop_succ_cons, List.drop_zero, List.take_succ_cons, List.take_zero, List.take_nil, List.drop_nil]
 try simp only [eX, ↓reduceIte, Nat.reduceEqDiff, Int.reduceToNat]
 refine hK _ _ ?_; clear hK K
 refine zac (fun K hK r => ?_)
 simp only [zaK, eX, ↓reduceIte, Nat.reduceEqDiff, Int.reduceToNat]
 refine zbi Try.underlying36 sz87 rfl ixA ixA ?_
 simp only [Nat.zero_add]
 refine hK _ _ ?_; clear hK K
 refine zbq rfl (zaJ) (fun K hK r => ?_)
 simp only [zaL, eX, ↓reduceIte, Nat.reduceEqDiff, Int.reduceToNat]
 have nr3 : r10 ≠ b3 := fun e => by subst e; rw [kb3] at hc10; injection hc10 with hc10; injection hc10 with _ hc10; revert hc10; decide
 have m1 := Nat.mul_le_mul_right 2 (show dev.toNat + 1 ≤ cap10 by omega)
 refine zaI sz87 (by rfl) ((zaA _ _ nr3).trans hc10) (by rw [hs10]; show dev.toNat * 2 + 2 ≤ _; omega) (PlainL.cons (plain_slice _ _ _) (PlainL.cons (plain_slice _ _ _) PlainL.nil)) (by decide) ?_
 have hrow := OwnS.row RDX.len (ho10.upd (b := b3) (o := (.cells #[.slice (some ⟨r10, 0, none⟩) X.length cap10, .int .i64 m.steps, .int .i64 m.left, .bool m.armed, .bool m.gone] 38)) (fun e => nr3 (by cases e; rfl))) ((zaA _ _ nr3).trans hc10) rfl (i := dev.toNat) (by omega) y
 have nr6 : r10 ≠ b6 := fun e => by subst e; rw [kb6] at hc10; injection hc10 with hc10; injection hc10 with _ hc10; revert hc10; decide
 have hr10n : H r10 = none := (hr10 r10 rfl).elim (fun e => by rw [e]; exact f7_H) (fun e => zaj lhA e)
 refine hK _ _ ?_; clear hK K
 refine zae ?_
 try simp only [Ex.thnH, Ex.inBlockH, ↓reduceIte, Nat.reduceEqDiff]
 refine hK3 _ _ ?_; try clear hK3 K3
 refine zad (fun K4 hK4 => ?_)
 refine zaa ?_
 refine zac (fun K hK r => ?_)
 simp only [zan, eX, ↓reduceIte, Nat.reduceEqDiff, Int.reduceToNat]
 first | refine zaN Try.underlying38 rfl sz38 hbA bdA ?_ | refine zaC Try.underlying38 rfl sz38 hbA bdA ?_
 try simp only [List.extract_toArray, List.extract_eq_take_drop, Nat.zero_add, Nat.reduceAdd, Nat.reduceSub, Nat.sub_zero, List.drop_succ_cons, List.drop_zero, List.take_succ_cons, List.take_zero, List.take_nil, List.drop_nil]
 try simp only [eX, ↓reduceIte, Nat.reduceEqDiff, Int.reduceToNat]
 refine hK _ _ ?_; clear hK K
 refine zbq rfl (zaJ) (fun K hK r => ?_)
 simp only [zaL, eX, ↓reduceIte, Nat.reduceEqDiff, Int.reduceToNat]
 first | refine zaz sz38 bdA hbA bdA plA (by decide) ?_ | refine zaI sz38 bdA hbA bdA plA (by decide) ?_
 try simp only [eX, ↓reduceIte, Nat.reduceEqDiff, Int.reduceToNat]
 refine hK _ _ ?_; clear hK K
 refine zae ?_
 try simp only [Ex.thnH, Ex.inBlockH, ↓reduceIte, Nat.reduceEqDiff]
 refine hK4 _ _ ?_; try clear hK4 K4
 refine zaR ?_
 try simp only [Ex.thnH, Ex.inBlockH, ↓reduceIte, Nat.reduceEqDiff]
 refine ⟨[_], ⟨⟨_, rfl, zbd Try.underlying38 rfl sz38 hbA bdA⟩, trivial⟩, _, Le.refl _, _, _, ?_, rfl, ?_⟩
 ·exact zaP (zaP (zaP lH10 f3_H) hr10n) f6_H
 ·have hlast := zaP (o := (.cells #[.slice (some ⟨r10, 0, none⟩) X.length cap10, .int .i64 m.steps, .int .i64 m.left, .bool m.armed, .bool m.gone] 38)) (zaP (o := (.cells (putCells c10 (dev.toNat * 2) y.c) 87)) (zaP (o := (.cells #[.slice (some ⟨r10, 0, none⟩) X.length cap10, .int .i64 m.steps, .int .i64 m.left, .bool m.armed, .bool m.gone] 38)) lH10 f3_H) hr10n) f6_H
  refine ⟨?_, fun x hx => ?_⟩
  ·rw [List.length_set]
   exact (hrow.upd (fun e => nr6 (by cases e; rfl))).holds
  ·rcases List.mem_or_eq_of_mem_set hx with h1 | h1
   ·exact (hX.ok x h1).le hlast
   ·subst h1; exact hy.le hlast
end Go.Proofs.Ytcjdkfhmlnfedaa.HL
end
