/- Parts of the proof, one behind the other: U14, U10, U11, U15, U16, U18. -/
import Derived.Test.YtjhohnbdhopllaaX2
set_option linter.unusedSimpArgs false
set_option linter.unusedVariables false
section
namespace Go.Proofs.Ytjhohnbdhopllaa.HL
open Go Go.Proofs
set_option linter.unusedSimpArgs false
set_option linter.unusedVariables false
attribute [local irreducible] Lt Lq CW OW TW CallH
theorem shr1x (z : Int) : z.fdiv (2 ^ (min 1 IntKind.u64.bits)) = z / 2 := by
  have : (2 : Int) ^ (min 1 IntKind.u64.bits) = 2 := by decide
  rw [this, Int.fdiv_eq_ediv_of_nonneg _ (by omega)]
set_option maxRecDepth 100000 in
set_option maxHeartbeats 4000000 in
theorem bsfEP (H : Hp) (a : Option Addr) (cap n : Nat) (cs : List Value) (hv : Holds H 2 (.slice a n cap) n cs) (hn : n ≤ 1000000) (hn0 : 0 < n) (t : En) (gf : Fn) (ga gb : Array Value) (c : Nat → Int) (pp : Nat) (hp : pp ≤ n) (h1 : ∀ k, k < pp → c k < 0) (h2 : ∀ k, pp ≤ k → k < n → ¬ c k < 0) (hP : ∀ i, i < n → ∀ K, ValH Try.prog (.func gf ga gb) #[.agg (rowAt cs 2 i), .agg #[.int .i64 t.v, .int .i64 t.k]] K (fun v K' => v = .int .i64 (c i) ∧ K' = K)) : CallH Try.prog 48 #[.slice a n cap, .agg #[.int .i64 t.v, .int .i64 t.k], .func gf ga gb] H (fun v H' => v = .tuple #[.int .i64 pp, .bool (decide (pp < n ∧ c pp = 0))] ∧ H' = H) := by
 refine zaB (l := [_, _, _]) (rl := [.tmp 6, .tmp 7]) (n := 49) Try.func48 rfl rfl rfl rfl rfl ?_
 simp only [envOf, Nat.reduceAdd]
 have hcl := hv.1
 obtain ⟨bw, ow, qw, Tw, Fw, rfl, hbw, hsw, atw⟩ := hv.at (by omega)
 refine zad (fun K1 hK1 => ?_)
 refine zab ?_
 refine zac (fun K hK r => ?_)
 simp only [x_box, Value.cells, eX, ↓reduceIte, Nat.reduceEqDiff, Int.reduceToNat]
 intro b4 hb4
 have f4_H : H b4 = none := zaj lhA hb4
 try simp only [eX, ↓reduceIte, Nat.reduceEqDiff, Int.reduceToNat]
 refine hK _ _ ?_; clear hK K
 refine zao rfl ?_
 refine zao rfl ?_
 refine zae ?_
 try simp only [Ex.thnH, Ex.inBlockH, ↓reduceIte, Nat.reduceEqDiff]
 refine hK1 _ _ ?_; try clear hK1 K1
 refine zad (fun K2 hK2 => ?_)
 refine zab ?_
 refine zag rfl ?_
 refine zac (fun K hK r => ?_)
 simp only [zaC, l_len, List.map_toArray, List.map_cons, List.map_nil, zaF _ _ Try.underlying33, eX, ↓reduceIte, Nat.reduceEqDiff, Int.reduceToNat]
 refine hK _ _ ?_; clear hK K
 refine zao rfl ?_
 refine zae ?_
 try simp only [Ex.thnH, Ex.inBlockH, ↓reduceIte, Nat.reduceEqDiff]
 refine hK2 _ _ ?_; try clear hK2 K2
 refine zad (fun K3 hK3 => ?_)
 refine zab ?_
 refine zag rfl ?_
 refine zao rfl ?_
 refine zao rfl ?_
 refine zae ?_
 try simp only [Ex.thnH, Ex.inBlockH, ↓reduceIte, Nat.reduceEqDiff]
 refine hK3 _ _ ?_; try clear hK3 K3
 refine zad (fun K4 hK4 => ?_)
 refine zaP ?_
 refine CW_loop (fun m e H_ => ∃ i j : Nat, i ≤ pp ∧ pp ≤ j ∧ j ≤ n ∧ m = j - i ∧ H_ = H.upd b4 (.cells #[.int .i64 t.v, .int .i64 t.k] 38) ∧ Env.has [(0, .slice (some ⟨bw, ow, none⟩) n cap), (2, .func gf ga gb), (4, .pointer (some ⟨b4, 0, none⟩)), (8, .int .i64 n), (9, .int .i64 i), (10, .int .i64 j)] e) (n) ?_ ?_
 ·skip
  exact ⟨0, n, by omega, hp, Nat.le_refl _, by omega, rfl, rfl, rfl, rfl, rfl, rfl, rfl, trivial⟩
 intro m_ e_ H_ hI_
 obtain ⟨i_, j_, hi1, hi2, hi3, rfl, hH_, he⟩ := hI_
 have hH_ := hH_.symm; subst hH_
 refine CW_env he.sub ?_; clear he e_
 refine zad (fun K5 hK5 => ?_)
 refine zad (fun K6 hK6 => ?_)
 refine zab ?_
 refine zag rfl ?_
 refine zag rfl ?_
 refine zac (fun K hK r => ?_)
 simp (disch := (first | omega | decide)) only [zaI, zaM, b_lss, zau, zaw, zat, zax, zas, zay, Bool.not_true, Bool.not_false, eX, ↓reduceIte, Nat.reduceEqDiff, Int.reduceToNat]
 refine hK _ _ ?_; clear hK K
 refine zae ?_
 try simp only [Ex.thnH, Ex.inBlockH, ↓reduceIte, Nat.reduceEqDiff]
 refine hK6 _ _ ?_; try clear hK6 K6
 refine zaH (fun r => rfl) (fun c17 => ?_) (fun c17 => ?_)
 ·first
  |(exfalso; exact cnA c17; done)
  |skip
   (try simp only [decide_eq_true_eq, decide_eq_false_iff_not, Bool.not_eq_true, Bool.not_eq_false, Bool.and_eq_true, Bool.or_eq_true, Bool.or_eq_false_iff, Bool.not_eq_eq_eq_not, Bool.not_true, Bool.not_false] at c17)
   refine zaL ?_
   try simp only [Ex.thnH, Ex.inBlockH, ↓reduceIte, Nat.reduceEqDiff]
   refine hK5 _ _ ?_; try clear hK5 K5
   refine zaP ?_
   refine zad (fun K7 hK7 => ?_)
   refine zab ?_
   refine zag rfl ?_
   refine zag rfl ?_
   refine zac (fun K hK r => ?_)
   simp (disch := (first | omega | decide)) only [zaI, zaM, b_add, zaG, zaK, zaJ, zaR, eX, ↓reduceIte, Nat.reduceEqDiff, Int.reduceToNat]
   refine hK _ _ ?_; clear hK K
   refine zac (fun K hK r => ?_)
   simp (disch := (first | omega | decide)) only [x_convert, c_int _ _ _ _ Try.underlying3 Try.underlying139, zaG, zaK, zaJ, zaR, eX, ↓reduceIte, Nat.reduceEqDiff, Int.reduceToNat]
   refine hK _ _ ?_; clear hK K
   refine zac (fun K hK r => ?_)
   simp (disch := (first | omega | decide)) only [zaI, zaM, b_shr, zaG, zaK, zaJ, zaR, eX, ↓reduceIte, Nat.reduceEqDiff, Int.reduceToNat]
   obtain ⟨h_, hhd⟩ : ∃ h_ : Nat, h_ = (i_ + j_) / 2 := ⟨_, rfl⟩
   rw [shr1x, show ((i_ : Int) + j_) / 2 = (h_ : Int) from by omega]
   refine hK _ _ ?_; clear hK K
   refine zac (fun K hK r => ?_)
   simp (disch := (first | omega | decide)) only [x_convert, c_int _ _ _ _ Try.underlying139 Try.underlying3, zaG, zaK, zaJ, zaR, eX, ↓reduceIte, Nat.reduceEqDiff, Int.reduceToNat]
   refine hK _ _ ?_; clear hK K
   refine zao rfl ?_
   refine zae ?_
   try simp only [Ex.thnH, Ex.inBlockH, ↓reduceIte, Nat.reduceEqDiff]
   refine hK7 _ _ ?_; try clear hK7 K7
   refine zad (fun K8 hK8 => ?_)
   obtain ⟨R5, hR5⟩ : ∃ R : Hp, R = H.upd b4 (.cells #[.int .i64 t.v, .int .i64 t.k] 38) := ⟨_, rfl⟩
   refine CW_drawR [0, 0, 0, 0, 1, 1, 3, 0] [0, 1, 2, 3, 4, 5, 6, 7] R5 (by kernel_rfl) (by kernel_rfl) (by subst hR5; exact Le.refl _) (fun lR5 => ?_)
   apply zaf rfl (zaa (by decide)) rfl
   ·intro r
    simp only [zaq, eX, ↓reduceIte, Nat.reduceEqDiff]
    exact ⟨rfl, Le.refl _⟩
   simp only [eX, ↓reduceIte, Nat.reduceEqDiff, Int.reduceToNat]
   apply zaf rfl (zaa (by decide)) rfl
   ·intro r
    simp only [zaq, eX, ↓reduceIte, Nat.reduceEqDiff]
    exact ⟨rfl, Le.refl _⟩
   simp only [eX, ↓reduceIte, Nat.reduceEqDiff, Int.reduceToNat]
   apply zaf rfl (zaa (by decide)) rfl
   ·intro r
    simp only [zaq, eX, ↓reduceIte, Nat.reduceEqDiff]
    exact ⟨rfl, Le.refl _⟩
   simp only [eX, ↓reduceIte, Nat.reduceEqDiff, Int.reduceToNat]
   apply zaf rfl (zaa (by decide)) rfl
   ·intro r
    simp only [zav, eX, ↓reduceIte, Nat.reduceEqDiff]
    refine Lt_indexS Try.underlying33 sz38 ixA ixA ?_
    try simp only [zaA, Nat.mul_one, Nat.zero_add, Int.reduceToNat]
    exact ⟨rfl, Le.refl _⟩
   simp only [eX, ↓reduceIte, Nat.reduceEqDiff, Int.reduceToNat]
   apply zaW rfl (zaa (by decide)) rfl
   ·intro r
    simp only [zar, eX, ↓reduceIte, Nat.reduceEqDiff]
    refine zaS Try.underlying38 rfl sz38 (by rw [hR5]; exact (zaE _ _ (zaz hbw hb4)).trans hbw) (by simp only [Int.toNat_natCast]; omega) ?_
    simp only [Int.toNat_natCast]
    rw [ext_row atw hsw hcl (show h_ < n by omega)]
    exact ⟨rfl, Le.refl _⟩
   simp only [eX, ↓reduceIte, Nat.reduceEqDiff, Int.reduceToNat]
   apply zaW rfl (zaa (by decide)) rfl
   ·intro r
    simp only [zar, eX, ↓reduceIte, Nat.reduceEqDiff]
    refine Lt_loadAll Try.underlying38 rfl sz38 (by rw [hR5]; exact zap _ _ _) (by rfl) ?_
    exact ⟨rfl, Le.refl _⟩
   simp only [eX, ↓reduceIte, Nat.reduceEqDiff, Int.reduceToNat]
   refine TW_last rfl (zaa (by decide)) rfl (fun K hK r => ?_)
   simp only [x_call, List.map_toArray, List.map_cons, List.map_nil, eX, ↓reduceIte, Nat.reduceEqDiff, Int.reduceToNat]
   show ValH _ _ _ _ _
   refine (hP h_ (by omega) _).mono ?_
   rintro v30 H' ⟨rfl, hq⟩
   have hq := hq.symm
   subst hq
   try simp only [eX, ↓reduceIte, Nat.reduceEqDiff, Int.reduceToNat]
   refine hK _ _ ?_; clear hK K
   apply zaf rfl (zaa (by decide)) rfl
   ·intro r
    simp (disch := (first | omega | decide)) only [zaI, zaM, b_lss, zau, zaw, zat, zax, zas, zay, Bool.not_true, Bool.not_false, eX, ↓reduceIte, Nat.reduceEqDiff]
    exact ⟨rfl, Le.refl _⟩
   simp only [eX, ↓reduceIte, Nat.reduceEqDiff, Int.reduceToNat]
   refine TW_nil ?_
   try simp only [Ex.thnH, Ex.inBlockH, ↓reduceIte, Nat.reduceEqDiff]
   refine hK8 _ _ ?_; try clear hK8 K8
   refine zaH (fun r => rfl) (fun c31 => ?_) (fun c31 => ?_)
   ·first
    |(exfalso; exact cnA c31; done)
    |skip
     (try simp only [decide_eq_true_eq, decide_eq_false_iff_not, Bool.not_eq_true, Bool.not_eq_false, Bool.and_eq_true, Bool.or_eq_true, Bool.or_eq_false_iff, Bool.not_eq_eq_eq_not, Bool.not_true, Bool.not_false] at c31)
     refine zab ?_
     refine zag rfl ?_
     refine zac (fun K hK r => ?_)
     simp (disch := (first | omega | decide)) only [zaI, zaM, b_add, zaG, zaK, zaJ, zaR, eX, ↓reduceIte, Nat.reduceEqDiff, Int.reduceToNat]
     refine hK _ _ ?_; clear hK K
     refine zao rfl ?_
     refine zae ?_
     try simp only [Ex.thnH, Ex.inBlockH, ↓reduceIte, Nat.reduceEqDiff]
     have hph : ¬ (pp ≤ h_ ∧ c h_ < 0) := fun hh => h2 h_ hh.1 (by omega) hh.2
     have hph2 : ¬ (h_ < pp ∧ ¬ c h_ < 0) := fun hh => hh.2 (h1 h_ hh.1)
     first
     |exact ⟨j_ - (h_ + 1), by omega, h_ + 1, j_, by omega, by omega, by omega, rfl, rfA, rfl, rfl, rfl, rfl, by first | rfl | (show some (Value.int _ _) = some (Value.int _ _); congr 2), rfl, trivial⟩
     |exact ⟨h_ - i_, by omega, i_, h_, by omega, by omega, by omega, rfl, rfA, rfl, rfl, rfl, rfl, rfl, rfl, trivial⟩
   ·first
    |(exfalso; exact cnA c31; done)
    |skip
     (try simp only [decide_eq_true_eq, decide_eq_false_iff_not, Bool.not_eq_true, Bool.not_eq_false, Bool.and_eq_true, Bool.or_eq_true, Bool.or_eq_false_iff, Bool.not_eq_eq_eq_not, Bool.not_true, Bool.not_false] at c31)
     refine zab ?_
     refine zag rfl ?_
     refine zao rfl ?_
     refine zae ?_
     try simp only [Ex.thnH, Ex.inBlockH, ↓reduceIte, Nat.reduceEqDiff]
     have hph : ¬ (pp ≤ h_ ∧ c h_ < 0) := fun hh => h2 h_ hh.1 (by omega) hh.2
     have hph2 : ¬ (h_ < pp ∧ ¬ c h_ < 0) := fun hh => hh.2 (h1 h_ hh.1)
     first
     |exact ⟨j_ - (h_ + 1), by omega, h_ + 1, j_, by omega, by omega, by omega, rfl, rfA, rfl, rfl, rfl, rfl, by first | rfl | (show some (Value.int _ _) = some (Value.int _ _); congr 2), rfl, trivial⟩
     |exact ⟨h_ - i_, by omega, i_, h_, by omega, by omega, by omega, rfl, rfA, rfl, rfl, rfl, rfl, rfl, rfl, trivial⟩
 ·first
  |(exfalso; exact cnA c17; done)
  |skip
   (try simp only [decide_eq_true_eq, decide_eq_false_iff_not, Bool.not_eq_true, Bool.not_eq_false, Bool.and_eq_true, Bool.or_eq_true, Bool.or_eq_false_iff, Bool.not_eq_eq_eq_not, Bool.not_true, Bool.not_false] at c17)
   obtain rfl : i_ = pp := by omega
   refine CW_exit ?_
   try simp only [Ex.thnH, Ex.inBlockH, ↓reduceIte, Nat.reduceEqDiff]
   refine hK4 _ _ ?_; try clear hK4 K4
   refine zad (fun K9 hK9 => ?_)
   obtain ⟨R8, hR8⟩ : ∃ R : Hp, R = H.upd b4 (.cells #[.int .i64 t.v, .int .i64 t.k] 38) := ⟨_, rfl⟩
   refine CW_drawR [0, 0, 0, 0, 0, 0, 0, 0, 0, 1, 1, 2, 0, 0, 0, 0] [0, 1, 2, 3, 4, 5, 6, 7, 8, 9, 10, 11, 12, 13, 14, 15] R8 (by kernel_rfl) (by kernel_rfl) (by subst hR8; exact Le.refl _) (fun lR8 => ?_)
   apply zaf rfl (zaa (by decide)) rfl
   ·intro r
    simp only [zaq, eX, ↓reduceIte, Nat.reduceEqDiff]
    exact ⟨rfl, Le.refl _⟩
   simp only [eX, ↓reduceIte, Nat.reduceEqDiff, Int.reduceToNat]
   apply zaf rfl (zaa (by decide)) rfl
   ·intro r
    simp only [zaq, eX, ↓reduceIte, Nat.reduceEqDiff]
    exact ⟨rfl, Le.refl _⟩
   simp only [eX, ↓reduceIte, Nat.reduceEqDiff, Int.reduceToNat]
   apply zaf rfl (zaa (by decide)) rfl
   ·intro r
    simp only [zaq, eX, ↓reduceIte, Nat.reduceEqDiff]
    exact ⟨rfl, Le.refl _⟩
   simp only [eX, ↓reduceIte, Nat.reduceEqDiff, Int.reduceToNat]
   apply zaf rfl (zaa (by decide)) rfl
   ·intro r
    simp (disch := (first | omega | decide)) only [zaI, zaM, b_lss, zau, zaw, zat, zax, zas, zay, Bool.not_true, Bool.not_false, eX, ↓reduceIte, Nat.reduceEqDiff]
    exact ⟨rfl, Le.refl _⟩
   simp only [eX, ↓reduceIte, Nat.reduceEqDiff, Int.reduceToNat]
   apply zaf rfl (zaa (by decide)) rfl
   ·intro r
    simp only [zaq, eX, ↓reduceIte, Nat.reduceEqDiff]
    exact ⟨rfl, Le.refl _⟩
   simp only [eX, ↓reduceIte, Nat.reduceEqDiff, Int.reduceToNat]
   (first | refine TW_split (d := 39) rfl (fun g39 => ?_) (fun g39 => ?_) | skip)
   all_goals try (exfalso; exact cnA g39)
   all_goals (try simp only [decide_eq_true_eq, decide_eq_false_iff_not, Bool.not_eq_true, Bool.not_eq_false, Bool.and_eq_true, Bool.or_eq_true, Bool.or_eq_false_iff, Bool.not_eq_eq_eq_not, Bool.not_true, Bool.not_false] at g39)
   all_goals
    try simp only [eX, ↓reduceIte, Nat.reduceEqDiff, Int.reduceToNat]
    first
    |apply TW_pureG rfl (zaa (by decide)) rfl rfl
     ·intro r
      simp only [zaq, eX, ↓reduceIte, Nat.reduceEqDiff]
      exact ⟨rfl, Le.refl _⟩
     simp only [eX, ↓reduceIte, Nat.reduceEqDiff, Int.reduceToNat]
    |refine zaX rfl (zaa (by decide)) rfl ?_
     simp only [eX, ↓reduceIte, Nat.reduceEqDiff, Int.reduceToNat]
    first
    |apply TW_pureG rfl (zaa (by decide)) rfl rfl
     ·intro r
      simp only [zaq, eX, ↓reduceIte, Nat.reduceEqDiff]
      exact ⟨rfl, Le.refl _⟩
     simp only [eX, ↓reduceIte, Nat.reduceEqDiff, Int.reduceToNat]
    |refine zaX rfl (zaa (by decide)) rfl ?_
     simp only [eX, ↓reduceIte, Nat.reduceEqDiff, Int.reduceToNat]
    first
    |apply TW_pureG rfl (zaa (by decide)) rfl rfl
     ·intro r
      simp only [zaq, eX, ↓reduceIte, Nat.reduceEqDiff]
      exact ⟨rfl, Le.refl _⟩
     simp only [eX, ↓reduceIte, Nat.reduceEqDiff, Int.reduceToNat]
    |refine zaX rfl (zaa (by decide)) rfl ?_
     simp only [eX, ↓reduceIte, Nat.reduceEqDiff, Int.reduceToNat]
    first
    |apply TW_pureG rfl (zaa (by decide)) rfl rfl
     ·intro r
      simp only [zav, eX, ↓reduceIte, Nat.reduceEqDiff]
      refine Lt_indexS Try.underlying33 sz38 ixA ixA ?_
      try simp only [zaA, Nat.mul_one, Nat.zero_add, Int.reduceToNat]
      exact ⟨rfl, Le.refl _⟩
     simp only [eX, ↓reduceIte, Nat.reduceEqDiff, Int.reduceToNat]
    |refine zaX rfl (zaa (by decide)) rfl ?_
     simp only [eX, ↓reduceIte, Nat.reduceEqDiff, Int.reduceToNat]
    first
    |apply TW_lookG rfl (zaa (by decide)) rfl rfl
     ·intro r
      simp only [zar, eX, ↓reduceIte, Nat.reduceEqDiff]
      refine zaS Try.underlying38 rfl sz38 (by rw [hR8]; exact (zaE _ _ (zaz hbw hb4)).trans hbw) (by simp only [Int.toNat_natCast]; omega) ?_
      simp only [Int.toNat_natCast]
      rw [ext_row atw hsw hcl (show i_ < n by omega)]
      exact ⟨rfl, Le.refl _⟩
     simp only [eX, ↓reduceIte, Nat.reduceEqDiff, Int.reduceToNat]
    |refine zaX rfl (zaa (by decide)) rfl ?_
     simp only [eX, ↓reduceIte, Nat.reduceEqDiff, Int.reduceToNat]
    first
    |apply TW_lookG rfl (zaa (by decide)) rfl rfl
     ·intro r
      simp only [zar, eX, ↓reduceIte, Nat.reduceEqDiff]
      refine Lt_loadAll Try.underlying38 rfl sz38 (by rw [hR8]; exact zap _ _ _) (by rfl) ?_
      exact ⟨rfl, Le.refl _⟩
     simp only [eX, ↓reduceIte, Nat.reduceEqDiff, Int.reduceToNat]
    |refine zaX rfl (zaa (by decide)) rfl ?_
     simp only [eX, ↓reduceIte, Nat.reduceEqDiff, Int.reduceToNat]
    first
    |refine TW_chainG rfl (zaa (by decide)) rfl rfl (fun K hK r => ?_)
     simp only [x_call, List.map_toArray, List.map_cons, List.map_nil, eX, ↓reduceIte, Nat.reduceEqDiff, Int.reduceToNat]
     show ValH _ _ _ _ _
     refine (hP i_ (by omega) _).mono ?_
     rintro v46 H' ⟨rfl, hq⟩
     have hq := hq.symm
     subst hq
     try simp only [eX, ↓reduceIte, Nat.reduceEqDiff, Int.reduceToNat]
     refine hK _ _ leA ?_; clear hK K
    |refine zaX rfl (zaa (by decide)) rfl ?_
     simp only [eX, ↓reduceIte, Nat.reduceEqDiff, Int.reduceToNat]
    first
    |apply TW_pureG rfl (zaa (by decide)) rfl rfl
     ·intro r
      simp (disch := (first | omega | decide)) only [zaI, zaM, b_eql, zau, zaw, zat, zax, zas, zay, Bool.not_true, Bool.not_false, eX, ↓reduceIte, Nat.reduceEqDiff]
      exact ⟨rfl, Le.refl _⟩
     simp only [eX, ↓reduceIte, Nat.reduceEqDiff, Int.reduceToNat]
    |refine zaX rfl (zaa (by decide)) rfl ?_
     simp only [eX, ↓reduceIte, Nat.reduceEqDiff, Int.reduceToNat]
    apply zaf rfl (zaa (by decide)) rfl
    ·intro r
     simp only [x_pick, l_asBool, HL.ite_bool, if_true, if_false, Bool.false_eq_true, eX, ↓reduceIte, Nat.reduceEqDiff]
     exact ⟨rfl, Le.refl _⟩
    simp only [eX, ↓reduceIte, Nat.reduceEqDiff, Int.reduceToNat]
    apply zaf rfl (zaa (by decide)) rfl
    ·intro r
     simp only [x_assign, eX, ↓reduceIte, Nat.reduceEqDiff]
     exact ⟨rfl, Le.refl _⟩
    simp only [eX, ↓reduceIte, Nat.reduceEqDiff, Int.reduceToNat]
    apply zaf rfl (zaa (by decide)) rfl
    ·intro r
     simp only [x_assign, eX, ↓reduceIte, Nat.reduceEqDiff]
     exact ⟨rfl, Le.refl _⟩
    simp only [eX, ↓reduceIte, Nat.reduceEqDiff, Int.reduceToNat]
    refine TW_nil ?_
    try simp only [Ex.thnH, Ex.inBlockH, ↓reduceIte, Nat.reduceEqDiff]
    refine hK9 _ _ ?_; try clear hK9 K9
    refine zaV ?_
    try simp only [Ex.thnH, Ex.inBlockH, ↓reduceIte, Nat.reduceEqDiff]
    refine ⟨[_, _], ⟨rfl, rfl, trivial⟩, H, lhA, ?_, rfl⟩
    show Value.tuple #[_, Value.bool _] = Value.tuple #[_, Value.bool _]
    congr 5
    first
    |(symm; rw [decide_eq_false_iff_not]; omega)
    |exact decide_eq_decide.2 ⟨fun h => ⟨by omega, h⟩, fun h => h.2⟩
    |(symm; rw [decide_eq_false_iff_not]; rintro ⟨hh, _⟩; simp_all; done)
set_option maxRecDepth 100000 in
set_option maxHeartbeats 4000000 in
theorem bsfEZ (H : Hp) (a : Option Addr) (cap n : Nat) (cs : List Value) (hv : Holds H 2 (.slice a n cap) n cs) (hn : n ≤ 1000000) (hn0 : n = 0) (t : En) (gf : Fn) (ga gb : Array Value) (c : Nat → Int) (pp : Nat) (hp : pp ≤ n) (h1 : ∀ k, k < pp → c k < 0) (h2 : ∀ k, pp ≤ k → k < n → ¬ c k < 0) (hP : ∀ i, i < n → ∀ K, ValH Try.prog (.func gf ga gb) #[.agg (rowAt cs 2 i), .agg #[.int .i64 t.v, .int .i64 t.k]] K (fun v K' => v = .int .i64 (c i) ∧ K' = K)) : CallH Try.prog 48 #[.slice a n cap, .agg #[.int .i64 t.v, .int .i64 t.k], .func gf ga gb] H (fun v H' => v = .tuple #[.int .i64 pp, .bool (decide (pp < n ∧ c pp = 0))] ∧ H' = H) := by
 refine zaB (l := [_, _, _]) (rl := [.tmp 6, .tmp 7]) (n := 49) Try.func48 rfl rfl rfl rfl rfl ?_
 simp only [envOf, Nat.reduceAdd]
 have hcl := hv.1
 refine zad (fun K1 hK1 => ?_)
 refine zab ?_
 refine zac (fun K hK r => ?_)
 simp only [x_box, Value.cells, eX, ↓reduceIte, Nat.reduceEqDiff, Int.reduceToNat]
 intro b4 hb4
 have f4_H : H b4 = none := zaj lhA hb4
 try simp only [eX, ↓reduceIte, Nat.reduceEqDiff, Int.reduceToNat]
 refine hK _ _ ?_; clear hK K
 refine zao rfl ?_
 refine zao rfl ?_
 refine zae ?_
 try simp only [Ex.thnH, Ex.inBlockH, ↓reduceIte, Nat.reduceEqDiff]
 refine hK1 _ _ ?_; try clear hK1 K1
 refine zad (fun K2 hK2 => ?_)
 refine zab ?_
 refine zag rfl ?_
 refine zac (fun K hK r => ?_)
 simp only [zaC, l_len, List.map_toArray, List.map_cons, List.map_nil, zaF _ _ Try.underlying33, eX, ↓reduceIte, Nat.reduceEqDiff, Int.reduceToNat]
 refine hK _ _ ?_; clear hK K
 refine zao rfl ?_
 refine zae ?_
 try simp only [Ex.thnH, Ex.inBlockH, ↓reduceIte, Nat.reduceEqDiff]
 refine hK2 _ _ ?_; try clear hK2 K2
 refine zad (fun K3 hK3 => ?_)
 refine zab ?_
 refine zag rfl ?_
 refine zao rfl ?_
 refine zao rfl ?_
 refine zae ?_
 try simp only [Ex.thnH, Ex.inBlockH, ↓reduceIte, Nat.reduceEqDiff]
 refine hK3 _ _ ?_; try clear hK3 K3
 refine zad (fun K4 hK4 => ?_)
 refine zaP ?_
 refine CW_loop (fun m e H_ => ∃ i j : Nat, i ≤ pp ∧ pp ≤ j ∧ j ≤ n ∧ m = j - i ∧ H_ = H.upd b4 (.cells #[.int .i64 t.v, .int .i64 t.k] 38) ∧ Env.has [(0, .slice a n cap), (2, .func gf ga gb), (4, .pointer (some ⟨b4, 0, none⟩)), (8, .int .i64 n), (9, .int .i64 i), (10, .int .i64 j)] e) (n) ?_ ?_
 ·skip
  exact ⟨0, n, by omega, hp, Nat.le_refl _, by omega, rfl, rfl, rfl, rfl, rfl, rfl, rfl, trivial⟩
 intro m_ e_ H_ hI_
 obtain ⟨i_, j_, hi1, hi2, hi3, rfl, hH_, he⟩ := hI_
 have hH_ := hH_.symm; subst hH_
 refine CW_env he.sub ?_; clear he e_
 refine zad (fun K5 hK5 => ?_)
 refine zad (fun K6 hK6 => ?_)
 refine zab ?_
 refine zag rfl ?_
 refine zag rfl ?_
 refine zac (fun K hK r => ?_)
 simp (disch := (first | omega | decide)) only [zaI, zaM, b_lss, zau, zaw, zat, zax, zas, zay, Bool.not_true, Bool.not_false, eX, ↓reduceIte, Nat.reduceEqDiff, Int.reduceToNat]
 refine hK _ _ ?_; clear hK K
 refine zae ?_
 try simp only [Ex.thnH, Ex.inBlockH, ↓reduceIte, Nat.reduceEqDiff]
 refine hK6 _ _ ?_; try clear hK6 K6
 refine zaH (fun r => rfl) (fun c17 => ?_) (fun c17 => ?_)
 ·first
  |(exfalso; exact cnA c17; done)
  |skip
   (try simp only [decide_eq_true_eq, decide_eq_false_iff_not, Bool.not_eq_true, Bool.not_eq_false, Bool.and_eq_true, Bool.or_eq_true, Bool.or_eq_false_iff, Bool.not_eq_eq_eq_not, Bool.not_true, Bool.not_false] at c17)
   exfalso
   omega
   refine zaL ?_
   try simp only [Ex.thnH, Ex.inBlockH, ↓reduceIte, Nat.reduceEqDiff]
   refine hK5 _ _ ?_; try clear hK5 K5
   refine zaP ?_
   refine zad (fun K7 hK7 => ?_)
   refine zab ?_
   refine zag rfl ?_
   refine zag rfl ?_
   refine zac (fun K hK r => ?_)
   simp (disch := (first | omega | decide)) only [zaI, zaM, b_add, zaG, zaK, zaJ, zaR, eX, ↓reduceIte, Nat.reduceEqDiff, Int.reduceToNat]
   refine hK _ _ ?_; clear hK K
   refine zac (fun K hK r => ?_)
   simp (disch := (first | omega | decide)) only [x_convert, c_int _ _ _ _ Try.underlying3 Try.underlying139, zaG, zaK, zaJ, zaR, eX, ↓reduceIte, Nat.reduceEqDiff, Int.reduceToNat]
   refine hK _ _ ?_; clear hK K
   refine zac (fun K hK r => ?_)
   simp (disch := (first | omega | decide)) only [zaI, zaM, b_shr, zaG, zaK, zaJ, zaR, eX, ↓reduceIte, Nat.reduceEqDiff, Int.reduceToNat]
   skip
   refine hK _ _ ?_; clear hK K
   refine zac (fun K hK r => ?_)
   simp (disch := (first | omega | decide)) only [x_convert, c_int _ _ _ _ Try.underlying139 Try.underlying3, zaG, zaK, zaJ, zaR, eX, ↓reduceIte, Nat.reduceEqDiff, Int.reduceToNat]
   refine hK _ _ ?_; clear hK K
   refine zao rfl ?_
   refine zae ?_
   try simp only [Ex.thnH, Ex.inBlockH, ↓reduceIte, Nat.reduceEqDiff]
   refine hK7 _ _ ?_; try clear hK7 K7
   refine zad (fun K8 hK8 => ?_)
   obtain ⟨R5, hR5⟩ : ∃ R : Hp, R = H.upd b4 (.cells #[.int .i64 t.v, .int .i64 t.k] 38) := ⟨_, rfl⟩
   refine CW_drawR [0, 0, 0, 0, 1, 1, 3, 0] [0, 1, 2, 3, 4, 5, 6, 7] R5 (by kernel_rfl) (by kernel_rfl) (by subst hR5; exact Le.refl _) (fun lR5 => ?_)
   apply zaf rfl (zaa (by decide)) rfl
   ·intro r
    simp only [zaq, eX, ↓reduceIte, Nat.reduceEqDiff]
    exact ⟨rfl, Le.refl _⟩
   simp only [eX, ↓reduceIte, Nat.reduceEqDiff, Int.reduceToNat]
   apply zaf rfl (zaa (by decide)) rfl
   ·intro r
    simp only [zaq, eX, ↓reduceIte, Nat.reduceEqDiff]
    exact ⟨rfl, Le.refl _⟩
   simp only [eX, ↓reduceIte, Nat.reduceEqDiff, Int.reduceToNat]
   apply zaf rfl (zaa (by decide)) rfl
   ·intro r
    simp only [zaq, eX, ↓reduceIte, Nat.reduceEqDiff]
    exact ⟨rfl, Le.refl _⟩
   simp only [eX, ↓reduceIte, Nat.reduceEqDiff, Int.reduceToNat]
   apply zaf rfl (zaa (by decide)) rfl
   ·intro r
    simp only [zav, eX, ↓reduceIte, Nat.reduceEqDiff]
    refine Lt_indexS Try.underlying33 sz38 ixA ixA ?_
    try simp only [zaA, Nat.mul_one, Nat.zero_add, Int.reduceToNat]
    exact ⟨rfl, Le.refl _⟩
   simp only [eX, ↓reduceIte, Nat.reduceEqDiff, Int.reduceToNat]
   apply zaW rfl (zaa (by decide)) rfl
   ·intro r
    simp only [zar, eX, ↓reduceIte, Nat.reduceEqDiff]
    skip
    exact ⟨rfl, Le.refl _⟩
   simp only [eX, ↓reduceIte, Nat.reduceEqDiff, Int.reduceToNat]
   apply zaW rfl (zaa (by decide)) rfl
   ·intro r
    simp only [zar, eX, ↓reduceIte, Nat.reduceEqDiff]
    skip
    exact ⟨rfl, Le.refl _⟩
   simp only [eX, ↓reduceIte, Nat.reduceEqDiff, Int.reduceToNat]
   refine TW_last rfl (zaa (by decide)) rfl (fun K hK r => ?_)
   simp only [x_call, List.map_toArray, List.map_cons, List.map_nil, eX, ↓reduceIte, Nat.reduceEqDiff, Int.reduceToNat]
   show ValH _ _ _ _ _
   refine (hP h_ (by omega) _).mono ?_
   rintro v30 H' ⟨rfl, hq⟩
   have hq := hq.symm
   subst hq
   try simp only [eX, ↓reduceIte, Nat.reduceEqDiff, Int.reduceToNat]
   refine hK _ _ ?_; clear hK K
   apply zaf rfl (zaa (by decide)) rfl
   ·intro r
    simp (disch := (first | omega | decide)) only [zaI, zaM, b_lss, zau, zaw, zat, zax, zas, zay, Bool.not_true, Bool.not_false, eX, ↓reduceIte, Nat.reduceEqDiff]
    exact ⟨rfl, Le.refl _⟩
   simp only [eX, ↓reduceIte, Nat.reduceEqDiff, Int.reduceToNat]
   refine TW_nil ?_
   try simp only [Ex.thnH, Ex.inBlockH, ↓reduceIte, Nat.reduceEqDiff]
   refine hK8 _ _ ?_; try clear hK8 K8
   refine zaH (fun r => rfl) (fun c31 => ?_) (fun c31 => ?_)
   ·first
    |(exfalso; exact cnA c31; done)
    |skip
     (try simp only [decide_eq_true_eq, decide_eq_false_iff_not, Bool.not_eq_true, Bool.not_eq_false, Bool.and_eq_true, Bool.or_eq_true, Bool.or_eq_false_iff, Bool.not_eq_eq_eq_not, Bool.not_true, Bool.not_false] at c31)
     refine zab ?_
     refine zag rfl ?_
     refine zac (fun K hK r => ?_)
     simp (disch := (first | omega | decide)) only [zaI, zaM, b_add, zaG, zaK, zaJ, zaR, eX, ↓reduceIte, Nat.reduceEqDiff, Int.reduceToNat]
     refine hK _ _ ?_; clear hK K
     refine zao rfl ?_
     refine zae ?_
     try simp only [Ex.thnH, Ex.inBlockH, ↓reduceIte, Nat.reduceEqDiff]
     exfalso; omega
   ·first
    |(exfalso; exact cnA c31; done)
    |skip
     (try simp only [decide_eq_true_eq, decide_eq_false_iff_not, Bool.not_eq_true, Bool.not_eq_false, Bool.and_eq_true, Bool.or_eq_true, Bool.or_eq_false_iff, Bool.not_eq_eq_eq_not, Bool.not_true, Bool.not_false] at c31)
     refine zab ?_
     refine zag rfl ?_
     refine zao rfl ?_
     refine zae ?_
     try simp only [Ex.thnH, Ex.inBlockH, ↓reduceIte, Nat.reduceEqDiff]
     exfalso; omega
 ·first
  |(exfalso; exact cnA c17; done)
  |skip
   (try simp only [decide_eq_true_eq, decide_eq_false_iff_not, Bool.not_eq_true, Bool.not_eq_false, Bool.and_eq_true, Bool.or_eq_true, Bool.or_eq_false_iff, Bool.not_eq_eq_eq_not, Bool.not_true, Bool.not_false] at c17)
   obtain rfl : i_ = pp := by omega
   refine CW_exit ?_
   try simp only [Ex.thnH, Ex.inBlockH, ↓reduceIte, Nat.reduceEqDiff]
   refine hK4 _ _ ?_; try clear hK4 K4
   refine zad (fun K9 hK9 => ?_)
   obtain ⟨R8, hR8⟩ : ∃ R : Hp, R = H.upd b4 (.cells #[.int .i64 t.v, .int .i64 t.k] 38) := ⟨_, rfl⟩
   refine CW_drawR [0, 0, 0, 0, 0, 0, 0, 0, 0, 1, 1, 2, 0, 0, 0, 0] [0, 1, 2, 3, 4, 5, 6, 7, 8, 9, 10, 11, 12, 13, 14, 15] R8 (by kernel_rfl) (by kernel_rfl) (by subst hR8; exact Le.refl _) (fun lR8 => ?_)
   apply zaf rfl (zaa (by decide)) rfl
   ·intro r
    simp only [zaq, eX, ↓reduceIte, Nat.reduceEqDiff]
    exact ⟨rfl, Le.refl _⟩
   simp only [eX, ↓reduceIte, Nat.reduceEqDiff, Int.reduceToNat]
   apply zaf rfl (zaa (by decide)) rfl
   ·intro r
    simp only [zaq, eX, ↓reduceIte, Nat.reduceEqDiff]
    exact ⟨rfl, Le.refl _⟩
   simp only [eX, ↓reduceIte, Nat.reduceEqDiff, Int.reduceToNat]
   apply zaf rfl (zaa (by decide)) rfl
   ·intro r
    simp only [zaq, eX, ↓reduceIte, Nat.reduceEqDiff]
    exact ⟨rfl, Le.refl _⟩
   simp only [eX, ↓reduceIte, Nat.reduceEqDiff, Int.reduceToNat]
   apply zaf rfl (zaa (by decide)) rfl
   ·intro r
    simp (disch := (first | omega | decide)) only [zaI, zaM, b_lss, zau, zaw, zat, zax, zas, zay, Bool.not_true, Bool.not_false, eX, ↓reduceIte, Nat.reduceEqDiff]
    exact ⟨rfl, Le.refl _⟩
   simp only [eX, ↓reduceIte, Nat.reduceEqDiff, Int.reduceToNat]
   apply zaf rfl (zaa (by decide)) rfl
   ·intro r
    simp only [zaq, eX, ↓reduceIte, Nat.reduceEqDiff]
    exact ⟨rfl, Le.refl _⟩
   simp only [eX, ↓reduceIte, Nat.reduceEqDiff, Int.reduceToNat]
   (first | refine TW_split (d := 39) rfl (fun g39 => ?_) (fun g39 => ?_) | skip)
   all_goals try (exfalso; exact cnA g39)
   all_goals (try simp only [decide_eq_true_eq, decide_eq_false_iff_not, Bool.not_eq_true, Bool.not_eq_false, Bool.and_eq_true, Bool.or_eq_true, Bool.or_eq_false_iff, Bool.not_eq_eq_eq_not, Bool.not_true, Bool.not_false] at g39)
   all_goals
    try simp only [eX, ↓reduceIte, Nat.reduceEqDiff, Int.reduceToNat]
    first
    |apply TW_pureG rfl (zaa (by decide)) rfl rfl
     ·intro r
      simp only [zaq, eX, ↓reduceIte, Nat.reduceEqDiff]
      exact ⟨rfl, Le.refl _⟩
     simp only [eX, ↓reduceIte, Nat.reduceEqDiff, Int.reduceToNat]
    |refine zaX rfl (zaa (by decide)) rfl ?_
     simp only [eX, ↓reduceIte, Nat.reduceEqDiff, Int.reduceToNat]
    first
    |apply TW_pureG rfl (zaa (by decide)) rfl rfl
     ·intro r
      simp only [zaq, eX, ↓reduceIte, Nat.reduceEqDiff]
      exact ⟨rfl, Le.refl _⟩
     simp only [eX, ↓reduceIte, Nat.reduceEqDiff, Int.reduceToNat]
    |refine zaX rfl (zaa (by decide)) rfl ?_
     simp only [eX, ↓reduceIte, Nat.reduceEqDiff, Int.reduceToNat]
    first
    |apply TW_pureG rfl (zaa (by decide)) rfl rfl
     ·intro r
      simp only [zaq, eX, ↓reduceIte, Nat.reduceEqDiff]
      exact ⟨rfl, Le.refl _⟩
     simp only [eX, ↓reduceIte, Nat.reduceEqDiff, Int.reduceToNat]
    |refine zaX rfl (zaa (by decide)) rfl ?_
     simp only [eX, ↓reduceIte, Nat.reduceEqDiff, Int.reduceToNat]
    first
    |apply TW_pureG rfl (zaa (by decide)) rfl rfl
     ·intro r
      simp only [zav, eX, ↓reduceIte, Nat.reduceEqDiff]
      refine Lt_indexS Try.underlying33 sz38 ixA ixA ?_
      try simp only [zaA, Nat.mul_one, Nat.zero_add, Int.reduceToNat]
      exact ⟨rfl, Le.refl _⟩
     simp only [eX, ↓reduceIte, Nat.reduceEqDiff, Int.reduceToNat]
    |refine zaX rfl (zaa (by decide)) rfl ?_
     simp only [eX, ↓reduceIte, Nat.reduceEqDiff, Int.reduceToNat]
    first
    |apply TW_lookG rfl (zaa (by decide)) rfl rfl
     ·intro r
      simp only [zar, eX, ↓reduceIte, Nat.reduceEqDiff]
      skip
      exact ⟨rfl, Le.refl _⟩
     simp only [eX, ↓reduceIte, Nat.reduceEqDiff, Int.reduceToNat]
    |refine zaX rfl (zaa (by decide)) rfl ?_
     simp only [eX, ↓reduceIte, Nat.reduceEqDiff, Int.reduceToNat]
    first
    |apply TW_lookG rfl (zaa (by decide)) rfl rfl
     ·intro r
      simp only [zar, eX, ↓reduceIte, Nat.reduceEqDiff]
      skip
      exact ⟨rfl, Le.refl _⟩
     simp only [eX, ↓reduceIte, Nat.reduceEqDiff, Int.reduceToNat]
    |refine zaX rfl (zaa (by decide)) rfl ?_
     simp only [eX, ↓reduceIte, Nat.reduceEqDiff, Int.reduceToNat]
    first
    |refine TW_chainG rfl (zaa (by decide)) rfl rfl (fun K hK r => ?_)
     simp only [x_call, List.map_toArray, List.map_cons, List.map_nil, eX, ↓reduceIte, Nat.reduceEqDiff, Int.reduceToNat]
     show ValH _ _ _ _ _
     refine (hP i_ (by omega) _).mono ?_
     rintro v46 H' ⟨rfl, hq⟩
     have hq := hq.symm
     subst hq
     try simp only [eX, ↓reduceIte, Nat.reduceEqDiff, Int.reduceToNat]
     refine hK _ _ leA ?_; clear hK K
    |refine zaX rfl (zaa (by decide)) rfl ?_
     simp only [eX, ↓reduceIte, Nat.reduceEqDiff, Int.reduceToNat]
    first
    |apply TW_pureG rfl (zaa (by decide)) rfl rfl
     ·intro r
      simp (disch := (first | omega | decide)) only [zaI, zaM, b_eql, zau, zaw, zat, zax, zas, zay, Bool.not_true, Bool.not_false, eX, ↓reduceIte, Nat.reduceEqDiff]
      exact ⟨rfl, Le.refl _⟩
     simp only [eX, ↓reduceIte, Nat.reduceEqDiff, Int.reduceToNat]
    |refine zaX rfl (zaa (by decide)) rfl ?_
     simp only [eX, ↓reduceIte, Nat.reduceEqDiff, Int.reduceToNat]
    apply zaf rfl (zaa (by decide)) rfl
    ·intro r
     simp only [x_pick, l_asBool, HL.ite_bool, if_true, if_false, Bool.false_eq_true, eX, ↓reduceIte, Nat.reduceEqDiff]
     exact ⟨rfl, Le.refl _⟩
    simp only [eX, ↓reduceIte, Nat.reduceEqDiff, Int.reduceToNat]
    apply zaf rfl (zaa (by decide)) rfl
    ·intro r
     simp only [x_assign, eX, ↓reduceIte, Nat.reduceEqDiff]
     exact ⟨rfl, Le.refl _⟩
    simp only [eX, ↓reduceIte, Nat.reduceEqDiff, Int.reduceToNat]
    apply zaf rfl (zaa (by decide)) rfl
    ·intro r
     simp only [x_assign, eX, ↓reduceIte, Nat.reduceEqDiff]
     exact ⟨rfl, Le.refl _⟩
    simp only [eX, ↓reduceIte, Nat.reduceEqDiff, Int.reduceToNat]
    refine TW_nil ?_
    try simp only [Ex.thnH, Ex.inBlockH, ↓reduceIte, Nat.reduceEqDiff]
    refine hK9 _ _ ?_; try clear hK9 K9
    refine zaV ?_
    try simp only [Ex.thnH, Ex.inBlockH, ↓reduceIte, Nat.reduceEqDiff]
    refine ⟨[_, _], ⟨rfl, rfl, trivial⟩, H, lhA, ?_, rfl⟩
    show Value.tuple #[_, Value.bool _] = Value.tuple #[_, Value.bool _]
    congr 5
    first
    |(symm; rw [decide_eq_false_iff_not]; omega)
    |exact decide_eq_decide.2 ⟨fun h => ⟨by omega, h⟩, fun h => h.2⟩
    |(symm; rw [decide_eq_false_iff_not]; rintro ⟨hh, _⟩; simp_all; done)
theorem bsfE_ok (H : Hp) (a : Option Addr) (cap n : Nat) (cs : List Value) (hv : Holds H 2 (.slice a n cap) n cs) (hn : n ≤ 1000000) (t : En) (gf : Fn) (ga gb : Array Value) (c : Nat → Int) (pp : Nat) (hp : pp ≤ n) (h1 : ∀ k, k < pp → c k < 0) (h2 : ∀ k, pp ≤ k → k < n → ¬ c k < 0) (hP : ∀ i, i < n → ∀ K, ValH Try.prog (.func gf ga gb) #[.agg (rowAt cs 2 i), .agg #[.int .i64 t.v, .int .i64 t.k]] K (fun v K' => v = .int .i64 (c i) ∧ K' = K)) : CallH Try.prog 48 #[.slice a n cap, .agg #[.int .i64 t.v, .int .i64 t.k], .func gf ga gb] H (fun v H' => v = .tuple #[.int .i64 pp, .bool (decide (pp < n ∧ c pp = 0))] ∧ H' = H) := by
  rcases Nat.eq_zero_or_pos n with h | h
  · exact bsfEZ H a cap n cs hv hn h t gf ga gb c pp hp h1 h2 hP
  · exact bsfEP H a cap n cs hv hn h t gf ga gb c pp hp h1 h2 hP
end Go.Proofs.Ytjhohnbdhopllaa.HL
end
section
namespace Go.Proofs.Ytjhohnbdhopllaa.HL
open Go Go.Proofs
set_option linter.unusedSimpArgs false
set_option linter.unusedVariables false
attribute [local irreducible] Lt Lq CW OW TW CallH
set_option maxRecDepth 100000 in
set_option maxHeartbeats 4000000 in
theorem insE_ok (H : Hp) (v : Value) (n : Nat) (cs : List Value) (rs : Option Nat) (ho : OwnS H 38 2 v n cs rs) (i : Nat) (hi : i ≤ n) (hn : n ≤ 1000000) (vb : Nat) (xs : List Value) (hvb : H vb = some (.cells xs.toArray 38)) (hx : xs.length = 2) (hxp : PlainL xs) (hcp : PlainL cs) (hne : rs ≠ some vb) : CallH Try.prog 51 #[v, .int .i64 i, .slice (some ⟨vb, 0, none⟩) 1 1] H (fun v' H' => ∃ rs', OwnS H' 38 2 v' (n + 1) (cs.take (i * 2) ++ xs ++ cs.drop (i * 2)) rs' ∧ (∀ r, rs' = some r → rs = some r ∨ H r = none) ∧ (∀ b o, H b = some o → rs ≠ some b → H' b = some o)) := by
 refine zaB (l := [_, _, _]) (rl := [.tmp 6]) (n := 95) Try.func51 rfl rfl rfl rfl rfl ?_
 simp only [envOf, Nat.reduceAdd]
 obtain ⟨a, cap, rfl⟩ := ho.holds.form
 have hnc := ho.capn
 have hcl := ho.1
 have hX : Holds H 2 (.slice (some ⟨vb, 0, none⟩) 1 1) 1 xs := ⟨by rw [hx], .inr ⟨vb, 0, 1, _, _, _, rfl, hvb, by simp [hx], by simp [hx]; rw [← hx]; simp⟩⟩
 refine zad (fun K1 hK1 => ?_)
 refine zab ?_
 refine zao rfl ?_
 refine zae ?_
 try simp only [Ex.thnH, Ex.inBlockH, ↓reduceIte, Nat.reduceEqDiff]
 refine hK1 _ _ ?_; try clear hK1 K1
 refine zad (fun K2 hK2 => ?_)
 refine zab ?_
 refine zag rfl ?_
 refine zag rfl ?_
 refine zac (fun K hK r => ?_)
 simp only [x_slice, Option.map_some, Option.map_none, eX, ↓reduceIte, Nat.reduceEqDiff, Int.reduceToNat]
 refine Lt_sliceS Try.underlying33 sz38 zaU zaU (bound_some ixA) bxA bxA bxA (by simp) ?_
 try simp only [zaA, Nat.mul_one, Nat.zero_add, Int.reduceToNat, Nat.reduceSub, Nat.reduceEqDiff, ↓reduceIte]
 try simp only [eX, ↓reduceIte, Nat.reduceEqDiff, Int.reduceToNat]
 refine hK _ _ ?_; clear hK K
 refine zae ?_
 try simp only [Ex.thnH, Ex.inBlockH, ↓reduceIte, Nat.reduceEqDiff]
 refine hK2 _ _ ?_; try clear hK2 K2
 refine zad (fun K3 hK3 => ?_)
 refine zab ?_
 refine zag rfl ?_
 refine zac (fun K hK r => ?_)
 simp only [zaC, l_len, List.map_toArray, List.map_cons, List.map_nil, zaF _ _ Try.underlying33, eX, ↓reduceIte, Nat.reduceEqDiff, Int.reduceToNat]
 rw [show ((1 : Nat) : Int) = 1 from rfl]
 refine hK _ _ ?_; clear hK K
 refine zao rfl ?_
 refine zae ?_
 try simp only [Ex.thnH, Ex.inBlockH, ↓reduceIte, Nat.reduceEqDiff]
 refine hK3 _ _ ?_; try clear hK3 K3
 refine zad (fun K4 hK4 => ?_)
 refine zad (fun K5 hK5 => ?_)
 refine zab ?_
 refine zag rfl ?_
 refine zac (fun K hK r => ?_)
 simp (disch := (first | omega | decide)) only [zaI, zaM, b_eql, zau, zaw, zat, zax, zas, zay, Bool.not_true, Bool.not_false, eX, ↓reduceIte, Nat.reduceEqDiff, Int.reduceToNat]
 refine hK _ _ ?_; clear hK K
 refine zae ?_
 try simp only [Ex.thnH, Ex.inBlockH, ↓reduceIte, Nat.reduceEqDiff]
 refine hK5 _ _ ?_; try clear hK5 K5
 refine zaH (fun r => rfl) (fun c16 => ?_) (fun c16 => ?_)
 ·exfalso; exact cnA c16
 refine zaL ?_
 try simp only [Ex.thnH, Ex.inBlockH, ↓reduceIte, Nat.reduceEqDiff]
 refine hK4 _ _ ?_; try clear hK4 K4
 refine zad (fun K6 hK6 => ?_)
 refine zab ?_
 refine zag rfl ?_
 refine zac (fun K hK r => ?_)
 simp only [zaC, l_len, List.map_toArray, List.map_cons, List.map_nil, zaF _ _ Try.underlying33, eX, ↓reduceIte, Nat.reduceEqDiff, Int.reduceToNat]
 refine hK _ _ ?_; clear hK K
 refine zao rfl ?_
 refine zae ?_
 try simp only [Ex.thnH, Ex.inBlockH, ↓reduceIte, Nat.reduceEqDiff]
 refine hK6 _ _ ?_; try clear hK6 K6
 refine zad (fun K7 hK7 => ?_)
 refine zad (fun K8 hK8 => ?_)
 refine zab ?_
 refine zag rfl ?_
 refine zag rfl ?_
 refine zac (fun K hK r => ?_)
 simp (disch := (first | omega | decide)) only [zaI, zaM, b_eql, zau, zaw, zat, zax, zas, zay, Bool.not_true, Bool.not_false, eX, ↓reduceIte, Nat.reduceEqDiff, Int.reduceToNat]
 refine hK _ _ ?_; clear hK K
 refine zae ?_
 try simp only [Ex.thnH, Ex.inBlockH, ↓reduceIte, Nat.reduceEqDiff]
 refine hK8 _ _ ?_; try clear hK8 K8
 refine zaH (fun r => rfl) (fun c22 => ?_) (fun c22 => ?_)
 ·first
  |(exfalso; exact cnA c22; done)
  |skip
   (try simp only [decide_eq_true_eq, decide_eq_false_iff_not, Bool.not_eq_true, Bool.not_eq_false, Bool.and_eq_true, Bool.or_eq_true, Bool.or_eq_false_iff, Bool.not_eq_eq_eq_not, Bool.not_true, Bool.not_false] at c22)
   have hin : i = n := by omega
   refine zad (fun K9 hK9 => ?_)
   refine zab ?_
   refine zag rfl ?_
   refine zag rfl ?_
   refine zac (fun K hK r => ?_)
   simp only [zaC, l_append, List.map_toArray, List.map_cons, List.map_nil, eX, ↓reduceIte, Nat.reduceEqDiff, Int.reduceToNat]
   refine Lt_append Try.underlying33 Try.underlying33 (by simp) sz38 by38 (by decide) zr38 rfl _ (n := n) (m := 1) (cs := cs) (ds := xs) ho (len_slice _ _ _) (fun Kx => first_slice hX Kx) (by rw [hx]) hxp (by omega) ?_
   intro v25 H25 rs25 hg25 ho25 hr25
   refine hK _ _ ?_; clear hK K
   refine zao rfl ?_
   refine zae ?_
   try simp only [Ex.thnH, Ex.inBlockH, ↓reduceIte, Nat.reduceEqDiff]
   refine hK9 _ _ ?_; try clear hK9 K9
   refine zaV ?_
   try simp only [Ex.thnH, Ex.inBlockH, ↓reduceIte, Nat.reduceEqDiff]
   subst hin
   refine ⟨[_], ⟨rfl, trivial⟩, _, Le.refl _, rs25, ?_, hr25, fun b o hb hnb => hg25.known b o hb hnb⟩
   rw [List.take_of_length_le (by omega), List.drop_eq_nil_of_le (by omega), List.append_nil]
   exact ho25
 ·first
  |(exfalso; exact cnA c22; done)
  |skip
   (try simp only [decide_eq_true_eq, decide_eq_false_iff_not, Bool.not_eq_true, Bool.not_eq_false, Bool.and_eq_true, Bool.or_eq_true, Bool.or_eq_false_iff, Bool.not_eq_eq_eq_not, Bool.not_true, Bool.not_false] at c22)
   obtain ⟨r0, c0, rfl, hr0, hc0, hx0, hrs0⟩ := ho.blk (by omega)
   refine zaL ?_
   try simp only [Ex.thnH, Ex.inBlockH, ↓reduceIte, Nat.reduceEqDiff]
   refine hK7 _ _ ?_; try clear hK7 K7
   refine zad (fun K10 hK10 => ?_)
   refine zad (fun K11 hK11 => ?_)
   refine zab ?_
   refine zag rfl ?_
   refine zag rfl ?_
   refine zac (fun K hK r => ?_)
   simp (disch := (first | omega | decide)) only [zaI, zaM, b_add, zaG, zaK, zaJ, zaR, eX, ↓reduceIte, Nat.reduceEqDiff, Int.reduceToNat]
   refine hK _ _ ?_; clear hK K
   refine zag rfl ?_
   refine zac (fun K hK r => ?_)
   simp only [zaC, l_cap, List.map_toArray, List.map_cons, List.map_nil, i_cap_slice _ _ Try.underlying33, eX, ↓reduceIte, Nat.reduceEqDiff, Int.reduceToNat]
   refine hK _ _ ?_; clear hK K
   refine zac (fun K hK r => ?_)
   simp (disch := (first | omega | decide)) only [zaI, zaM, b_gtr, zau, zaw, zat, zax, zas, zay, Bool.not_true, Bool.not_false, eX, ↓reduceIte, Nat.reduceEqDiff, Int.reduceToNat]
   refine hK _ _ ?_; clear hK K
   refine zae ?_
   try simp only [Ex.thnH, Ex.inBlockH, ↓reduceIte, Nat.reduceEqDiff]
   refine hK11 _ _ ?_; try clear hK11 K11
   refine zaH (fun r => rfl) (fun c31 => ?_) (fun c31 => ?_)
   ·first
    |(exfalso; exact cnA c31; done)
    |skip
     (try simp only [decide_eq_true_eq, decide_eq_false_iff_not, Bool.not_eq_true, Bool.not_eq_false, Bool.and_eq_true, Bool.or_eq_true, Bool.or_eq_false_iff, Bool.not_eq_eq_eq_not, Bool.not_true, Bool.not_false] at c31)
     refine zad (fun K12 hK12 => ?_)
     refine zab ?_
     refine zag rfl ?_
     refine zag rfl ?_
     refine zac (fun K hK r => ?_)
     simp only [x_slice, Option.map_some, Option.map_none, eX, ↓reduceIte, Nat.reduceEqDiff, Int.reduceToNat]
     refine Lt_sliceS Try.underlying33 sz38 zaU (bound_some ixA) zaU bxA bxA bxA (by simp) ?_
     try simp only [zaA, Nat.mul_one, Nat.zero_add, Int.reduceToNat, Nat.reduceSub, Nat.reduceEqDiff, ↓reduceIte]
     rw [if_neg (show ¬ cap = 0 by omega)]
     simp only [Option.map_some, zaA, Nat.zero_mul, Nat.add_zero, Nat.sub_zero, Int.toNat_natCast]
     try simp only [eX, ↓reduceIte, Nat.reduceEqDiff, Int.reduceToNat]
     refine hK _ _ ?_; clear hK K
     refine zag rfl ?_
     refine zag rfl ?_
     refine zac (fun K hK r => ?_)
     simp (disch := (first | omega | decide)) only [zaI, zaM, b_add, zaG, zaK, zaJ, zaR, eX, ↓reduceIte, Nat.reduceEqDiff, Int.reduceToNat]
     refine hK _ _ ?_; clear hK K
     refine zag rfl ?_
     refine zac (fun K hK r => ?_)
     simp (disch := (first | omega | decide)) only [zaI, zaM, b_sub, zaG, zaK, zaJ, zaR, eX, ↓reduceIte, Nat.reduceEqDiff, Int.reduceToNat]
     refine hK _ _ ?_; clear hK K
     refine zac (fun K hK r => ?_)
     simp only [zaC, l_append, List.map_toArray, List.map_cons, List.map_nil, eX, ↓reduceIte, Nat.reduceEqDiff, Int.reduceToNat]
     rw [show (n : Int) + 1 - i = ((n + 1 - i : Nat) : Int) from by omega]
     refine Lt_appendZ Try.underlying33 Try.underlying3 sz38 by38 (by decide) zr38 rfl _ (base := some ⟨r0, 0, none⟩) (sLen := i) (sCap := cap) (m := n + 1 - i) (cs := cs.take (i * 2)) ⟨by rw [List.length_take]; omega, .inr ⟨r0, 0, cap, c0, _, _, rfl, hr0, by omega, by rw [← hx0]; simp only [Array.toList_extract, List.extract_eq_take_drop, List.drop_zero, Nat.sub_zero, Nat.zero_add, List.take_take]; congr 1; omega⟩⟩ (by omega) (by omega) (by omega) ?_
     intro r40 cap40 c40 hr40 hcp40 hsz40 hex40
     have hAl : (cs.take (i * 2)).length = i * 2 := by rw [List.length_take]; omega
     have hBl : (cs.drop (i * 2)).length = (n - i) * 2 := by rw [List.length_drop, Nat.sub_mul]; omega
     have hA40 : (c40.extract 0 (cs.take (i * 2)).length).toList = cs.take (i * 2) := by
      have h9 : (c40.extract 0 ((i + (n + 1 - i)) * 2)).toList.take (i * 2) = cs.take (i * 2) := by
       rw [hex40, List.take_append_of_le_length (by omega), List.take_take, Nat.min_self]
      rw [hAl, ← h9]
      simp only [Array.toList_extract, List.extract_eq_take_drop, List.drop_zero, Nat.sub_zero, List.take_take]
      congr 1; omega
     rw [show i + (n + 1 - i) = n + 1 from by omega] at hcp40 ⊢
     refine hK _ _ ?_; clear hK K
     refine zao rfl ?_
     refine zae ?_
     try simp only [Ex.thnH, Ex.inBlockH, ↓reduceIte, Nat.reduceEqDiff]
     refine hK12 _ _ ?_; try clear hK12 K12
     refine zad (fun K13 hK13 => ?_)
     refine zab ?_
     refine zag rfl ?_
     refine zag rfl ?_
     refine zac (fun K hK r => ?_)
     simp only [x_slice, Option.map_some, Option.map_none, eX, ↓reduceIte, Nat.reduceEqDiff, Int.reduceToNat]
     refine Lt_sliceS Try.underlying33 sz38 zaU zaU (bound_some ixA) bxA bxA bxA (by simp) ?_
     try simp only [zaA, Nat.mul_one, Nat.zero_add, Int.reduceToNat, Nat.reduceSub, Nat.reduceEqDiff, ↓reduceIte]
     simp only [Int.toNat_natCast]
     rw [if_neg (show ¬ cap40 = i by omega)]
     simp only [Option.map_some, zaA, Nat.zero_add]
     try simp only [eX, ↓reduceIte, Nat.reduceEqDiff, Int.reduceToNat]
     refine hK _ _ ?_; clear hK K
     refine zag rfl ?_
     refine zac (fun K hK r => ?_)
     simp only [zaC, l_copy, List.map_toArray, List.map_cons, List.map_nil, eX, ↓reduceIte, Nat.reduceEqDiff, Int.reduceToNat]
     have hmn : Nat.min 1 (n + 1 - i) = 1 := Nat.min_eq_left (by omega)
     refine Lt_copy (w := 2) (b := r40) (o := i * 2) (dLen := n + 1 - i) (n := 1) (cs := xs) Try.underlying33 sz38 _ (zap _ _ _) (by rw [hsz40]; omega) (len_slice _ _ _) (fun Kx => ?_) (by rw [hmn, hx]) hxp (by decide) ?_
     ·rw [hmn]; exact first_slice (hX.le (le_upd _ _ _ hr40)) Kx
     rw [upd_upd]
     refine hK _ _ ?_; clear hK K
     refine zae ?_
     try simp only [Ex.thnH, Ex.inBlockH, ↓reduceIte, Nat.reduceEqDiff]
     refine hK13 _ _ ?_; try clear hK13 K13
     refine zad (fun K14 hK14 => ?_)
     refine CW_drawO [0, 0, 0, 0, 0, 0, 0, 0, 3] [0, 1, 2, 3, 4, 5, 6, 7, 8] emptyHp (by kernel_rfl) (by kernel_rfl) (le_empty _) ?_
     apply zaf rfl (zaa (by decide)) rfl
     ·intro r
      simp only [zaq, eX, ↓reduceIte, Nat.reduceEqDiff]
      exact ⟨rfl, Le.refl _⟩
     simp only [eX, ↓reduceIte, Nat.reduceEqDiff, Int.reduceToNat]
     apply zaf rfl (zaa (by decide)) rfl
     ·intro r
      simp only [zaq, eX, ↓reduceIte, Nat.reduceEqDiff]
      exact ⟨rfl, Le.refl _⟩
     simp only [eX, ↓reduceIte, Nat.reduceEqDiff, Int.reduceToNat]
     apply zaf rfl (zaa (by decide)) rfl
     ·intro r
      simp only [zaq, eX, ↓reduceIte, Nat.reduceEqDiff]
      exact ⟨rfl, Le.refl _⟩
     simp only [eX, ↓reduceIte, Nat.reduceEqDiff, Int.reduceToNat]
     apply zaf rfl (zaa (by decide)) rfl
     ·intro r
      simp (disch := (first | omega | decide)) only [zaI, zaM, b_add, zaG, zaK, zaJ, zaR, eX, ↓reduceIte, Nat.reduceEqDiff]
      exact ⟨rfl, Le.refl _⟩
     simp only [eX, ↓reduceIte, Nat.reduceEqDiff, Int.reduceToNat]
     apply zaf rfl (zaa (by decide)) rfl
     ·intro r
      simp only [x_slice, Option.map_some, Option.map_none, eX, ↓reduceIte, Nat.reduceEqDiff]
      refine Lt_sliceS Try.underlying33 sz38 zaU zaU (bound_some ixA) bxA bxA bxA (by simp) ?_
      try simp only [zaA, Nat.mul_one, Nat.zero_add, Int.reduceToNat, Nat.reduceSub, Nat.reduceEqDiff, ↓reduceIte]
      exact ⟨rfl, Le.refl _⟩
     simp only [eX, ↓reduceIte, Nat.reduceEqDiff, Int.reduceToNat]
     apply zaf rfl (zaa (by decide)) rfl
     ·intro r
      simp only [zaq, eX, ↓reduceIte, Nat.reduceEqDiff]
      exact ⟨rfl, Le.refl _⟩
     simp only [eX, ↓reduceIte, Nat.reduceEqDiff, Int.reduceToNat]
     apply zaf rfl (zaa (by decide)) rfl
     ·intro r
      simp only [zaq, eX, ↓reduceIte, Nat.reduceEqDiff]
      exact ⟨rfl, Le.refl _⟩
     simp only [eX, ↓reduceIte, Nat.reduceEqDiff, Int.reduceToNat]
     apply zaf rfl (zaa (by decide)) rfl
     ·intro r
      simp only [x_slice, Option.map_some, Option.map_none, eX, ↓reduceIte, Nat.reduceEqDiff]
      refine Lt_sliceS Try.underlying33 sz38 zaU zaU (bound_some ixA) bxA bxA bxA (by simp) ?_
      try simp only [zaA, Nat.mul_one, Nat.zero_add, Int.reduceToNat, Nat.reduceSub, Nat.reduceEqDiff, ↓reduceIte]
      exact ⟨rfl, Le.refl _⟩
     simp only [eX, ↓reduceIte, Nat.reduceEqDiff, Int.reduceToNat]
     refine TW_last rfl (zaa (by decide)) rfl (fun K hK r => ?_)
     simp only [zaC, l_copy, List.map_toArray, List.map_cons, List.map_nil, eX, ↓reduceIte, Nat.reduceEqDiff, Int.reduceToNat]
     simp only [show ((i : Int) + 1).toNat = i + 1 from by omega, Int.toNat_natCast]
     rw [if_neg (show ¬ cap40 = i + 1 by omega), if_neg (show ¬ cap = i by omega)]
     simp only [Option.map_some, zaA, Nat.zero_add]
     have hmn : Nat.min (n - i) (n + 1 - (i + 1)) = n - i := Nat.min_eq_left (by omega)
     have n040 : r0 ≠ r40 := zaz hr0 hr40
     refine Lt_copy (w := 2) (b := r40) (o := (i + 1) * 2) (dLen := n + 1 - (i + 1)) (n := n - i) (cs := cs.drop (i * 2)) Try.underlying33 sz38 _ (zap _ _ _) (by rw [putCells_size, hsz40]; omega) (len_slice _ _ _) (fun Kx => ?_) (by rw [hmn, hBl]) (fun z hz => hcp z (List.mem_of_mem_drop hz)) (by decide) ?_
     ·rw [hmn]
      refine first_slice (w := 2) (n := n - i) (cs := cs.drop (i * 2)) ⟨hBl.symm, .inr ⟨r0, i * 2, _, c0, _, _, rfl, (zaE _ _ n040).trans hr0, by rw [hc0]; omega, ?_⟩⟩ Kx
      rw [← hx0]
      simp only [Array.toList_extract, List.extract_eq_take_drop, List.drop_zero, Nat.sub_zero, List.drop_take]
      congr 1; omega
     rw [upd_upd]
     refine hK _ _ ?_; clear hK K
     refine TW_nil ?_
     try simp only [Ex.thnH, Ex.inBlockH, ↓reduceIte, Nat.reduceEqDiff]
     refine hK14 _ _ ?_; try clear hK14 K14
     refine zad (fun K15 hK15 => ?_)
     refine zab ?_
     refine zag rfl ?_
     refine zao rfl ?_
     refine zae ?_
     try simp only [Ex.thnH, Ex.inBlockH, ↓reduceIte, Nat.reduceEqDiff]
     refine hK15 _ _ ?_; try clear hK15 K15
     refine zaV ?_
     try simp only [Ex.thnH, Ex.inBlockH, ↓reduceIte, Nat.reduceEqDiff]
     refine ⟨[_], ⟨rfl, trivial⟩, _, Le.refl _, some r40, ⟨?_, .inr ⟨r40, cap40, _, rfl, zap _ _ _, hcp40, by rw [putCells_size, putCells_size, hsz40], ?_, rfl⟩⟩, fun r hr => by cases hr; exact .inr hr40, fun b o hb _ => (zaE _ _ (zaz hb hr40)).trans hb⟩
     ·rw [List.length_append, List.length_append, hAl, hBl, hx]; omega
     ·have hp := put_two c40 (cs.take (i * 2)) xs (cs.drop (i * 2)) hA40 (by rw [hAl, hBl, hx, hsz40]; omega)
      rw [hAl, hBl, hx, show i * 2 + 2 = (i + 1) * 2 from by omega, show (i + 1) * 2 + (n - i) * 2 = (n + 1) * 2 from by omega] at hp
      exact hp
   ·first
    |(exfalso; exact cnA c31; done)
    |skip
     (try simp only [decide_eq_true_eq, decide_eq_false_iff_not, Bool.not_eq_true, Bool.not_eq_false, Bool.and_eq_true, Bool.or_eq_true, Bool.or_eq_false_iff, Bool.not_eq_eq_eq_not, Bool.not_true, Bool.not_false] at c31)
     refine zaL ?_
     try simp only [Ex.thnH, Ex.inBlockH, ↓reduceIte, Nat.reduceEqDiff]
     refine hK10 _ _ ?_; try clear hK10 K10
     refine zad (fun K16 hK16 => ?_)
     refine zab ?_
     refine zag rfl ?_
     refine zag rfl ?_
     refine zag rfl ?_
     refine zac (fun K hK r => ?_)
     simp (disch := (first | omega | decide)) only [zaI, zaM, b_add, zaG, zaK, zaJ, zaR, eX, ↓reduceIte, Nat.reduceEqDiff, Int.reduceToNat]
     refine hK _ _ ?_; clear hK K
     refine zac (fun K hK r => ?_)
     simp only [x_slice, Option.map_some, Option.map_none, eX, ↓reduceIte, Nat.reduceEqDiff, Int.reduceToNat]
     refine Lt_sliceS Try.underlying33 sz38 zaU (bound_some ixA) zaU bxA bxA bxA (by simp) ?_
     try simp only [zaA, Nat.mul_one, Nat.zero_add, Int.reduceToNat, Nat.reduceSub, Nat.reduceEqDiff, ↓reduceIte]
     rw [if_neg (show ¬ cap = 0 by omega)]
     simp only [Nat.zero_mul, Nat.sub_zero, show ((n : Int) + 1).toNat = n + 1 from by omega]
     try simp only [eX, ↓reduceIte, Nat.reduceEqDiff, Int.reduceToNat]
     refine hK _ _ ?_; clear hK K
     refine zao rfl ?_
     refine zae ?_
     try simp only [Ex.thnH, Ex.inBlockH, ↓reduceIte, Nat.reduceEqDiff]
     refine hK16 _ _ ?_; try clear hK16 K16
     refine zad (fun K17 hK17 => ?_)
     refine zad (fun K18 hK18 => ?_)
     refine zab ?_
     refine zag rfl ?_
     refine zag rfl ?_
     refine zag rfl ?_
     refine zag rfl ?_
     refine zac (fun K hK r => ?_)
     simp (disch := (first | omega | decide)) only [zaI, zaM, b_add, zaG, zaK, zaJ, zaR, eX, ↓reduceIte, Nat.reduceEqDiff, Int.reduceToNat]
     refine hK _ _ ?_; clear hK K
     refine zac (fun K hK r => ?_)
     simp only [x_slice, Option.map_some, Option.map_none, eX, ↓reduceIte, Nat.reduceEqDiff, Int.reduceToNat]
     refine Lt_sliceS Try.underlying33 sz38 zaU zaU (bound_some ixA) bxA bxA bxA (by simp) ?_
     try simp only [zaA, Nat.mul_one, Nat.zero_add, Int.reduceToNat, Nat.reduceSub, Nat.reduceEqDiff, ↓reduceIte]
     try simp only [eX, ↓reduceIte, Nat.reduceEqDiff, Int.reduceToNat]
     refine hK _ _ ?_; clear hK K
     refine zac (fun K hK r => ?_)
     simp only [xc62, List.map_toArray, List.map_cons, List.map_nil, eX, ↓reduceIte, Nat.reduceEqDiff, Int.reduceToNat]
     simp only [show ((i : Int) + 1).toNat = i + 1 from by omega]
     rw [if_neg (show ¬ cap = i + 1 by omega)]
     simp only [Option.map_some, zaA, Nat.zero_add]
     refine Lt_overlaps Try.underlying33 sz38 (fun e => hne (by rw [hrs0]; exact congrArg some e.symm)) hvb hr0 (by rw [hc0]; omega) ?_
     refine hK _ _ ?_; clear hK K
     refine zac (fun K hK r => ?_)
     simp only [x_un, u_not, eX, ↓reduceIte, Nat.reduceEqDiff, Int.reduceToNat]
     refine hK _ _ ?_; clear hK K
     refine zae ?_
     try simp only [Ex.thnH, Ex.inBlockH, ↓reduceIte, Nat.reduceEqDiff]
     refine hK18 _ _ ?_; try clear hK18 K18
     refine zaH (fun r => rfl) (fun c68 => ?_) (fun c68 => ?_)
     ·first
      |(exfalso; exact cnA c68; done)
      |skip
       skip
       refine zad (fun K19 hK19 => ?_)
       refine CW_drawO [0, 0, 0, 0, 0, 0, 0, 0, 3] [0, 1, 2, 3, 4, 5, 6, 7, 8] emptyHp (by kernel_rfl) (by kernel_rfl) (le_empty _) ?_
       apply zaf rfl (zaa (by decide)) rfl
       ·intro r
        simp only [zaq, eX, ↓reduceIte, Nat.reduceEqDiff]
        exact ⟨rfl, Le.refl _⟩
       simp only [eX, ↓reduceIte, Nat.reduceEqDiff, Int.reduceToNat]
       apply zaf rfl (zaa (by decide)) rfl
       ·intro r
        simp only [zaq, eX, ↓reduceIte, Nat.reduceEqDiff]
        exact ⟨rfl, Le.refl _⟩
       simp only [eX, ↓reduceIte, Nat.reduceEqDiff, Int.reduceToNat]
       apply zaf rfl (zaa (by decide)) rfl
       ·intro r
        simp only [zaq, eX, ↓reduceIte, Nat.reduceEqDiff]
        exact ⟨rfl, Le.refl _⟩
       simp only [eX, ↓reduceIte, Nat.reduceEqDiff, Int.reduceToNat]
       apply zaf rfl (zaa (by decide)) rfl
       ·intro r
        simp (disch := (first | omega | decide)) only [zaI, zaM, b_add, zaG, zaK, zaJ, zaR, eX, ↓reduceIte, Nat.reduceEqDiff]
        exact ⟨rfl, Le.refl _⟩
       simp only [eX, ↓reduceIte, Nat.reduceEqDiff, Int.reduceToNat]
       apply zaf rfl (zaa (by decide)) rfl
       ·intro r
        simp only [x_slice, Option.map_some, Option.map_none, eX, ↓reduceIte, Nat.reduceEqDiff]
        refine Lt_sliceS Try.underlying33 sz38 zaU zaU (bound_some ixA) bxA bxA bxA (by simp) ?_
        try simp only [zaA, Nat.mul_one, Nat.zero_add, Int.reduceToNat, Nat.reduceSub, Nat.reduceEqDiff, ↓reduceIte]
        exact ⟨rfl, Le.refl _⟩
       simp only [eX, ↓reduceIte, Nat.reduceEqDiff, Int.reduceToNat]
       apply zaf rfl (zaa (by decide)) rfl
       ·intro r
        simp only [zaq, eX, ↓reduceIte, Nat.reduceEqDiff]
        exact ⟨rfl, Le.refl _⟩
       simp only [eX, ↓reduceIte, Nat.reduceEqDiff, Int.reduceToNat]
       apply zaf rfl (zaa (by decide)) rfl
       ·intro r
        simp only [zaq, eX, ↓reduceIte, Nat.reduceEqDiff]
        exact ⟨rfl, Le.refl _⟩
       simp only [eX, ↓reduceIte, Nat.reduceEqDiff, Int.reduceToNat]
       apply zaf rfl (zaa (by decide)) rfl
       ·intro r
        simp only [x_slice, Option.map_some, Option.map_none, eX, ↓reduceIte, Nat.reduceEqDiff]
        refine Lt_sliceS Try.underlying33 sz38 zaU zaU (bound_some ixA) bxA bxA bxA (by simp) ?_
        try simp only [zaA, Nat.mul_one, Nat.zero_add, Int.reduceToNat, Nat.reduceSub, Nat.reduceEqDiff, ↓reduceIte]
        exact ⟨rfl, Le.refl _⟩
       simp only [eX, ↓reduceIte, Nat.reduceEqDiff, Int.reduceToNat]
       refine TW_last rfl (zaa (by decide)) rfl (fun K hK r => ?_)
       simp only [zaC, l_copy, List.map_toArray, List.map_cons, List.map_nil, eX, ↓reduceIte, Nat.reduceEqDiff, Int.reduceToNat]
       simp only [show ((i : Int) + 1).toNat = i + 1 from by omega, Int.toNat_natCast]
       rw [if_neg (show ¬ cap = i + 1 by omega), if_neg (show ¬ cap = i by omega)]
       simp only [Option.map_some, zaA, Nat.zero_add]
       have hmn : Nat.min (n + 1 - i) (n + 1 - (i + 1)) = n - i := by rw [show n + 1 - (i + 1) = n - i from by omega]; exact Nat.min_eq_right (by omega)
       have hAl : (cs.take (i * 2)).length = i * 2 := by rw [List.length_take]; omega
       have hBl : (cs.drop (i * 2)).length = (n - i) * 2 := by rw [List.length_drop, Nat.sub_mul]; omega
       have hcsz : cap * 2 = c0.size := hc0.symm
       refine Lt_copy (w := 2) (b := r0) (o := (i + 1) * 2) (dLen := n + 1 - (i + 1)) (n := n + 1 - i) (cs := cs.drop (i * 2)) Try.underlying33 sz38 _ hr0 (by omega) (len_slice _ _ _) (fun Kx => ?_) (by rw [hmn, hBl]) (fun z hz => hcp z (List.mem_of_mem_drop hz)) (by decide) ?_
       ·rw [hmn]
        refine (first_holds (w := 2) (n := n + 1 - i) (m := n - i) (cs := (c0.extract (i * 2) (i * 2 + (n + 1 - i) * 2)).toList) ⟨by simp only [Array.length_toList, Array.size_extract]; omega, .inr ⟨r0, i * 2, _, c0, _, _, rfl, hr0, by omega, rfl⟩⟩ (by omega) Kx).trans ?_
        congr 2
        rw [← hx0]
        simp only [Array.toList_extract, List.extract_eq_take_drop, List.drop_zero, Nat.sub_zero, List.drop_take, List.take_take]
        congr 1; omega
       refine hK _ _ ?_; clear hK K
       refine TW_nil ?_
       try simp only [Ex.thnH, Ex.inBlockH, ↓reduceIte, Nat.reduceEqDiff]
       refine hK19 _ _ ?_; try clear hK19 K19
       refine zad (fun K20 hK20 => ?_)
       refine zab ?_
       refine zag rfl ?_
       refine zag rfl ?_
       refine zac (fun K hK r => ?_)
       simp only [x_slice, Option.map_some, Option.map_none, eX, ↓reduceIte, Nat.reduceEqDiff, Int.reduceToNat]
       refine Lt_sliceS Try.underlying33 sz38 zaU zaU (bound_some ixA) bxA bxA bxA (by simp) ?_
       try simp only [zaA, Nat.mul_one, Nat.zero_add, Int.reduceToNat, Nat.reduceSub, Nat.reduceEqDiff, ↓reduceIte]
       try simp only [eX, ↓reduceIte, Nat.reduceEqDiff, Int.reduceToNat]
       refine hK _ _ ?_; clear hK K
       refine zag rfl ?_
       refine zac (fun K hK r => ?_)
       simp only [zaC, l_copy, List.map_toArray, List.map_cons, List.map_nil, eX, ↓reduceIte, Nat.reduceEqDiff, Int.reduceToNat]
       simp only [Int.toNat_natCast]
       rw [if_neg (show ¬ cap = i by omega)]
       simp only [Option.map_some, zaA, Nat.zero_add]
       have hmn : Nat.min 1 (n + 1 - i) = 1 := Nat.min_eq_left (by omega)
       have nv0 : vb ≠ r0 := fun e => hne (by rw [hrs0]; exact congrArg some e.symm)
       refine Lt_copy (w := 2) (b := r0) (o := i * 2) (dLen := n + 1 - i) (n := 1) (cs := xs) Try.underlying33 sz38 _ (zap _ _ _) (by rw [putCells_size]; omega) (len_slice _ _ _) (fun Kx => ?_) (by rw [hmn, hx]) hxp (by decide) ?_
       ·rw [hmn]
        exact first_slice (w := 2) (n := 1) (cs := xs) ⟨by rw [hx], .inr ⟨vb, 0, 1, _, _, _, rfl, (zaE _ _ nv0).trans hvb, by simp [hx], by simp [hx]; rw [← hx]; simp⟩⟩ Kx
       rw [upd_upd]
       refine hK _ _ ?_; clear hK K
       refine zae ?_
       try simp only [Ex.thnH, Ex.inBlockH, ↓reduceIte, Nat.reduceEqDiff]
       refine hK20 _ _ ?_; try clear hK20 K20
       refine zad (fun K21 hK21 => ?_)
       refine zab ?_
       refine zag rfl ?_
       refine zao rfl ?_
       refine zae ?_
       try simp only [Ex.thnH, Ex.inBlockH, ↓reduceIte, Nat.reduceEqDiff]
       refine hK21 _ _ ?_; try clear hK21 K21
       refine zaV ?_
       try simp only [Ex.thnH, Ex.inBlockH, ↓reduceIte, Nat.reduceEqDiff]
       refine ⟨[_], ⟨rfl, trivial⟩, _, Le.refl _, some r0, ⟨?_, .inr ⟨r0, cap, _, ?_, zap _ _ _, by omega, by rw [putCells_size, putCells_size, hc0], ?_, rfl⟩⟩, fun r hr => by cases hr; exact .inl hrs0, fun b o hb hb2 => (zaE _ _ (fun e => hb2 (by rw [hrs0, e]))).trans hb⟩
       ·rw [List.length_append, List.length_append, hAl, hBl, hx]; omega
       ·rfl
       ·have hA0 : (c0.extract 0 (cs.take (i * 2)).length).toList = cs.take (i * 2) := by
         rw [hAl]
         conv => rhs; rw [← hx0]
         simp only [Array.toList_extract, List.extract_eq_take_drop, List.drop_zero, Nat.sub_zero, List.take_take]
         congr 1; omega
        have hp := put_back c0 (cs.take (i * 2)) xs (cs.drop (i * 2)) hA0 (by rw [hAl, hBl, hx]; omega)
        rw [hAl, hBl, hx, show i * 2 + 2 = (i + 1) * 2 from by omega, show (i + 1) * 2 + (n - i) * 2 = (n + 1) * 2 from by omega] at hp
        exact hp
     ·first
      |(exfalso; exact cnA c68; done)
      |skip
       exfalso
       exact cnA c68
       refine zaL ?_
       try simp only [Ex.thnH, Ex.inBlockH, ↓reduceIte, Nat.reduceEqDiff]
       refine hK17 _ _ ?_; try clear hK17 K17
       refine zad (fun K22 hK22 => ?_)
       refine zab ?_
       refine zag rfl ?_
       refine zag rfl ?_
       refine zac (fun K hK r => ?_)
       simp only [x_slice, Option.map_some, Option.map_none, eX, ↓reduceIte, Nat.reduceEqDiff, Int.reduceToNat]
       refine Lt_sliceS Try.underlying33 sz38 zaU zaU (bound_some ixA) bxA bxA bxA (by simp) ?_
       try simp only [zaA, Nat.mul_one, Nat.zero_add, Int.reduceToNat, Nat.reduceSub, Nat.reduceEqDiff, ↓reduceIte]
       try simp only [eX, ↓reduceIte, Nat.reduceEqDiff, Int.reduceToNat]
       refine hK _ _ ?_; clear hK K
       refine zag rfl ?_
       refine zac (fun K hK r => ?_)
       simp only [zaC, l_copy, List.map_toArray, List.map_cons, List.map_nil, eX, ↓reduceIte, Nat.reduceEqDiff, Int.reduceToNat]
       fail "left out: BUILTIN copy 33 slot 88"
end Go.Proofs.Ytjhohnbdhopllaa.HL
end
section
namespace Go.Proofs.Ytjhohnbdhopllaa.HL
open Go Go.Proofs
set_option linter.unusedSimpArgs false
set_option linter.unusedVariables false
attribute [local irreducible] Lt Lq CW OW TW CallH
set_option maxRecDepth 100000 in
set_option maxHeartbeats 4000000 in
theorem delE_ok (H : Hp) (v : Value) (n : Nat) (cs : List Value) (rs : Option Nat) (ho : OwnS H 38 2 v n cs rs) (i : Nat) (hi : i < n) (hn : n ≤ 1000000) (hcp : PlainL cs) : CallH Try.prog 50 #[v, .int .i64 i, .int .i64 ((i : Int) + 1)] H (fun v' H' => OwnS H' 38 2 v' (n - 1) (cs.take (i * 2) ++ cs.drop ((i + 1) * 2)) rs ∧ (∀ b o, H b = some o → rs ≠ some b → H' b = some o)) := by
 refine zaB (l := [_, _, _]) (rl := [.tmp 6]) (n := 33) Try.func50 rfl rfl rfl rfl rfl ?_
 simp only [envOf, Nat.reduceAdd]
 obtain ⟨a, cap, rfl⟩ := ho.holds.form
 have hnc := ho.capn
 have hcl := ho.1
 obtain ⟨r0, c0, rfl, hr0, hc0, hx0, hrs0⟩ := ho.blk (by omega)
 have hAl : (cs.take (i * 2)).length = i * 2 := by rw [List.length_take]; omega
 have hBl : (cs.drop ((i + 1) * 2)).length = (n - (i + 1)) * 2 := by rw [List.length_drop, Nat.sub_mul]; omega
 refine zad (fun K1 hK1 => ?_)
 refine zab ?_
 refine zao rfl ?_
 refine zae ?_
 try simp only [Ex.thnH, Ex.inBlockH, ↓reduceIte, Nat.reduceEqDiff]
 refine hK1 _ _ ?_; try clear hK1 K1
 refine zad (fun K2 hK2 => ?_)
 refine zab ?_
 refine zag rfl ?_
 refine zag rfl ?_
 refine zag rfl ?_
 refine zag rfl ?_
 refine zac (fun K hK r => ?_)
 simp only [zaC, l_len, List.map_toArray, List.map_cons, List.map_nil, zaF _ _ Try.underlying33, eX, ↓reduceIte, Nat.reduceEqDiff, Int.reduceToNat]
 refine hK _ _ ?_; clear hK K
 refine zac (fun K hK r => ?_)
 simp only [x_slice, Option.map_some, Option.map_none, eX, ↓reduceIte, Nat.reduceEqDiff, Int.reduceToNat]
 refine Lt_sliceS Try.underlying33 sz38 (bound_some ixA) (bound_some ixA) (bound_some ixA) bxA bxA bxA (by simp) ?_
 try simp only [zaA, Nat.mul_one, Nat.zero_add, Int.reduceToNat, Nat.reduceSub, Nat.reduceEqDiff, ↓reduceIte]
 try simp only [eX, ↓reduceIte, Nat.reduceEqDiff, Int.reduceToNat]
 refine hK _ _ ?_; clear hK K
 refine zae ?_
 try simp only [Ex.thnH, Ex.inBlockH, ↓reduceIte, Nat.reduceEqDiff]
 refine hK2 _ _ ?_; try clear hK2 K2
 refine zad (fun K3 hK3 => ?_)
 refine zad (fun K4 hK4 => ?_)
 refine zab ?_
 refine zag rfl ?_
 refine zag rfl ?_
 refine zac (fun K hK r => ?_)
 simp (disch := (first | omega | decide)) only [zaI, zaM, b_eql, zau, zaw, zat, zax, zas, zay, Bool.not_true, Bool.not_false, eX, ↓reduceIte, Nat.reduceEqDiff, Int.reduceToNat]
 refine hK _ _ ?_; clear hK K
 refine zae ?_
 try simp only [Ex.thnH, Ex.inBlockH, ↓reduceIte, Nat.reduceEqDiff]
 refine hK4 _ _ ?_; try clear hK4 K4
 refine zaH (fun r => rfl) (fun c16 => ?_) (fun c16 => ?_)
 ·exfalso; exact cnA c16
 refine zaL ?_
 try simp only [Ex.thnH, Ex.inBlockH, ↓reduceIte, Nat.reduceEqDiff]
 refine hK3 _ _ ?_; try clear hK3 K3
 refine zad (fun K5 hK5 => ?_)
 refine zab ?_
 refine zag rfl ?_
 refine zac (fun K hK r => ?_)
 simp only [zaC, l_len, List.map_toArray, List.map_cons, List.map_nil, zaF _ _ Try.underlying33, eX, ↓reduceIte, Nat.reduceEqDiff, Int.reduceToNat]
 refine hK _ _ ?_; clear hK K
 refine zao rfl ?_
 refine zae ?_
 try simp only [Ex.thnH, Ex.inBlockH, ↓reduceIte, Nat.reduceEqDiff]
 refine hK5 _ _ ?_; try clear hK5 K5
 refine zad (fun K6 hK6 => ?_)
 refine CW_drawO [0, 0, 0, 0, 0, 0, 3, 0] [0, 1, 2, 3, 4, 5, 6, 7] emptyHp (by kernel_rfl) (by kernel_rfl) (le_empty _) ?_
 apply zaf rfl (zaa (by decide)) rfl
 ·intro r
  simp only [zaq, eX, ↓reduceIte, Nat.reduceEqDiff]
  exact ⟨rfl, Le.refl _⟩
 simp only [eX, ↓reduceIte, Nat.reduceEqDiff, Int.reduceToNat]
 apply zaf rfl (zaa (by decide)) rfl
 ·intro r
  simp only [zaq, eX, ↓reduceIte, Nat.reduceEqDiff]
  exact ⟨rfl, Le.refl _⟩
 simp only [eX, ↓reduceIte, Nat.reduceEqDiff, Int.reduceToNat]
 apply zaf rfl (zaa (by decide)) rfl
 ·intro r
  simp only [x_slice, Option.map_some, Option.map_none, eX, ↓reduceIte, Nat.reduceEqDiff]
  refine Lt_sliceS Try.underlying33 sz38 zaU (bound_some ixA) zaU bxA bxA bxA (by simp) ?_
  try simp only [zaA, Nat.mul_one, Nat.zero_add, Int.reduceToNat, Nat.reduceSub, Nat.reduceEqDiff, ↓reduceIte]
  exact ⟨rfl, Le.refl _⟩
 simp only [eX, ↓reduceIte, Nat.reduceEqDiff, Int.reduceToNat]
 apply zaf rfl (zaa (by decide)) rfl
 ·intro r
  simp only [zaq, eX, ↓reduceIte, Nat.reduceEqDiff]
  exact ⟨rfl, Le.refl _⟩
 simp only [eX, ↓reduceIte, Nat.reduceEqDiff, Int.reduceToNat]
 apply zaf rfl (zaa (by decide)) rfl
 ·intro r
  simp only [zaq, eX, ↓reduceIte, Nat.reduceEqDiff]
  exact ⟨rfl, Le.refl _⟩
 simp only [eX, ↓reduceIte, Nat.reduceEqDiff, Int.reduceToNat]
 apply zaf rfl (zaa (by decide)) rfl
 ·intro r
  simp only [x_slice, Option.map_some, Option.map_none, eX, ↓reduceIte, Nat.reduceEqDiff]
  refine Lt_sliceS Try.underlying33 sz38 zaU zaU (bound_some ixA) bxA bxA bxA (by simp) ?_
  try simp only [zaA, Nat.mul_one, Nat.zero_add, Int.reduceToNat, Nat.reduceSub, Nat.reduceEqDiff, ↓reduceIte]
  exact ⟨rfl, Le.refl _⟩
 simp only [eX, ↓reduceIte, Nat.reduceEqDiff, Int.reduceToNat]
 refine TW_last rfl (zaa (by decide)) rfl (fun K hK r => ?_)
 simp only [zaC, l_append, List.map_toArray, List.map_cons, List.map_nil, eX, ↓reduceIte, Nat.reduceEqDiff, Int.reduceToNat]
 simp only [show ((i : Int) + 1).toNat = i + 1 from by omega, Int.toNat_natCast]
 rw [if_neg (show ¬ cap = 0 by omega)]
 simp only [Option.map_some, zaA, Nat.zero_mul, Nat.add_zero, Nat.sub_zero, Nat.zero_add]
 have hS : Holds H 2 (.slice (if cap = i + 1 then some ⟨r0, 0, none⟩ else some ⟨r0, (i + 1) * 2, none⟩) (n - (i + 1)) (cap - (i + 1))) (n - (i + 1)) (cs.drop ((i + 1) * 2)) := by
  by_cases hci : cap = i + 1
  ·rw [if_pos hci]
   have h0 : n - (i + 1) = 0 := by omega
   rw [h0] at hBl ⊢
   exact ⟨hBl.symm, .inl ⟨_, _, rfl, rfl⟩⟩
  ·rw [if_neg hci]
   refine ⟨hBl.symm, .inr ⟨r0, (i + 1) * 2, _, c0, _, _, rfl, hr0, by rw [hc0]; omega, ?_⟩⟩
   rw [← hx0]
   simp only [Array.toList_extract, List.extract_eq_take_drop, List.drop_zero, Nat.sub_zero, List.drop_take]
   congr 1; omega
 refine Lt_appendRoom (w := 2) (b := r0) (o := 0) (n := i) (cap := cap) (m := n - (i + 1)) (ds := cs.drop ((i + 1) * 2)) Try.underlying33 Try.underlying33 (by simp) sz38 _ hr0 (by rw [hc0]; omega) (len_slice _ _ _) (fun Kx => first_slice hS Kx) hBl.symm (fun z hz => hcp z (List.mem_of_mem_drop hz)) (by decide) (by omega) ?_
 rw [Nat.zero_add]
 refine hK _ _ ?_; clear hK K
 apply zaf rfl (zaa (by decide)) rfl
 ·intro r
  simp only [x_assign, eX, ↓reduceIte, Nat.reduceEqDiff]
  exact ⟨rfl, Le.refl _⟩
 simp only [eX, ↓reduceIte, Nat.reduceEqDiff, Int.reduceToNat]
 refine TW_nil ?_
 try simp only [Ex.thnH, Ex.inBlockH, ↓reduceIte, Nat.reduceEqDiff]
 refine hK6 _ _ ?_; try clear hK6 K6
 refine zad (fun K7 hK7 => ?_)
 refine zab ?_
 refine zag rfl ?_
 refine zag rfl ?_
 refine zac (fun K hK r => ?_)
 simp only [zaC, l_len, List.map_toArray, List.map_cons, List.map_nil, zaF _ _ Try.underlying33, eX, ↓reduceIte, Nat.reduceEqDiff, Int.reduceToNat]
 refine hK _ _ ?_; clear hK K
 refine zag rfl ?_
 refine zac (fun K hK r => ?_)
 simp only [x_slice, Option.map_some, Option.map_none, eX, ↓reduceIte, Nat.reduceEqDiff, Int.reduceToNat]
 refine Lt_sliceS Try.underlying33 sz38 zaU (bound_some ixA) (bound_some ixA) bxA bxA bxA (by simp) ?_
 try simp only [zaA, Nat.mul_one, Nat.zero_add, Int.reduceToNat, Nat.reduceSub, Nat.reduceEqDiff, ↓reduceIte]
 simp only [Int.toNat_natCast]
 rw [if_neg (show ¬ cap = i + (n - (i + 1)) by omega)]
 simp only [Option.map_some, zaA, Nat.zero_add]
 try simp only [eX, ↓reduceIte, Nat.reduceEqDiff, Int.reduceToNat]
 refine hK _ _ ?_; clear hK K
 refine OW_op rfl (lt_none) (fun K hK r => ?_)
 simp only [zaC, l_clear, List.map_toArray, List.map_cons, List.map_nil, eX, ↓reduceIte, Nat.reduceEqDiff, Int.reduceToNat]
 rw [show n - (i + (n - (i + 1))) = 1 from by omega]
 refine Lt_clear Try.underlying33 zr38 (by intro v hv; simp [Value.cells] at hv; first | (subst hv; rfl) | (rcases hv with rfl | rfl <;> rfl) | (rcases hv with rfl | rfl | rfl <;> rfl)) _ (zap _ _ _) (by omega) (by rw [putCells_size, hc0]; show _ + 1 * 2 ≤ _; omega) ?_
 rw [upd_upd]
 refine hK _ _ ?_; clear hK K
 refine zae ?_
 try simp only [Ex.thnH, Ex.inBlockH, ↓reduceIte, Nat.reduceEqDiff]
 refine hK7 _ _ ?_; try clear hK7 K7
 refine zad (fun K8 hK8 => ?_)
 refine zab ?_
 refine zag rfl ?_
 refine zao rfl ?_
 refine zae ?_
 try simp only [Ex.thnH, Ex.inBlockH, ↓reduceIte, Nat.reduceEqDiff]
 refine hK8 _ _ ?_; try clear hK8 K8
 refine zaV ?_
 try simp only [Ex.thnH, Ex.inBlockH, ↓reduceIte, Nat.reduceEqDiff]
 have hA0 : (c0.extract 0 (cs.take (i * 2)).length).toList = cs.take (i * 2) := by
  rw [hAl]
  conv => rhs; rw [← hx0]
  simp only [Array.toList_extract, List.extract_eq_take_drop, List.drop_zero, Nat.sub_zero, List.take_take]
  congr 1; omega
 refine ⟨[_], ⟨rfl, trivial⟩, _, Le.refl _, ⟨?_, .inr ⟨r0, cap, _, ?_, zap _ _ _, by omega, by rw [putCells_size, putCells_size, hc0], ?_, hrs0⟩⟩, fun b o hb hb2 => (zaE _ _ (fun e => hb2 (by rw [hrs0, e]))).trans hb⟩
 ·rw [List.length_append, hAl, hBl]; omega
 ·show Value.slice _ _ _ = _
  rw [show i + (n - (i + 1)) = n - 1 from by omega]
 ·rw [show (i + (n - (i + 1))) * 2 = i * 2 + (n - (i + 1)) * 2 from by omega]
  generalize hZ : (Builtin.zeroCells _ 1).toList = Z
  have hZl : Z.length = 2 := by rw [← hZ, Array.length_toList, zeroCells_size]; rfl
  have hp := put_out c0 (cs.take (i * 2)) (cs.drop ((i + 1) * 2)) Z hA0 (by rw [hAl, hBl, hc0, hZl]; omega)
  rw [hAl, hBl, show i * 2 + (n - (i + 1)) * 2 = (n - 1) * 2 from by omega] at hp
  rw [show i * 2 + (n - (i + 1)) * 2 = (n - 1) * 2 from by omega]
  exact hp
end Go.Proofs.Ytjhohnbdhopllaa.HL
end
section
namespace Go.Proofs.Ytjhohnbdhopllaa.HL
open Go Go.Proofs
set_option linter.unusedSimpArgs false
set_option linter.unusedVariables false
attribute [local irreducible] Lt Lq CW OW TW CallH
structure PS where
  s : Value
  m : Nat
  rs : Option Nat
  l : List En
def PtOk (H : Hp) (p : PS) : Prop := OwnS H 38 2 p.s p.l.length (ens p.l) p.rs ∧ (∃ es cc, H p.m = some (.map es cc) ∧ IntKeys es.toList ∧ KeysU es.toList ∧ ∀ k, getE es.toList k = lookE p.l k) ∧ GoodE p.l
theorem PtOk.ne {H : Hp} {p : PS} (h : PtOk H p) : p.rs ≠ some p.m := by
  obtain ⟨⟨_, ⟨_, _, h1⟩ | ⟨r, _, c, _, h1, _, _, _, h2⟩⟩, ⟨es, cc, h3, _⟩, _⟩ := h
  · rw [h1]; intro e; cases e
  · rw [h2]; intro e; cases e; rw [h1] at h3; cases h3
theorem PtOk.stay {H H' : Hp} {p : PS} (h : PtOk H p) (hk : ∀ x ob, H x = some ob → x = p.m ∨ p.rs = some x → H' x = some ob) : PtOk H' p := by
  obtain ⟨h1, ⟨es, cc, h2, h3⟩, h4⟩ := h
  exact ⟨h1.stay (fun b o hb ho => hk b o ho (.inr hb)), ⟨es, cc, hk _ _ h2 (.inl rfl), h3⟩, h4⟩
def PtStep (H H' : Hp) (b o : Nat) (c : Array Value) (T : TypeId) (p : PS) (l' : List En) : Prop := ∃ s' rs', H' b = some (.cells (c.setIfInBounds o s') T) ∧ PtOk H' ⟨s', p.m, rs', l'⟩ ∧ (∀ r, rs' = some r → p.rs = some r ∨ H r = none) ∧ ∀ x ob, H x = some ob → x ≠ b → x ≠ p.m → p.rs ≠ some x → H' x = some ob
theorem posE_mem {l : List En} {e : En} (hr : Rise l) : (posE l e < l.length ∧ cmpE (l.getD (posE l e) default) e = 0) ↔ e ∈ l := by
  constructor
  · rintro ⟨h1, h2⟩
    have := cmpE_zero.1 h2
    rw [← this, List.getD_eq_getElem?_getD, List.getElem?_eq_getElem h1]; exact List.getElem_mem h1
  · intro he
    obtain ⟨h1, h2⟩ := posE_in hr he
    exact ⟨h1, by rw [h2]; exact cmpE_zero.2 rfl⟩
theorem find_ok (H : Hp) (s : Value) (l : List En) (hv : Holds H 2 s l.length (ens l)) (hr : Rise l) (hn : l.length ≤ 1000000) (e : En) : CallH Try.prog 48 #[s, .agg #[.int .i64 e.v, .int .i64 e.k], .func (.func 49) #[] #[]] H (fun v H' => v = .tuple #[.int .i64 (posE l e), .bool (decide (e ∈ l))] ∧ H' = H) := by
  obtain ⟨a, cap, rfl⟩ := hv.form
  refine (bsfE_ok H a cap l.length (ens l) hv hn e (.func 49) #[] #[] (fun i => cmpE (l.getD i default) e) (posE l e) (posE_le l e) (fun k hk => cmpE_neg.2 (posE_below hk)) (fun k h1 h2 h3 => posE_above hr h1 h2 (cmpE_neg.1 h3)) (fun i hi K => ?_)).mono ?_
  · rw [ens_row hi]
    refine ValH_func bd49 ?_
    exact byValue_ok K (l.getD i default) e
  · rintro v H' ⟨rfl, rfl⟩
    refine ⟨?_, rfl⟩
    congr 4
    show Value.bool _ = Value.bool _
    congr 1
    exact decide_eq_decide.2 (posE_mem hr)
theorem setI_same {c : Array Value} {o : Nat} {v : Value} (h : c[o]? = some v) : c.setIfInBounds o v = c := by
  apply Array.ext_getElem?
  intro i
  rw [Array.getElem?_setIfInBounds]
  split
  · rename_i e; subst e
    rw [h]
    obtain ⟨hl, _⟩ := Array.getElem?_eq_some_iff.1 h
    rw [if_pos hl]
  · rfl
theorem lt_of_at {c : Array Value} {o : Nat} {v : Value} (h : c[o]? = some v) : o < c.size := by obtain ⟨hl, _⟩ := Array.getElem?_eq_some_iff.1 h; exact hl
theorem set_ne_at {c : Array Value} {o q : Nat} {v w : Value} (h : c[q]? = some w) (hne : o ≠ q) : (c.setIfInBounds o v)[q]? = some w := by rw [Array.getElem?_setIfInBounds, if_neg hne]; exact h
set_option maxRecDepth 100000 in
set_option maxHeartbeats 1000000 in
theorem drop_ok (H : Hp) (b o : Nat) (c : Array Value) (T : TypeId) (p : PS) (hb : H b = some (.cells c T)) (hs : c[o]? = some p.s) (hm : c[o + 1]? = some (.map (some p.m))) (hp : PtOk H p) (hnb : p.m ≠ b) (hnr : p.rs ≠ some b) (hn : p.l.length ≤ 100000) (k : Int) : CallH Try.prog 32 #[.pointer (some ⟨b, o, none⟩), .int .i64 k] H (fun v H' => v = .tuple #[] ∧ PtStep H H' b o c T p (outK p.l k)) := by
 refine zaB (l := [_, _]) (rl := []) (n := 46) Try.func32 rfl rfl rfl rfl rfl ?_
 simp only [envOf, Nat.reduceAdd]
 have hso := lt_of_at hs
 have hsm := lt_of_at hm
 obtain ⟨hO, ⟨es, cc, hE, hI, hU, hG⟩, hW⟩ := hp
 have hs0 : c[o + 0]? = some p.s := hs
 obtain ⟨lv, hlv⟩ : ∃ lv, lv = lookV p.l k := ⟨_, rfl⟩
 refine zad (fun K1 hK1 => ?_)
 refine zab ?_
 refine zag rfl ?_
 refine zac (fun K hK r => ?_)
 rw [zaT _ _ rfl]
 simp only [eX, ↓reduceIte, Nat.reduceEqDiff, Int.reduceToNat]
 refine hK _ _ ?_; clear hK K
 refine zac (fun K hK r => ?_)
 simp only [zah, fa71_1, zaA, Nat.reduceAdd, Nat.zero_add, eX, ↓reduceIte, Nat.reduceEqDiff, Int.reduceToNat]
 refine hK _ _ ?_; clear hK K
 refine zac (fun K hK r => ?_)
 simp only [zar, eX, ↓reduceIte, Nat.reduceEqDiff, Int.reduceToNat]
 refine zak Try.underlying69 rfl hbA ldA ?_
 try simp only [eX, ↓reduceIte, Nat.reduceEqDiff, Int.reduceToNat]
 refine hK _ _ ?_; clear hK K
 refine zag rfl ?_
 refine zac (fun K hK r => ?_)
 simp only [x_lookup, eX, ↓reduceIte, Nat.reduceEqDiff, Int.reduceToNat]
 refine Lt_lookup2 Try.underlying69 Try.underlying3 zr3 hbA hI ?_
 rw [hG]
 have hlk : lookE p.l k = lv.map (fun v => Value.int .i64 v) := by rw [hlv]; rfl
 rw [hlk]
 refine hK _ _ ?_; clear hK K
 refine zag rfl ?_
 refine zac (fun K hK r => ?_)
 simp only [x_extract, i_extract, List.getElem?_toArray, List.getElem?_cons_zero, List.getElem?_cons_succ, zai, eX, ↓reduceIte, Nat.reduceEqDiff, Int.reduceToNat]
 refine hK _ _ ?_; clear hK K
 refine zac (fun K hK r => ?_)
 simp only [x_extract, i_extract, List.getElem?_toArray, List.getElem?_cons_zero, List.getElem?_cons_succ, zai, eX, ↓reduceIte, Nat.reduceEqDiff, Int.reduceToNat]
 refine hK _ _ ?_; clear hK K
 refine zao rfl ?_
 refine zao rfl ?_
 refine zae ?_
 try simp only [Ex.thnH, Ex.inBlockH, ↓reduceIte, Nat.reduceEqDiff]
 refine hK1 _ _ ?_; try clear hK1 K1
 refine zad (fun K2 hK2 => ?_)
 refine zad (fun K3 hK3 => ?_)
 refine zab ?_
 refine zag rfl ?_
 refine zac (fun K hK r => ?_)
 simp only [x_un, u_not, eX, ↓reduceIte, Nat.reduceEqDiff, Int.reduceToNat]
 refine hK _ _ ?_; clear hK K
 refine zae ?_
 try simp only [Ex.thnH, Ex.inBlockH, ↓reduceIte, Nat.reduceEqDiff]
 refine hK3 _ _ ?_; try clear hK3 K3
 refine zaH (fun r => rfl) (fun c18 => ?_) (fun c18 => ?_)
 ·first
  |(exfalso; exact cnA c18; done)
  |skip
   have hv : lv = none := by rcases lv with _ | w <;> first | rfl | (simp at c18; done)
   subst hv
   refine zaV ?_
   try simp only [Ex.thnH, Ex.inBlockH, ↓reduceIte, Nat.reduceEqDiff]
   refine ⟨[], trivial, _, Le.refl _, rfl, p.s, p.rs, by rw [setI_same hs]; exact hb, ?_, fun r hr => .inl hr, fun x ob hx _ _ _ => hx⟩
   rw [outK_none hlv.symm]
   exact ⟨hO, ⟨es, cc, hE, hI, hU, hG⟩, hW⟩
 ·first
  |(exfalso; exact cnA c18; done)
  |skip
   obtain ⟨w, rfl⟩ : ∃ w, lv = some w := by rcases lv with _ | w <;> first | exact ⟨_, rfl⟩ | (simp at c18; done)
   have hmem : (⟨w, k⟩ : En) ∈ p.l := lookV_some hlv.symm
   obtain ⟨hpi, hpe⟩ := posE_in hW.rise hmem
   refine zaL ?_
   try simp only [Ex.thnH, Ex.inBlockH, ↓reduceIte, Nat.reduceEqDiff]
   refine hK2 _ _ ?_; try clear hK2 K2
   refine zad (fun K4 hK4 => ?_)
   refine zab ?_
   refine zag rfl ?_
   refine zac (fun K hK r => ?_)
   rw [zaT _ _ rfl]
   simp only [eX, ↓reduceIte, Nat.reduceEqDiff, Int.reduceToNat]
   refine hK _ _ ?_; clear hK K
   refine zac (fun K hK r => ?_)
   simp only [zah, fa71_0, zaA, Nat.reduceAdd, Nat.zero_add, eX, ↓reduceIte, Nat.reduceEqDiff, Int.reduceToNat]
   refine hK _ _ ?_; clear hK K
   refine zac (fun K hK r => ?_)
   simp only [zar, eX, ↓reduceIte, Nat.reduceEqDiff, Int.reduceToNat]
   refine zak Try.underlying33 rfl hbA ldA ?_
   try simp only [eX, ↓reduceIte, Nat.reduceEqDiff, Int.reduceToNat]
   refine hK _ _ ?_; clear hK K
   refine zag rfl ?_
   refine zag rfl ?_
   refine zac (fun K hK r => ?_)
   simp only [x_build, bp38, List.map_toArray, List.map_cons, List.map_nil, eX, ↓reduceIte, Nat.reduceEqDiff, Int.reduceToNat]
   rw [fill_one rfl clA bdA]
   rw [fill_one rfl clA bdA]
   simp only [fill_nil, zai, List.setIfInBounds_toArray, List.set_cons_zero, List.set_cons_succ]
   try simp only [eX, ↓reduceIte, Nat.reduceEqDiff, Int.reduceToNat]
   refine hK _ _ ?_; clear hK K
   refine zac (fun K hK r => ?_)
   simp only [zaQ _ bd48, List.map_toArray, List.map_cons, List.map_nil, eX, ↓reduceIte, Nat.reduceEqDiff, Int.reduceToNat]
   refine (find_ok _ p.s p.l hO.holds hW.rise (by omega) ⟨w, k⟩).mono ?_
   rintro v H' ⟨rfl, hq⟩
   have hq := hq.symm
   subst hq
   try simp only [eX, ↓reduceIte, Nat.reduceEqDiff, Int.reduceToNat]
   refine hK _ _ ?_; clear hK K
   refine zag rfl ?_
   refine zac (fun K hK r => ?_)
   simp only [x_extract, i_extract, List.getElem?_toArray, List.getElem?_cons_zero, List.getElem?_cons_succ, zai, eX, ↓reduceIte, Nat.reduceEqDiff, Int.reduceToNat]
   refine hK _ _ ?_; clear hK K
   refine zac (fun K hK r => ?_)
   simp only [x_extract, i_extract, List.getElem?_toArray, List.getElem?_cons_zero, List.getElem?_cons_succ, zai, eX, ↓reduceIte, Nat.reduceEqDiff, Int.reduceToNat]
   refine hK _ _ ?_; clear hK K
   refine zao rfl ?_
   refine zao rfl ?_
   refine zae ?_
   try simp only [Ex.thnH, Ex.inBlockH, ↓reduceIte, Nat.reduceEqDiff]
   refine hK4 _ _ ?_; try clear hK4 K4
   refine zad (fun K5 hK5 => ?_)
   refine zab ?_
   refine zag rfl ?_
   refine zag rfl ?_
   refine zac (fun K hK r => ?_)
   rw [zaT _ _ rfl]
   simp only [eX, ↓reduceIte, Nat.reduceEqDiff, Int.reduceToNat]
   refine hK _ _ ?_; clear hK K
   refine zac (fun K hK r => ?_)
   simp only [zah, fa71_0, zaA, Nat.reduceAdd, Nat.zero_add, eX, ↓reduceIte, Nat.reduceEqDiff, Int.reduceToNat]
   refine hK _ _ ?_; clear hK K
   refine zac (fun K hK r => ?_)
   simp only [zar, eX, ↓reduceIte, Nat.reduceEqDiff, Int.reduceToNat]
   refine zak Try.underlying33 rfl hbA ldA ?_
   try simp only [eX, ↓reduceIte, Nat.reduceEqDiff, Int.reduceToNat]
   refine hK _ _ ?_; clear hK K
   refine zag rfl ?_
   refine zag rfl ?_
   refine zac (fun K hK r => ?_)
   simp (disch := (first | omega | decide)) only [zaI, zaM, b_add, zaG, zaK, zaJ, zaR, eX, ↓reduceIte, Nat.reduceEqDiff, Int.reduceToNat]
   refine hK _ _ ?_; clear hK K
   refine zac (fun K hK r => ?_)
   simp only [zaQ _ bd50, List.map_toArray, List.map_cons, List.map_nil, eX, ↓reduceIte, Nat.reduceEqDiff, Int.reduceToNat]
   refine (delE_ok _ p.s p.l.length (ens p.l) p.rs hO (posE p.l ⟨w, k⟩) hpi (by omega) (ens_plain _)).mono ?_
   rintro s3 H3 ⟨ho3, hk3⟩
   have hb3 := hk3 _ _ hb hnr
   have hm3 := hk3 _ _ hE (PtOk.ne ⟨hO, ⟨es, cc, hE, hI, hU, hG⟩, hW⟩)
   rw [ens_take, ens_drop, ← ens_app] at ho3
   have hps3 : plainCell s3 = true := by obtain ⟨_, _, e⟩ := ho3.holds.form; rw [e]; rfl
   try simp only [eX, ↓reduceIte, Nat.reduceEqDiff, Int.reduceToNat]
   refine hK _ _ ?_; clear hK K
   refine zac (fun K hK r => ?_)
   rw [zaT _ _ rfl]
   simp only [eX, ↓reduceIte, Nat.reduceEqDiff, Int.reduceToNat]
   refine hK _ _ ?_; clear hK K
   refine zac (fun K hK r => ?_)
   simp only [zah, fa71_0, zaA, Nat.reduceAdd, Nat.zero_add, eX, ↓reduceIte, Nat.reduceEqDiff, Int.reduceToNat]
   refine hK _ _ ?_; clear hK K
   refine OW_op rfl (lt_none) (fun K hK r => ?_)
   simp only [x_store, eX, ↓reduceIte, Nat.reduceEqDiff, Int.reduceToNat]
   refine Lt_storeAt1 sz33 hbA bdA plA fzA ?_
   try simp only [setL0, setL1, setL2, setL3, setL4, setL5, setL6, setL7, setL8, setL9]
   try simp only [eX, ↓reduceIte, Nat.reduceEqDiff, Int.reduceToNat]
   refine hK _ _ ?_; clear hK K
   refine zae ?_
   try simp only [Ex.thnH, Ex.inBlockH, ↓reduceIte, Nat.reduceEqDiff]
   refine hK5 _ _ ?_; try clear hK5 K5
   refine zab ?_
   refine zag rfl ?_
   refine zac (fun K hK r => ?_)
   rw [zaT _ _ rfl]
   simp only [eX, ↓reduceIte, Nat.reduceEqDiff, Int.reduceToNat]
   refine hK _ _ ?_; clear hK K
   refine zac (fun K hK r => ?_)
   simp only [zah, fa71_1, zaA, Nat.reduceAdd, Nat.zero_add, eX, ↓reduceIte, Nat.reduceEqDiff, Int.reduceToNat]
   refine hK _ _ ?_; clear hK K
   refine zac (fun K hK r => ?_)
   simp only [zar, eX, ↓reduceIte, Nat.reduceEqDiff, Int.reduceToNat]
   refine zak Try.underlying69 rfl (zap _ _ _) (set_ne_at hm (by omega)) ?_
   refine hK _ _ ?_; clear hK K
   refine zag rfl ?_
   refine OW_op rfl (lt_none) (fun K hK r => ?_)
   simp only [zaC, l_delete, List.map_toArray, List.map_cons, List.map_nil, eX, ↓reduceIte, Nat.reduceEqDiff, Int.reduceToNat]
   refine Lt_deleteI Try.underlying69 Try.underlying3 _ _ rfl (by rw [zaE _ _ hnb]; exact hm3) hI hU ?_
   intro es9 hi9 hu9 hg9
   refine hK _ _ ?_; clear hK K
   refine zae ?_
   try simp only [Ex.thnH, Ex.inBlockH, ↓reduceIte, Nat.reduceEqDiff]
   have hol : outE p.l (posE p.l ⟨w, k⟩) = outK p.l k := outE_eq hW hmem
   have hsl := outE_sub p.l (posE p.l ⟨w, k⟩)
   have hle : (outE p.l (posE p.l ⟨w, k⟩)).length = p.l.length - 1 := by unfold outE; rw [List.length_append, List.length_take, List.length_drop]; omega
   refine ⟨[], trivial, _, Le.refl _, rfl, s3, p.rs, ?_, ⟨?_, ⟨es9, cc, zap _ _ _, hi9, hu9, fun x => ?_⟩, hW.outK k⟩, fun r hr => .inl hr, fun x ob hx h1 h2 h3 => ?_⟩
   ·rw [zaE _ _ (Ne.symm hnb), zap]; rfl
   ·refine OwnS.upd (OwnS.upd ?_ hnr) (PtOk.ne ⟨hO, ⟨es, cc, hE, hI, hU, hG⟩, hW⟩)
    show OwnS _ _ 2 s3 (outK p.l k).length (ens (outK p.l k)) p.rs
    rw [← hol, hle]
    exact ho3
   ·rw [hg9, hG]
    unfold lookE
    rw [look_outK hW]
    split <;> rfl
   ·rw [zaE _ _ h2, zaE _ _ h1]
    exact hk3 _ _ hx h3
set_option maxRecDepth 100000 in
set_option maxHeartbeats 1000000 in
theorem put_ok (H : Hp) (b o : Nat) (c : Array Value) (T : TypeId) (p : PS) (hb : H b = some (.cells c T)) (hs : c[o]? = some p.s) (hm : c[o + 1]? = some (.map (some p.m))) (hp : PtOk H p) (hnb : p.m ≠ b) (hnr : p.rs ≠ some b) (hn : p.l.length ≤ 100000) (e : En) (hne : ∀ x ∈ p.l, x.k ≠ e.k) : CallH Try.prog 33 #[.pointer (some ⟨b, o, none⟩), .agg #[.int .i64 e.v, .int .i64 e.k]] H (fun v H' => v = .tuple #[] ∧ PtStep H H' b o c T p (putE p.l e)) := by
 refine zaB (l := [_, _]) (rl := []) (n := 34) Try.func33 rfl rfl rfl rfl rfl ?_
 simp only [envOf, Nat.reduceAdd]
 have hso := lt_of_at hs
 have hsm := lt_of_at hm
 obtain ⟨hO, ⟨es, cc, hE, hI, hU, hG⟩, hW⟩ := hp
 have hs0 : c[o + 0]? = some p.s := hs
 refine zad (fun K1 hK1 => ?_)
 refine zab ?_
 refine zac (fun K hK r => ?_)
 simp only [x_box, Value.cells, eX, ↓reduceIte, Nat.reduceEqDiff, Int.reduceToNat]
 intro b3 hb3
 have f3_H : H b3 = none := zaj lhA hb3
 try simp only [eX, ↓reduceIte, Nat.reduceEqDiff, Int.reduceToNat]
 refine hK _ _ ?_; clear hK K
 refine zae ?_
 try simp only [Ex.thnH, Ex.inBlockH, ↓reduceIte, Nat.reduceEqDiff]
 refine hK1 _ _ ?_; try clear hK1 K1
 refine zad (fun K2 hK2 => ?_)
 obtain ⟨R1, hR1⟩ : ∃ R : Hp, R = H.upd b3 (.cells #[.int .i64 e.v, .int .i64 e.k] 38) := ⟨_, rfl⟩
 refine CW_drawR [0, 0, 0, 1, 1, 3, 0, 0, 0, 0, 0] [0, 1, 2, 3, 4, 5, 6, 7, 8, 9, 10] R1 (by kernel_rfl) (by kernel_rfl) (by subst hR1; exact Le.refl _) (fun lR1 => ?_)
 have hRb1 : R1 b = some (.cells c T) := by rw [hR1, zaE _ _ (zaz hb f3_H)]; exact hb
 have hR31 : R1 b3 = some (.cells #[.int .i64 e.v, .int .i64 e.k] 38) := by rw [hR1]; exact zap _ _ _
 apply zaf rfl (zaa (by decide)) rfl
 ·intro r
  simp only [zaq, eX, ↓reduceIte, Nat.reduceEqDiff]
  exact ⟨rfl, Le.refl _⟩
 simp only [eX, ↓reduceIte, Nat.reduceEqDiff, Int.reduceToNat]
 apply zaf rfl (zaa (by decide)) rfl
 ·intro r
  rw [zaT _ _ rfl]
  exact ⟨rfl, Le.refl _⟩
 simp only [eX, ↓reduceIte, Nat.reduceEqDiff, Int.reduceToNat]
 apply zaf rfl (zaa (by decide)) rfl
 ·intro r
  simp only [zah, fa71_0, zaA, Nat.reduceAdd, Nat.zero_add, eX, ↓reduceIte, Nat.reduceEqDiff]
  exact ⟨rfl, Le.refl _⟩
 simp only [eX, ↓reduceIte, Nat.reduceEqDiff, Int.reduceToNat]
 apply zaW rfl (zaa (by decide)) rfl
 ·intro r
  simp only [zar, eX, ↓reduceIte, Nat.reduceEqDiff]
  refine zak Try.underlying33 rfl hbA ldA ?_
  exact ⟨rfl, Le.refl _⟩
 simp only [eX, ↓reduceIte, Nat.reduceEqDiff, Int.reduceToNat]
 apply zaW rfl (zaa (by decide)) rfl
 ·intro r
  simp only [zar, eX, ↓reduceIte, Nat.reduceEqDiff]
  first | refine Lt_loadAll Try.underlying38 rfl sz38 hbA bdA ?_ | refine zaS Try.underlying38 rfl sz38 hbA bdA ?_
  try simp only [List.extract_toArray, List.extract_eq_take_drop, Nat.zero_add, Nat.reduceAdd, Nat.reduceSub, Nat.sub_zero, List.drop_succ_cons, List.drop_zero, List.take_succ_cons, List.take_zero, List.take_nil, List.drop_nil]
  exact ⟨rfl, Le.refl _⟩
 simp only [eX, ↓reduceIte, Nat.reduceEqDiff, Int.reduceToNat]
 refine TW_last rfl (zaa (by decide)) rfl (fun K hK r => ?_)
 simp only [zaQ _ bd48, List.map_toArray, List.map_cons, List.map_nil, eX, ↓reduceIte, Nat.reduceEqDiff, Int.reduceToNat]
 refine (find_ok _ p.s p.l (hO.holds.le lhA) hW.rise (by omega) e).mono ?_
 rintro v H' ⟨rfl, hq⟩
 have hq := hq.symm
 subst hq
 try simp only [eX, ↓reduceIte, Nat.reduceEqDiff, Int.reduceToNat]
 refine hK _ _ ?_; clear hK K
 apply zaf rfl (zaa (by decide)) rfl
 ·intro r
  simp only [zaq, eX, ↓reduceIte, Nat.reduceEqDiff]
  exact ⟨rfl, Le.refl _⟩
 simp only [eX, ↓reduceIte, Nat.reduceEqDiff, Int.reduceToNat]
 apply zaf rfl (zaa (by decide)) rfl
 ·intro r
  simp only [x_extract, i_extract, List.getElem?_toArray, List.getElem?_cons_zero, List.getElem?_cons_succ, zai, eX, ↓reduceIte, Nat.reduceEqDiff]
  exact ⟨rfl, Le.refl _⟩
 simp only [eX, ↓reduceIte, Nat.reduceEqDiff, Int.reduceToNat]
 apply zaf rfl (zaa (by decide)) rfl
 ·intro r
  simp only [x_extract, i_extract, List.getElem?_toArray, List.getElem?_cons_zero, List.getElem?_cons_succ, zai, eX, ↓reduceIte, Nat.reduceEqDiff]
  exact ⟨rfl, Le.refl _⟩
 simp only [eX, ↓reduceIte, Nat.reduceEqDiff, Int.reduceToNat]
 apply zaf rfl (zaa (by decide)) rfl
 ·intro r
  simp only [x_assign, eX, ↓reduceIte, Nat.reduceEqDiff]
  exact ⟨rfl, Le.refl _⟩
 simp only [eX, ↓reduceIte, Nat.reduceEqDiff, Int.reduceToNat]
 apply zaf rfl (zaa (by decide)) rfl
 ·intro r
  simp only [x_assign, eX, ↓reduceIte, Nat.reduceEqDiff]
  exact ⟨rfl, Le.refl _⟩
 simp only [eX, ↓reduceIte, Nat.reduceEqDiff, Int.reduceToNat]
 refine TW_nil ?_
 try simp only [Ex.thnH, Ex.inBlockH, ↓reduceIte, Nat.reduceEqDiff]
 refine hK2 _ _ ?_; try clear hK2 K2
 refine zad (fun K3 hK3 => ?_)
 obtain ⟨R2, hR2⟩ : ∃ R : Hp, R = (emptyHp.upd b (.cells c T)).upd b3 (.cells #[.int .i64 e.v, .int .i64 e.k] 38) := ⟨_, rfl⟩
 refine CW_drawR [0, 0, 0, 0, 1, 0, 1, 2, 2, 0, 0, 3] [0, 1, 2, 3, 4, 5, 6, 7, 8, 9, 10, 11] R2 (by kernel_rfl) (by kernel_rfl) (by subst hR2; exact le_put (le_put (le_empty _) (by rw [zaE _ _ (zaz hb f3_H)]; exact hb)) (zap _ _ _)) (fun lR2 => ?_)
 have hRb2 : R2 b = some (.cells c T) := by rw [hR2, zaE _ _ (zaz hb f3_H)]; exact zap _ _ _
 have hR32 : R2 b3 = some (.cells #[.int .i64 e.v, .int .i64 e.k] 38) := by rw [hR2]; exact zap _ _ _
 apply zaf rfl (zaa (by decide)) rfl
 ·intro r
  simp only [zaq, eX, ↓reduceIte, Nat.reduceEqDiff]
  exact ⟨rfl, Le.refl _⟩
 simp only [eX, ↓reduceIte, Nat.reduceEqDiff, Int.reduceToNat]
 apply zaf rfl (zaa (by decide)) rfl
 ·intro r
  simp only [zaq, eX, ↓reduceIte, Nat.reduceEqDiff]
  exact ⟨rfl, Le.refl _⟩
 simp only [eX, ↓reduceIte, Nat.reduceEqDiff, Int.reduceToNat]
 apply zaf rfl (zaa (by decide)) rfl
 ·intro r
  rw [zaT _ _ rfl]
  exact ⟨rfl, Le.refl _⟩
 simp only [eX, ↓reduceIte, Nat.reduceEqDiff, Int.reduceToNat]
 apply zaf rfl (zaa (by decide)) rfl
 ·intro r
  simp only [zah, fa71_0, zaA, Nat.reduceAdd, Nat.zero_add, eX, ↓reduceIte, Nat.reduceEqDiff]
  exact ⟨rfl, Le.refl _⟩
 simp only [eX, ↓reduceIte, Nat.reduceEqDiff, Int.reduceToNat]
 apply zaW rfl (zaa (by decide)) rfl
 ·intro r
  simp only [zar, eX, ↓reduceIte, Nat.reduceEqDiff]
  refine zak Try.underlying33 rfl hbA ldA ?_
  exact ⟨rfl, Le.refl _⟩
 simp only [eX, ↓reduceIte, Nat.reduceEqDiff, Int.reduceToNat]
 apply zaf rfl (zaa (by decide)) rfl
 ·intro r
  simp only [zaq, eX, ↓reduceIte, Nat.reduceEqDiff]
  exact ⟨rfl, Le.refl _⟩
 simp only [eX, ↓reduceIte, Nat.reduceEqDiff, Int.reduceToNat]
 apply zaW rfl (zaa (by decide)) rfl
 ·intro r
  simp only [zar, eX, ↓reduceIte, Nat.reduceEqDiff]
  first | refine Lt_loadAll Try.underlying38 rfl sz38 hbA bdA ?_ | refine zaS Try.underlying38 rfl sz38 hbA bdA ?_
  try simp only [List.extract_toArray, List.extract_eq_take_drop, Nat.zero_add, Nat.reduceAdd, Nat.reduceSub, Nat.sub_zero, List.drop_succ_cons, List.drop_zero, List.take_succ_cons, List.take_zero, List.take_nil, List.drop_nil]
  exact ⟨rfl, Le.refl _⟩
 simp only [eX, ↓reduceIte, Nat.reduceEqDiff, Int.reduceToNat]
 refine TW_chain rfl (zaa (by decide)) rfl (fun K hK r => ?_)
 simp only [x_buildSlice, List.map_toArray, List.map_cons, List.map_nil, eX, ↓reduceIte, Nat.reduceEqDiff, Int.reduceToNat]
 refine Lt_buildSlice (vs := [_]) Try.underlying33 sz38 zr38 rfl bsA (by first | decide | (simp; done)) ?_
 simp only [List.flatMap_cons, List.flatMap_nil, Value.cells, List.append_nil, List.cons_append, List.nil_append, List.length_cons, List.length_nil, Nat.zero_add, Nat.reduceAdd]
 intro b22 hb22
 try have n22_b3 : b3 ≠ b22 := zaz hbA hb22
 have f22_H : H b22 = none := zaj lhA hb22
 have f22_R1 : R1 b22 = none := zaj lhA hb22
 have f22_R2 : R2 b22 = none := zaj lhA hb22
 try simp only [eX, ↓reduceIte, Nat.reduceEqDiff, Int.reduceToNat]
 refine hK _ _ leA ?_; clear hK K
 refine TW_chain rfl (zaa (by decide)) rfl (fun K hK r => ?_)
 simp only [zaQ _ bd51, List.map_toArray, List.map_cons, List.map_nil, eX, ↓reduceIte, Nat.reduceEqDiff, Int.reduceToNat]
 refine (insE_ok _ p.s p.l.length (ens p.l) p.rs (hO.le lhA) (posE p.l e) (posE_le _ _) (by omega) b22 e.c hbA rfl (by intro z hz; simp at hz; rcases hz with rfl | rfl <;> rfl) (ens_plain _) (hO.ne_fresh f22_H)).mono ?_
 rintro s3 H3 ⟨rs3, ho3, hr3, hk3⟩
 have l22 : Le H ((H.upd b3 (.cells #[.int .i64 e.v, .int .i64 e.k] 38)).upd b22 (.cells #[.int .i64 e.v, .int .i64 e.k] 38)) := lhA
 have hb3 := hk3 _ _ (l22 _ _ hb) hnr
 have hm3 := hk3 _ _ (l22 _ _ hE) (PtOk.ne ⟨hO, ⟨es, cc, hE, hI, hU, hG⟩, hW⟩)
 have hx3 := hk3 b3 _ hbA (hO.ne_fresh f3_H)
 rw [ens_take, ens_drop, show e.c = ens [e] from by simp [ens], ← ens_app, ← ens_app] at ho3
 have hps3 : plainCell s3 = true := by obtain ⟨_, _, q⟩ := ho3.holds.form; rw [q]; rfl
 have lR2n : Le R2 H3 := by rw [hR2]; exact le_put (le_put (le_empty _) hb3) hx3
 try simp only [eX, ↓reduceIte, Nat.reduceEqDiff, Int.reduceToNat]
 refine hK _ _ leA ?_; clear hK K
 apply zaf rfl (zaa (by decide)) rfl
 ·intro r
  rw [zaT _ _ rfl]
  exact ⟨rfl, Le.refl _⟩
 simp only [eX, ↓reduceIte, Nat.reduceEqDiff, Int.reduceToNat]
 apply zaf rfl (zaa (by decide)) rfl
 ·intro r
  simp only [zah, fa71_0, zaA, Nat.reduceAdd, Nat.zero_add, eX, ↓reduceIte, Nat.reduceEqDiff]
  exact ⟨rfl, Le.refl _⟩
 simp only [eX, ↓reduceIte, Nat.reduceEqDiff, Int.reduceToNat]
 refine TW_last rfl (lt_none) rfl (fun K hK r => ?_)
 simp only [x_store, eX, ↓reduceIte, Nat.reduceEqDiff, Int.reduceToNat]
 refine Lt_storeAt1 sz33 hbA bdA plA fzA ?_
 try simp only [setL0, setL1, setL2, setL3, setL4, setL5, setL6, setL7, setL8, setL9]
 try simp only [eX, ↓reduceIte, Nat.reduceEqDiff, Int.reduceToNat]
 refine hK _ _ ?_; clear hK K
 refine TW_nil ?_
 try simp only [Ex.thnH, Ex.inBlockH, ↓reduceIte, Nat.reduceEqDiff]
 refine hK3 _ _ ?_; try clear hK3 K3
 obtain ⟨R3, hR3⟩ : ∃ R : Hp, R = H3.upd b (.cells (c.setIfInBounds (o + 0) s3) T) := ⟨_, rfl⟩
 refine CW_drawR [0, 0, 0, 1, 0, 1, 0, 1, 3] [0, 1, 2, 3, 4, 5, 6, 7, 8] R3 (by kernel_rfl) (by kernel_rfl) (by subst hR3; exact Le.refl _) (fun lR3 => ?_)
 have hRb3 : R3 b = some (.cells (c.setIfInBounds (o + 0) s3) T) := by rw [hR3]; exact zap _ _ _
 have hR33 : R3 b3 = some (.cells #[.int .i64 e.v, .int .i64 e.k] 38) := by rw [hR3, zaE _ _ (Ne.symm (zaz hb f3_H))]; exact hx3
 apply zaf rfl (zaa (by decide)) rfl
 ·intro r
  simp only [zaq, eX, ↓reduceIte, Nat.reduceEqDiff]
  exact ⟨rfl, Le.refl _⟩
 simp only [eX, ↓reduceIte, Nat.reduceEqDiff, Int.reduceToNat]
 apply zaf rfl (zaa (by decide)) rfl
 ·intro r
  rw [zaT _ _ rfl]
  exact ⟨rfl, Le.refl _⟩
 simp only [eX, ↓reduceIte, Nat.reduceEqDiff, Int.reduceToNat]
 apply zaf rfl (zaa (by decide)) rfl
 ·intro r
  simp only [zah, fa71_1, zaA, Nat.reduceAdd, Nat.zero_add, eX, ↓reduceIte, Nat.reduceEqDiff]
  exact ⟨rfl, Le.refl _⟩
 simp only [eX, ↓reduceIte, Nat.reduceEqDiff, Int.reduceToNat]
 apply zaW rfl (zaa (by decide)) rfl
 ·intro r
  simp only [zar, eX, ↓reduceIte, Nat.reduceEqDiff]
  refine zak Try.underlying69 rfl hRb3 (set_ne_at hm (by omega)) ?_
  exact ⟨rfl, Le.refl _⟩
 simp only [eX, ↓reduceIte, Nat.reduceEqDiff, Int.reduceToNat]
 apply zaf rfl (zaa (by decide)) rfl
 ·intro r
  simp only [zah, fa38_1, zaA, Nat.reduceAdd, Nat.zero_add, eX, ↓reduceIte, Nat.reduceEqDiff]
  exact ⟨rfl, Le.refl _⟩
 simp only [eX, ↓reduceIte, Nat.reduceEqDiff, Int.reduceToNat]
 apply zaW rfl (zaa (by decide)) rfl
 ·intro r
  simp only [zar, eX, ↓reduceIte, Nat.reduceEqDiff]
  refine zak Try.underlying3 rfl hbA ldA ?_
  exact ⟨rfl, Le.refl _⟩
 simp only [eX, ↓reduceIte, Nat.reduceEqDiff, Int.reduceToNat]
 apply zaf rfl (zaa (by decide)) rfl
 ·intro r
  simp only [zah, fa38_0, zaA, Nat.reduceAdd, Nat.zero_add, eX, ↓reduceIte, Nat.reduceEqDiff]
  exact ⟨rfl, Le.refl _⟩
 simp only [eX, ↓reduceIte, Nat.reduceEqDiff, Int.reduceToNat]
 apply zaW rfl (zaa (by decide)) rfl
 ·intro r
  simp only [zar, eX, ↓reduceIte, Nat.reduceEqDiff]
  refine zak Try.underlying3 rfl hbA ldA ?_
  exact ⟨rfl, Le.refl _⟩
 simp only [eX, ↓reduceIte, Nat.reduceEqDiff, Int.reduceToNat]
 refine TW_last rfl (lt_none) rfl (fun K hK r => ?_)
 simp only [x_mapUpdate, eX, ↓reduceIte, Nat.reduceEqDiff, Int.reduceToNat]
 refine Lt_mapUpdateU Try.underlying69 Try.underlying3 (by rw [zaE _ _ hnb]; exact hm3) hI hU ?_
 intro es9 c9 hi9 hu9 hg9
 refine hK _ _ ?_; clear hK K
 refine TW_nil ?_
 try simp only [Ex.thnH, Ex.inBlockH, ↓reduceIte, Nat.reduceEqDiff]
 have hpl := putE_len p.l e
 refine ⟨[], trivial, _, Le.refl _, rfl, s3, rs3, ?_, ⟨?_, ⟨es9, c9, zap _ _ _, hi9, hu9, fun x => ?_⟩, hW.putE hne⟩, fun r hr => ?_, fun x ob hx h1 h2 h3 => ?_⟩
 ·rw [zaE _ _ (Ne.symm hnb), zap]; rfl
 ·have h9 : OwnS H3 38 2 s3 (putE p.l e).length (ens (putE p.l e)) rs3 := by rw [hpl]; unfold putE; rw [show p.l.take (posE p.l e) ++ e :: p.l.drop (posE p.l e) = p.l.take (posE p.l e) ++ [e] ++ p.l.drop (posE p.l e) from by simp]; exact ho3
  refine OwnS.upd (OwnS.upd h9 ?_) ?_
  ·intro hh
   rcases hr3 b hh with h8 | h8
   ·exact hnr h8
   ·rw [l22 _ _ hb] at h8; cases h8
  ·intro hh
   rcases hr3 _ hh with h8 | h8
   ·exact PtOk.ne ⟨hO, ⟨es, cc, hE, hI, hU, hG⟩, hW⟩ h8
   ·rw [l22 _ _ hE] at h8; cases h8
 ·rw [hg9, hG]
  unfold lookE
  rw [look_putE hW hne]
  split <;> rfl
 ·rcases hr3 _ hr with h8 | h8
  ·exact .inl h8
  ·refine .inr ?_
   cases hx : H r with
   |none => rfl
   |some ob => rw [l22 _ _ hx] at h8; cases h8
 ·rw [zaE _ _ h2, zaE _ _ h1]
  exact hk3 _ _ (l22 _ _ hx) h3
set_option maxRecDepth 100000 in
set_option maxHeartbeats 1000000 in
theorem from_ok (H : Hp) (b o : Nat) (c : Array Value) (T : TypeId) (p : PS) (hb : H b = some (.cells c T)) (hs : c[o]? = some p.s) (hO : Holds H 2 p.s p.l.length (ens p.l)) (hW : Rise p.l) (hn : p.l.length ≤ 100000) (v : Int) : CallH Try.prog 37 #[.pointer (some ⟨b, o, none⟩), .int .i64 v] H (fun x H' => x = .int .i64 (fromN p.l v) ∧ H' = H) := by
 refine zaB (l := [_, _]) (rl := [.tmp 4]) (n := 18) Try.func37 rfl rfl rfl rfl rfl ?_
 simp only [envOf, Nat.reduceAdd]
 have hs0 : c[o + 0]? = some p.s := hs
 refine zad (fun K1 hK1 => ?_)
 refine zab ?_
 refine zao rfl ?_
 refine zae ?_
 try simp only [Ex.thnH, Ex.inBlockH, ↓reduceIte, Nat.reduceEqDiff]
 refine hK1 _ _ ?_; try clear hK1 K1
 refine zad (fun K2 hK2 => ?_)
 refine zab ?_
 refine zag rfl ?_
 refine zac (fun K hK r => ?_)
 rw [zaT _ _ rfl]
 simp only [eX, ↓reduceIte, Nat.reduceEqDiff, Int.reduceToNat]
 refine hK _ _ ?_; clear hK K
 refine zac (fun K hK r => ?_)
 simp only [zah, fa71_0, zaA, Nat.reduceAdd, Nat.zero_add, eX, ↓reduceIte, Nat.reduceEqDiff, Int.reduceToNat]
 refine hK _ _ ?_; clear hK K
 refine zac (fun K hK r => ?_)
 simp only [zar, eX, ↓reduceIte, Nat.reduceEqDiff, Int.reduceToNat]
 refine zak Try.underlying33 rfl hbA ldA ?_
 try simp only [eX, ↓reduceIte, Nat.reduceEqDiff, Int.reduceToNat]
 refine hK _ _ ?_; clear hK K
 refine zag rfl ?_
 refine zac (fun K hK r => ?_)
 simp only [x_build, bp38, List.map_toArray, List.map_cons, List.map_nil, eX, ↓reduceIte, Nat.reduceEqDiff, Int.reduceToNat]
 rw [fill_one rfl clA bdA]
 rw [fill_one rfl clA bdA]
 simp only [fill_nil, zai, List.setIfInBounds_toArray, List.set_cons_zero, List.set_cons_succ]
 try simp only [eX, ↓reduceIte, Nat.reduceEqDiff, Int.reduceToNat]
 refine hK _ _ ?_; clear hK K
 refine zac (fun K hK r => ?_)
 simp only [zaQ _ bd48, List.map_toArray, List.map_cons, List.map_nil, eX, ↓reduceIte, Nat.reduceEqDiff, Int.reduceToNat]
 refine (find_ok _ p.s p.l hO hW (by omega) ⟨v, -9223372036854775808⟩).mono ?_
 rintro v H' ⟨rfl, hq⟩
 have hq := hq.symm
 subst hq
 try simp only [eX, ↓reduceIte, Nat.reduceEqDiff, Int.reduceToNat]
 refine hK _ _ ?_; clear hK K
 refine zag rfl ?_
 refine zac (fun K hK r => ?_)
 simp only [x_extract, i_extract, List.getElem?_toArray, List.getElem?_cons_zero, List.getElem?_cons_succ, zai, eX, ↓reduceIte, Nat.reduceEqDiff, Int.reduceToNat]
 refine hK _ _ ?_; clear hK K
 refine zac (fun K hK r => ?_)
 simp only [x_extract, i_extract, List.getElem?_toArray, List.getElem?_cons_zero, List.getElem?_cons_succ, zai, eX, ↓reduceIte, Nat.reduceEqDiff, Int.reduceToNat]
 refine hK _ _ ?_; clear hK K
 refine zao rfl ?_
 refine zao rfl ?_
 refine zae ?_
 try simp only [Ex.thnH, Ex.inBlockH, ↓reduceIte, Nat.reduceEqDiff]
 refine hK2 _ _ ?_; try clear hK2 K2
 refine zad (fun K3 hK3 => ?_)
 refine zab ?_
 refine zag rfl ?_
 refine zao rfl ?_
 refine zae ?_
 try simp only [Ex.thnH, Ex.inBlockH, ↓reduceIte, Nat.reduceEqDiff]
 refine hK3 _ _ ?_; try clear hK3 K3
 refine zaV ?_
 try simp only [Ex.thnH, Ex.inBlockH, ↓reduceIte, Nat.reduceEqDiff]
 refine ⟨[_], ⟨rfl, trivial⟩, H, lhA, ?_, rfl⟩
 rfl
set_option maxRecDepth 100000 in
set_option maxHeartbeats 1000000 in
theorem behind_ok (H : Hp) (b o : Nat) (c : Array Value) (T : TypeId) (p : PS) (hb : H b = some (.cells c T)) (hs : c[o]? = some p.s) (hO : Holds H 2 p.s p.l.length (ens p.l)) (hW : Rise p.l) (hn : p.l.length ≤ 100000) (v : Int) (hv1 : -9223372036854775808 ≤ v) (hv2 : v ≤ 9223372036854775807) : CallH Try.prog 38 #[.pointer (some ⟨b, o, none⟩), .int .i64 v] H (fun x H' => x = .int .i64 (behN p.l v) ∧ H' = H) := by
 refine zaB (l := [_, _]) (rl := [.tmp 4]) (n := 16) Try.func38 rfl rfl rfl rfl rfl ?_
 simp only [envOf, Nat.reduceAdd]
 have hs0 : c[o + 0]? = some p.s := hs
 obtain ⟨sa, sc, hse⟩ := hO.form
 rw [hse] at hs hs0
 refine zad (fun K1 hK1 => ?_)
 refine zab ?_
 refine zao rfl ?_
 refine zae ?_
 try simp only [Ex.thnH, Ex.inBlockH, ↓reduceIte, Nat.reduceEqDiff]
 refine hK1 _ _ ?_; try clear hK1 K1
 refine zad (fun K2 hK2 => ?_)
 refine zad (fun K3 hK3 => ?_)
 refine zab ?_
 refine zag rfl ?_
 refine zac (fun K hK r => ?_)
 simp (disch := (first | omega | decide)) only [zaI, zaM, b_eql, zau, zaw, zat, zax, zas, zay, Bool.not_true, Bool.not_false, eX, ↓reduceIte, Nat.reduceEqDiff, Int.reduceToNat]
 refine hK _ _ ?_; clear hK K
 refine zae ?_
 try simp only [Ex.thnH, Ex.inBlockH, ↓reduceIte, Nat.reduceEqDiff]
 refine hK3 _ _ ?_; try clear hK3 K3
 refine zaH (fun r => rfl) (fun c6 => ?_) (fun c6 => ?_)
 ·first
  |(exfalso; exact cnA c6; done)
  |skip
   (try simp only [decide_eq_true_eq, decide_eq_false_iff_not, Bool.not_eq_true, Bool.not_eq_false, Bool.and_eq_true, Bool.or_eq_true, Bool.or_eq_false_iff, Bool.not_eq_eq_eq_not, Bool.not_true, Bool.not_false] at c6)
   refine zad (fun K4 hK4 => ?_)
   refine zab ?_
   refine zag rfl ?_
   refine zac (fun K hK r => ?_)
   rw [zaT _ _ rfl]
   simp only [eX, ↓reduceIte, Nat.reduceEqDiff, Int.reduceToNat]
   refine hK _ _ ?_; clear hK K
   refine zac (fun K hK r => ?_)
   simp only [zah, fa71_0, zaA, Nat.reduceAdd, Nat.zero_add, eX, ↓reduceIte, Nat.reduceEqDiff, Int.reduceToNat]
   refine hK _ _ ?_; clear hK K
   refine zac (fun K hK r => ?_)
   simp only [zar, eX, ↓reduceIte, Nat.reduceEqDiff, Int.reduceToNat]
   refine zak Try.underlying33 rfl hbA ldA ?_
   try simp only [eX, ↓reduceIte, Nat.reduceEqDiff, Int.reduceToNat]
   refine hK _ _ ?_; clear hK K
   refine zac (fun K hK r => ?_)
   simp only [zaC, l_len, List.map_toArray, List.map_cons, List.map_nil, zaF _ _ Try.underlying33, eX, ↓reduceIte, Nat.reduceEqDiff, Int.reduceToNat]
   refine hK _ _ ?_; clear hK K
   refine zao rfl ?_
   refine zae ?_
   try simp only [Ex.thnH, Ex.inBlockH, ↓reduceIte, Nat.reduceEqDiff]
   refine hK4 _ _ ?_; try clear hK4 K4
   refine zaV ?_
   try simp only [Ex.thnH, Ex.inBlockH, ↓reduceIte, Nat.reduceEqDiff]
   refine ⟨[_], ⟨rfl, trivial⟩, H, lhA, ?_, rfl⟩
   show Value.int _ _ = Value.int _ _
   unfold behN
   rw [if_pos (by assumption)]
 ·first
  |(exfalso; exact cnA c6; done)
  |skip
   (try simp only [decide_eq_true_eq, decide_eq_false_iff_not, Bool.not_eq_true, Bool.not_eq_false, Bool.and_eq_true, Bool.or_eq_true, Bool.or_eq_false_iff, Bool.not_eq_eq_eq_not, Bool.not_true, Bool.not_false] at c6)
   refine zaL ?_
   try simp only [Ex.thnH, Ex.inBlockH, ↓reduceIte, Nat.reduceEqDiff]
   refine hK2 _ _ ?_; try clear hK2 K2
   refine zad (fun K5 hK5 => ?_)
   refine zab ?_
   refine zag rfl ?_
   refine zag rfl ?_
   refine zac (fun K hK r => ?_)
   simp (disch := (first | omega | decide)) only [zaI, zaM, b_add, zaG, zaK, zaJ, zaR, eX, ↓reduceIte, Nat.reduceEqDiff, Int.reduceToNat]
   refine hK _ _ ?_; clear hK K
   refine zac (fun K hK r => ?_)
   simp only [zaQ _ bd37, List.map_toArray, List.map_cons, List.map_nil, eX, ↓reduceIte, Nat.reduceEqDiff, Int.reduceToNat]
   refine (from_ok _ b o c T p hb (by rw [hse]; exact hs) hO hW hn (v + 1)).mono ?_
   rintro v H' ⟨rfl, hq⟩
   have hq := hq.symm
   subst hq
   try simp only [eX, ↓reduceIte, Nat.reduceEqDiff, Int.reduceToNat]
   refine hK _ _ ?_; clear hK K
   refine zao rfl ?_
   refine zae ?_
   try simp only [Ex.thnH, Ex.inBlockH, ↓reduceIte, Nat.reduceEqDiff]
   refine hK5 _ _ ?_; try clear hK5 K5
   refine zaV ?_
   try simp only [Ex.thnH, Ex.inBlockH, ↓reduceIte, Nat.reduceEqDiff]
   refine ⟨[_], ⟨rfl, trivial⟩, H, lhA, ?_, rfl⟩
   show Value.int _ _ = Value.int _ _
   unfold behN
   rw [if_neg (by assumption)]
end Go.Proofs.Ytjhohnbdhopllaa.HL
end
section
namespace Go.Proofs.Ytjhohnbdhopllaa.HL
open Go Go.Proofs
set_option linter.unusedSimpArgs false
set_option linter.unusedVariables false
attribute [local irreducible] Lt Lq CW OW TW CallH
def ixC (P : Nat → PS) : Array Value := #[(P 0).s, .map (some (P 0).m), (P 1).s, .map (some (P 1).m), (P 2).s, .map (some (P 2).m), (P 3).s, .map (some (P 3).m)]
theorem ixC_s (P : Nat → PS) {t : Nat} (h : t < 4) : (ixC P)[t * 2]? = some (P t).s := by
  match t, h with
  | 0, _ => rfl
  | 1, _ => rfl
  | 2, _ => rfl
  | 3, _ => rfl
theorem ixC_m (P : Nat → PS) {t : Nat} (h : t < 4) : (ixC P)[t * 2 + 1]? = some (.map (some (P t).m)) := by
  match t, h with
  | 0, _ => rfl
  | 1, _ => rfl
  | 2, _ => rfl
  | 3, _ => rfl
def updP (P : Nat → PS) (t : Nat) (p : PS) : Nat → PS := fun u => if u = t then p else P u
theorem ixC_set (P : Nat → PS) {t : Nat} (h : t < 4) (s' : Value) (rs' : Option Nat) (l' : List En) : (ixC P).setIfInBounds (t * 2) s' = ixC (updP P t ⟨s', (P t).m, rs', l'⟩) := by
  match t, h with
  | 0, _ => rfl
  | 1, _ => rfl
  | 2, _ => rfl
  | 3, _ => rfl
structure IXP (F : Hp) (b : Nat) (P : Nat → PS) : Prop where
  blk : F b = some (.cells (ixC P) 74)
  ok : ∀ t, t < 4 → PtOk F (P t)
  nb : ∀ t, t < 4 → (P t).m ≠ b ∧ (P t).rs ≠ some b
  ap : ∀ t u, t < 4 → u < 4 → t ≠ u → (P t).m ≠ (P u).m ∧ (P t).rs ≠ some (P u).m ∧ ∀ r, (P t).rs = some r → (P u).rs ≠ some r
def IX (b : Nat) (E : Nat → List En) (F : Hp) : Prop := ∃ P, IXP F b P ∧ ∀ t, t < 4 → (P t).l = E t
theorem PtOk.le {H K : Hp} {p : PS} (h : PtOk H p) (hl : Le H K) : PtOk K p := h.stay (fun x ob hx _ => hl x ob hx)
theorem IX.le {b : Nat} {E : Nat → List En} {F K : Hp} (h : IX b E F) (hl : Le F K) : IX b E K := by
  obtain ⟨P, h1, h2⟩ := h
  exact ⟨P, ⟨hl _ _ h1.blk, fun t ht => (h1.ok t ht).le hl, h1.nb, h1.ap⟩, h2⟩
theorem PtOk.m_known {H : Hp} {p : PS} (h : PtOk H p) : H p.m ≠ none := by
  obtain ⟨_, ⟨es, cc, h1, _⟩, _⟩ := h; rw [h1]; simp
theorem PtOk.rs_known {H : Hp} {p : PS} (h : PtOk H p) : ∀ r, p.rs = some r → H r ≠ none := h.1.known
def setL (E : Nat → List En) (t : Nat) (l : List En) : Nat → List En := fun u => if u = t then l else E u
theorem IXP.step {F F' : Hp} {b t : Nat} {P : Nat → PS} {l' : List En} (h : IXP F b P) (ht : t < 4) (hs : PtStep F F' b (t * 2) (ixC P) 74 (P t) l') : ∃ P', IXP F' b P' ∧ ∀ u, u < 4 → (P' u).l = if u = t then l' else (P u).l := by
  obtain ⟨s', rs', h1, h2, h3, h4⟩ := hs
  have hsm : ∀ u, u ≠ t → updP P t ⟨s', (P t).m, rs', l'⟩ u = P u := fun u hu => by unfold updP; rw [if_neg hu]
  have hst : updP P t ⟨s', (P t).m, rs', l'⟩ t = ⟨s', (P t).m, rs', l'⟩ := by unfold updP; rw [if_pos rfl]
  refine ⟨updP P t ⟨s', (P t).m, rs', l'⟩, ⟨by rw [← ixC_set P ht]; exact h1, fun u hu => ?_, fun u hu => ?_, fun u w hu hw huw => ?_⟩, fun u hu => ?_⟩
  · by_cases e : u = t
    · subst e; rw [hst]; exact h2
    · rw [hsm u e]
      refine (h.ok u hu).stay (fun x ob hx hor => ?_)
      rcases hor with rfl | hr
      · exact h4 _ _ hx (h.nb u hu).1 (h.ap u t hu ht e).1 (h.ap t u ht hu (Ne.symm e)).2.1
      · exact h4 _ _ hx (fun hb => (h.nb u hu).2 (by rw [← hb]; exact hr)) (fun hm => (h.ap u t hu ht e).2.1 (by rw [← hm]; exact hr)) (fun hr2 => (h.ap u t hu ht e).2.2 x hr hr2)
  · by_cases e : u = t
    · subst e; rw [hst]
      refine ⟨(h.nb u hu).1, fun hr => ?_⟩
      rcases h3 b hr with h5 | h5
      · exact (h.nb u hu).2 h5
      · rw [h.blk] at h5; cases h5
    · rw [hsm u e]; exact h.nb u hu
  · by_cases e : u = t
    · subst e
      rw [hst, hsm w (Ne.symm huw)]
      refine ⟨(h.ap u w hu hw huw).1, fun hr => ?_, fun r hr hr2 => ?_⟩
      · rcases h3 _ hr with h5 | h5
        · exact (h.ap u w hu hw huw).2.1 h5
        · exact (h.ok w hw).m_known h5
      · rcases h3 r hr with h5 | h5
        · exact (h.ap u w hu hw huw).2.2 r h5 hr2
        · exact (h.ok w hw).rs_known r hr2 h5
    · rw [hsm u e]
      by_cases e2 : w = t
      · subst e2
        rw [hst]
        refine ⟨(h.ap u w hu hw huw).1, (h.ap u w hu hw huw).2.1, fun r hr hr2 => ?_⟩
        rcases h3 r hr2 with h5 | h5
        · exact (h.ap u w hu hw huw).2.2 r hr h5
        · exact (h.ok u hu).rs_known r hr h5
      · rw [hsm w e2]; exact h.ap u w hu hw huw
  · unfold updP
    by_cases e : u = t
    · subst e; rw [if_pos rfl, if_pos rfl]
    · rw [if_neg e, if_neg e]
theorem ixdrop {F : Hp} {b : Nat} {E : Nat → List En} (h : IX b E F) {t : Nat} (ht : t < 4) (hn : (E t).length ≤ 100000) (k : Int) : CallH Try.prog 32 #[.pointer (some ⟨b, t * 2, none⟩), .int .i64 k] F (fun v F' => v = .tuple #[] ∧ IX b (setL E t (outK (E t) k)) F') := by
  obtain ⟨P, h1, h2⟩ := h
  refine (drop_ok F b (t * 2) (ixC P) _ (P t) h1.blk (ixC_s P ht) (ixC_m P ht) (h1.ok t ht) (h1.nb t ht).1 (h1.nb t ht).2 (by rw [h2 t ht]; exact hn) k).mono ?_
  rintro v F' ⟨rfl, hs⟩
  obtain ⟨P', h3, h4⟩ := h1.step ht hs
  refine ⟨rfl, P', h3, fun u hu => ?_⟩
  rw [h4 u hu, h2 t ht]
  unfold setL
  split
  · rfl
  · exact h2 u hu
theorem ixput {F : Hp} {b : Nat} {E : Nat → List En} (h : IX b E F) {t : Nat} (ht : t < 4) (hn : (E t).length ≤ 100000) (e : En) (hne : ∀ x ∈ E t, x.k ≠ e.k) : CallH Try.prog 33 #[.pointer (some ⟨b, t * 2, none⟩), .agg #[.int .i64 e.v, .int .i64 e.k]] F (fun v F' => v = .tuple #[] ∧ IX b (setL E t (putE (E t) e)) F') := by
  obtain ⟨P, h1, h2⟩ := h
  refine (put_ok F b (t * 2) (ixC P) _ (P t) h1.blk (ixC_s P ht) (ixC_m P ht) (h1.ok t ht) (h1.nb t ht).1 (h1.nb t ht).2 (by rw [h2 t ht]; exact hn) e (by rw [h2 t ht]; exact hne)).mono ?_
  rintro v F' ⟨rfl, hs⟩
  obtain ⟨P', h3, h4⟩ := h1.step ht hs
  refine ⟨rfl, P', h3, fun u hu => ?_⟩
  rw [h4 u hu, h2 t ht]
  unfold setL
  split
  · rfl
  · exact h2 u hu
def XV (K : Hp) (x : Value) (E : Nat → List En) : Prop := (x = .pointer none ∧ ∀ t, E t = []) ∨ ∃ b, x = .pointer (some ⟨b, 0, none⟩) ∧ IX b E K
def XNil (x : Value) : Bool := match x with | .pointer none => true | _ => false
def PartAt (K : Hp) (b o : Nat) (l : List En) : Prop := ∃ c T s, K b = some (.cells c T) ∧ c[o]? = some s ∧ Holds K 2 s l.length (ens l) ∧ GoodE l ∧ ∃ a cap, s = .slice a l.length cap ∧ l.length ≤ cap
theorem PartAt.le {K K' : Hp} {b o : Nat} {l : List En} (h : PartAt K b o l) (hl : Le K K') : PartAt K' b o l := by
  obtain ⟨c, T, s, h1, h2, h3, h4⟩ := h
  exact ⟨c, T, s, hl _ _ h1, h2, h3.le hl, h4⟩
def tabE (E : Nat → List En) (t : Int) : List En := if 0 ≤ t ∧ t < 4 then E t.toNat else []
theorem IX.part {K : Hp} {b : Nat} {E : Nat → List En} (h : IX b E K) {t : Nat} (ht : t < 4) : PartAt K b (t * 2) (E t) := by
  obtain ⟨P, h1, h2⟩ := h
  have h3 := h1.ok t ht
  refine ⟨_, _, _, h1.blk, ixC_s P ht, ?_, ?_⟩
  · rw [← h2 t ht]; exact h3.1.holds
  · rw [← h2 t ht]
    obtain ⟨a, cap, e⟩ := h3.1.holds.form
    refine ⟨h3.2.2, a, cap, e, ?_⟩
    have h4 := h3.1
    rw [e] at h4
    exact h4.capn
set_option maxRecDepth 100000 in
set_option maxHeartbeats 1000000 in
theorem part_nil (G : Hp) (t : Int) : CallH Try.prog 30 #[.pointer none, .int .i64 t] G (fun v K' => Le G K' ∧ ∃ pb, G pb = none ∧ v = .tuple #[.pointer (some ⟨pb, 0, none⟩), .bool false] ∧ PartAt K' pb 0 []) := by
 refine zaB (l := [_, _]) (rl := [.tmp 4, .tmp 5]) (n := 23) Try.func30 rfl rfl rfl rfl rfl ?_
 simp only [envOf, Nat.reduceAdd]
 refine zad (fun K1 hK1 => ?_)
 refine zab ?_
 refine zao rfl ?_
 refine zao rfl ?_
 refine zae ?_
 try simp only [Ex.thnH, Ex.inBlockH, ↓reduceIte, Nat.reduceEqDiff]
 refine hK1 _ _ ?_; try clear hK1 K1
 refine zad (fun K2 hK2 => ?_)
 refine zad (fun K3 hK3 => ?_)
 refine zab ?_
 refine zag rfl ?_
 refine zac (fun K hK r => ?_)
 simp only [zaI, zaM, g_bool, g_string, g_pointer, g_slice, g_map, g_func, g_nilFunc, g_iface, g_nil_iface, g_nil_r, g_nil_l, eX, ↓reduceIte, Nat.reduceEqDiff, Int.reduceToNat]
 rw [e_eql _ _ _ _ (by simp)]
 rw [q_equal]
 first | rw [q_ptr_nil _ _ _ Try.underlying27] | rw [q_nil_ptr _ _ _ Try.underlying27]
 try simp only [eX, ↓reduceIte, Nat.reduceEqDiff, Int.reduceToNat]
 refine hK _ _ ?_; clear hK K
 refine zag rfl ?_
 (first | refine OW_split (d := 8) rfl (fun g8 => ?_) (fun g8 => ?_) | skip)
 all_goals try (exfalso; exact cnA g8)
 all_goals (try simp only [decide_eq_true_eq, decide_eq_false_iff_not, Bool.not_eq_true, Bool.not_eq_false, Bool.and_eq_true, Bool.or_eq_true, Bool.or_eq_false_iff, Bool.not_eq_eq_eq_not, Bool.not_true, Bool.not_false] at g8)
 all_goals
  try simp only [eX, ↓reduceIte, Nat.reduceEqDiff, Int.reduceToNat]
  first
  |refine zam rfl (zaa (by decide)) rfl (fun K hK r => ?_)
   simp only [zaq, eX, ↓reduceIte, Nat.reduceEqDiff, Int.reduceToNat]
   refine hK _ _ ?_; clear hK K
  |refine zan rfl (zaa (by decide)) rfl ?_
   simp only [eX, ↓reduceIte, Nat.reduceEqDiff, Int.reduceToNat]
  first
  |refine zam rfl (zaa (by decide)) rfl (fun K hK r => ?_)
   simp (disch := (first | omega | decide)) only [zaI, zaM, b_lss, zau, zaw, zat, zax, zas, zay, Bool.not_true, Bool.not_false, eX, ↓reduceIte, Nat.reduceEqDiff, Int.reduceToNat]
   refine hK _ _ ?_; clear hK K
  |refine zan rfl (zaa (by decide)) rfl ?_
   simp only [eX, ↓reduceIte, Nat.reduceEqDiff, Int.reduceToNat]
  refine zac (fun K hK r => ?_)
  simp only [x_pick, l_asBool, HL.ite_bool, if_true, if_false, Bool.false_eq_true, eX, ↓reduceIte, Nat.reduceEqDiff, Int.reduceToNat]
  refine hK _ _ ?_; clear hK K
  refine zag rfl ?_
  (first | refine OW_split (d := 12) rfl (fun g12 => ?_) (fun g12 => ?_) | skip)
  all_goals try (exfalso; exact cnA g12)
  all_goals (try simp only [decide_eq_true_eq, decide_eq_false_iff_not, Bool.not_eq_true, Bool.not_eq_false, Bool.and_eq_true, Bool.or_eq_true, Bool.or_eq_false_iff, Bool.not_eq_eq_eq_not, Bool.not_true, Bool.not_false] at g12)
  all_goals
   try simp only [eX, ↓reduceIte, Nat.reduceEqDiff, Int.reduceToNat]
   first
   |refine zam rfl (zaa (by decide)) rfl (fun K hK r => ?_)
    simp only [zaq, eX, ↓reduceIte, Nat.reduceEqDiff, Int.reduceToNat]
    refine hK _ _ ?_; clear hK K
   |refine zan rfl (zaa (by decide)) rfl ?_
    simp only [eX, ↓reduceIte, Nat.reduceEqDiff, Int.reduceToNat]
   first
   |refine zam rfl (zaa (by decide)) rfl (fun K hK r => ?_)
    simp (disch := (first | omega | decide)) only [zaI, zaM, b_geq, zau, zaw, zat, zax, zas, zay, Bool.not_true, Bool.not_false, eX, ↓reduceIte, Nat.reduceEqDiff, Int.reduceToNat]
    refine hK _ _ ?_; clear hK K
   |refine zan rfl (zaa (by decide)) rfl ?_
    simp only [eX, ↓reduceIte, Nat.reduceEqDiff, Int.reduceToNat]
   refine zac (fun K hK r => ?_)
   simp only [x_pick, l_asBool, HL.ite_bool, if_true, if_false, Bool.false_eq_true, eX, ↓reduceIte, Nat.reduceEqDiff, Int.reduceToNat]
   refine hK _ _ ?_; clear hK K
   refine zae ?_
   try simp only [Ex.thnH, Ex.inBlockH, ↓reduceIte, Nat.reduceEqDiff]
   refine hK3 _ _ ?_; try clear hK3 K3
   refine zaH (fun r => rfl) (fun c15 => ?_) (fun c15 => ?_)
   rotate_left; exfalso; exact cnA c15
   refine zad (fun K4 hK4 => ?_)
   refine zab ?_
   refine zac (fun K hK r => ?_)
   simp only [x_build, bp71, List.map_toArray, List.map_cons, List.map_nil, eX, ↓reduceIte, Nat.reduceEqDiff, Int.reduceToNat]
   simp only [fill_nil, zai, List.setIfInBounds_toArray, List.set_cons_zero, List.set_cons_succ]
   try simp only [eX, ↓reduceIte, Nat.reduceEqDiff, Int.reduceToNat]
   refine hK _ _ ?_; clear hK K
   refine zac (fun K hK r => ?_)
   simp only [x_box, Value.cells, eX, ↓reduceIte, Nat.reduceEqDiff, Int.reduceToNat]
   intro b17 hb17
   have f17_G : G b17 = none := zaj lhA hb17
   try simp only [eX, ↓reduceIte, Nat.reduceEqDiff, Int.reduceToNat]
   refine hK _ _ ?_; clear hK K
   refine zao rfl ?_
   refine zao rfl ?_
   refine zae ?_
   try simp only [Ex.thnH, Ex.inBlockH, ↓reduceIte, Nat.reduceEqDiff]
   refine hK4 _ _ ?_; try clear hK4 K4
   refine zaV ?_
   try simp only [Ex.thnH, Ex.inBlockH, ↓reduceIte, Nat.reduceEqDiff]
   exact ⟨[_, _], ⟨rfl, rfl, trivial⟩, _, Le.refl _, lhA, b17, f17_G, rfl, _, _, _, zap _ _ _, rfl, ⟨rfl, .inl ⟨_, _, rfl, rfl⟩⟩, GoodE.nil, _, _, rfl, Nat.le_refl _⟩
set_option maxRecDepth 100000 in
set_option maxHeartbeats 1000000 in
theorem part_out (G : Hp) (b : Nat) (t : Int) (h : ¬ (0 ≤ t ∧ t < 4)) : CallH Try.prog 30 #[.pointer (some ⟨b, 0, none⟩), .int .i64 t] G (fun v K' => Le G K' ∧ ∃ pb, G pb = none ∧ v = .tuple #[.pointer (some ⟨pb, 0, none⟩), .bool false] ∧ PartAt K' pb 0 []) := by
 refine zaB (l := [_, _]) (rl := [.tmp 4, .tmp 5]) (n := 23) Try.func30 rfl rfl rfl rfl rfl ?_
 simp only [envOf, Nat.reduceAdd]
 refine zad (fun K1 hK1 => ?_)
 refine zab ?_
 refine zao rfl ?_
 refine zao rfl ?_
 refine zae ?_
 try simp only [Ex.thnH, Ex.inBlockH, ↓reduceIte, Nat.reduceEqDiff]
 refine hK1 _ _ ?_; try clear hK1 K1
 refine zad (fun K2 hK2 => ?_)
 refine zad (fun K3 hK3 => ?_)
 refine zab ?_
 refine zag rfl ?_
 refine zac (fun K hK r => ?_)
 simp only [zaI, zaM, g_bool, g_string, g_pointer, g_slice, g_map, g_func, g_nilFunc, g_iface, g_nil_iface, g_nil_r, g_nil_l, eX, ↓reduceIte, Nat.reduceEqDiff, Int.reduceToNat]
 rw [e_eql _ _ _ _ (by simp)]
 rw [q_equal]
 first | rw [q_ptr_nil _ _ _ Try.underlying27] | rw [q_nil_ptr _ _ _ Try.underlying27]
 try simp only [eX, ↓reduceIte, Nat.reduceEqDiff, Int.reduceToNat]
 refine hK _ _ ?_; clear hK K
 refine zag rfl ?_
 (first | refine OW_split (d := 8) rfl (fun g8 => ?_) (fun g8 => ?_) | skip)
 all_goals try (exfalso; exact cnA g8)
 all_goals (try simp only [decide_eq_true_eq, decide_eq_false_iff_not, Bool.not_eq_true, Bool.not_eq_false, Bool.and_eq_true, Bool.or_eq_true, Bool.or_eq_false_iff, Bool.not_eq_eq_eq_not, Bool.not_true, Bool.not_false] at g8)
 all_goals
  try simp only [eX, ↓reduceIte, Nat.reduceEqDiff, Int.reduceToNat]
  first
  |refine zam rfl (zaa (by decide)) rfl (fun K hK r => ?_)
   simp only [zaq, eX, ↓reduceIte, Nat.reduceEqDiff, Int.reduceToNat]
   refine hK _ _ ?_; clear hK K
  |refine zan rfl (zaa (by decide)) rfl ?_
   simp only [eX, ↓reduceIte, Nat.reduceEqDiff, Int.reduceToNat]
  first
  |refine zam rfl (zaa (by decide)) rfl (fun K hK r => ?_)
   simp (disch := (first | omega | decide)) only [zaI, zaM, b_lss, zau, zaw, zat, zax, zas, zay, Bool.not_true, Bool.not_false, eX, ↓reduceIte, Nat.reduceEqDiff, Int.reduceToNat]
   refine hK _ _ ?_; clear hK K
  |refine zan rfl (zaa (by decide)) rfl ?_
   simp only [eX, ↓reduceIte, Nat.reduceEqDiff, Int.reduceToNat]
  refine zac (fun K hK r => ?_)
  simp only [x_pick, l_asBool, HL.ite_bool, if_true, if_false, Bool.false_eq_true, eX, ↓reduceIte, Nat.reduceEqDiff, Int.reduceToNat]
  refine hK _ _ ?_; clear hK K
  refine zag rfl ?_
  (first | refine OW_split (d := 12) rfl (fun g12 => ?_) (fun g12 => ?_) | skip)
  all_goals try (exfalso; exact cnA g12)
  all_goals (try simp only [decide_eq_true_eq, decide_eq_false_iff_not, Bool.not_eq_true, Bool.not_eq_false, Bool.and_eq_true, Bool.or_eq_true, Bool.or_eq_false_iff, Bool.not_eq_eq_eq_not, Bool.not_true, Bool.not_false] at g12)
  all_goals
   try simp only [eX, ↓reduceIte, Nat.reduceEqDiff, Int.reduceToNat]
   first
   |refine zam rfl (zaa (by decide)) rfl (fun K hK r => ?_)
    simp only [zaq, eX, ↓reduceIte, Nat.reduceEqDiff, Int.reduceToNat]
    refine hK _ _ ?_; clear hK K
   |refine zan rfl (zaa (by decide)) rfl ?_
    simp only [eX, ↓reduceIte, Nat.reduceEqDiff, Int.reduceToNat]
   first
   |refine zam rfl (zaa (by decide)) rfl (fun K hK r => ?_)
    simp (disch := (first | omega | decide)) only [zaI, zaM, b_geq, zau, zaw, zat, zax, zas, zay, Bool.not_true, Bool.not_false, eX, ↓reduceIte, Nat.reduceEqDiff, Int.reduceToNat]
    refine hK _ _ ?_; clear hK K
   |refine zan rfl (zaa (by decide)) rfl ?_
    simp only [eX, ↓reduceIte, Nat.reduceEqDiff, Int.reduceToNat]
   refine zac (fun K hK r => ?_)
   simp only [x_pick, l_asBool, HL.ite_bool, if_true, if_false, Bool.false_eq_true, eX, ↓reduceIte, Nat.reduceEqDiff, Int.reduceToNat]
   refine hK _ _ ?_; clear hK K
   refine zae ?_
   try simp only [Ex.thnH, Ex.inBlockH, ↓reduceIte, Nat.reduceEqDiff]
   refine hK3 _ _ ?_; try clear hK3 K3
   refine zaH (fun r => rfl) (fun c15 => ?_) (fun c15 => ?_)
   ·first
    |(exfalso; exact cnA c15; done)
    |skip
     (try simp only [decide_eq_true_eq, decide_eq_false_iff_not, Bool.not_eq_true, Bool.not_eq_false, Bool.and_eq_true, Bool.or_eq_true, Bool.or_eq_false_iff, Bool.not_eq_eq_eq_not, Bool.not_true, Bool.not_false] at c15)
     refine zad (fun K4 hK4 => ?_)
     refine zab ?_
     refine zac (fun K hK r => ?_)
     simp only [x_build, bp71, List.map_toArray, List.map_cons, List.map_nil, eX, ↓reduceIte, Nat.reduceEqDiff, Int.reduceToNat]
     simp only [fill_nil, zai, List.setIfInBounds_toArray, List.set_cons_zero, List.set_cons_succ]
     try simp only [eX, ↓reduceIte, Nat.reduceEqDiff, Int.reduceToNat]
     refine hK _ _ ?_; clear hK K
     refine zac (fun K hK r => ?_)
     simp only [x_box, Value.cells, eX, ↓reduceIte, Nat.reduceEqDiff, Int.reduceToNat]
     intro b17 hb17
     have f17_G : G b17 = none := zaj lhA hb17
     try simp only [eX, ↓reduceIte, Nat.reduceEqDiff, Int.reduceToNat]
     refine hK _ _ ?_; clear hK K
     refine zao rfl ?_
     refine zao rfl ?_
     refine zae ?_
     try simp only [Ex.thnH, Ex.inBlockH, ↓reduceIte, Nat.reduceEqDiff]
     refine hK4 _ _ ?_; try clear hK4 K4
     refine zaV ?_
     try simp only [Ex.thnH, Ex.inBlockH, ↓reduceIte, Nat.reduceEqDiff]
     exact ⟨[_, _], ⟨rfl, rfl, trivial⟩, _, Le.refl _, lhA, b17, f17_G, rfl, _, _, _, zap _ _ _, rfl, ⟨rfl, .inl ⟨_, _, rfl, rfl⟩⟩, GoodE.nil, _, _, rfl, Nat.le_refl _⟩
   ·first
    |(exfalso; exact cnA c15; done)
    |skip
     (try simp only [decide_eq_true_eq, decide_eq_false_iff_not, Bool.not_eq_true, Bool.not_eq_false, Bool.and_eq_true, Bool.or_eq_true, Bool.or_eq_false_iff, Bool.not_eq_eq_eq_not, Bool.not_true, Bool.not_false] at c15)
     refine zaL ?_
     try simp only [Ex.thnH, Ex.inBlockH, ↓reduceIte, Nat.reduceEqDiff]
     refine hK2 _ _ ?_; try clear hK2 K2
     refine zad (fun K5 hK5 => ?_)
     refine zab ?_
     refine zag rfl ?_
     refine zag rfl ?_
     refine zac (fun K hK r => ?_)
     rw [zaT _ _ rfl]
     simp only [eX, ↓reduceIte, Nat.reduceEqDiff, Int.reduceToNat]
     refine hK _ _ ?_; clear hK K
     refine zac (fun K hK r => ?_)
     simp only [zah, fa74_0, zaA, Nat.reduceAdd, Nat.zero_add, eX, ↓reduceIte, Nat.reduceEqDiff, Int.reduceToNat]
     refine hK _ _ ?_; clear hK K
     refine zac (fun K hK r => ?_)
     simp only [zav, eX, ↓reduceIte, Nat.reduceEqDiff, Int.reduceToNat]
     refine Lt_indexA Try.underlying72 sz71 ixA ixA ?_
     try simp only [zaA, Nat.mul_one, Nat.zero_add, Int.reduceToNat]
     try simp only [eX, ↓reduceIte, Nat.reduceEqDiff, Int.reduceToNat]
     refine hK _ _ ?_; clear hK K
     refine zao rfl ?_
     refine zao rfl ?_
     refine zae ?_
     try simp only [Ex.thnH, Ex.inBlockH, ↓reduceIte, Nat.reduceEqDiff]
     refine hK5 _ _ ?_; try clear hK5 K5
     refine zaV ?_
     try simp only [Ex.thnH, Ex.inBlockH, ↓reduceIte, Nat.reduceEqDiff]
     exfalso; simp at c15; omega
set_option maxRecDepth 100000 in
set_option maxHeartbeats 1000000 in
theorem part_in (G : Hp) (b : Nat) (t : Int) (h : 0 ≤ t ∧ t < 4) : CallH Try.prog 30 #[.pointer (some ⟨b, 0, none⟩), .int .i64 t] G (fun v K' => v = .tuple #[.pointer (some ⟨b, t.toNat * 2, none⟩), .bool true] ∧ K' = G) := by
 refine zaB (l := [_, _]) (rl := [.tmp 4, .tmp 5]) (n := 23) Try.func30 rfl rfl rfl rfl rfl ?_
 simp only [envOf, Nat.reduceAdd]
 refine zad (fun K1 hK1 => ?_)
 refine zab ?_
 refine zao rfl ?_
 refine zao rfl ?_
 refine zae ?_
 try simp only [Ex.thnH, Ex.inBlockH, ↓reduceIte, Nat.reduceEqDiff]
 refine hK1 _ _ ?_; try clear hK1 K1
 refine zad (fun K2 hK2 => ?_)
 refine zad (fun K3 hK3 => ?_)
 refine zab ?_
 refine zag rfl ?_
 refine zac (fun K hK r => ?_)
 simp only [zaI, zaM, g_bool, g_string, g_pointer, g_slice, g_map, g_func, g_nilFunc, g_iface, g_nil_iface, g_nil_r, g_nil_l, eX, ↓reduceIte, Nat.reduceEqDiff, Int.reduceToNat]
 rw [e_eql _ _ _ _ (by simp)]
 rw [q_equal]
 first | rw [q_ptr_nil _ _ _ Try.underlying27] | rw [q_nil_ptr _ _ _ Try.underlying27]
 try simp only [eX, ↓reduceIte, Nat.reduceEqDiff, Int.reduceToNat]
 refine hK _ _ ?_; clear hK K
 refine zag rfl ?_
 (first | refine OW_split (d := 8) rfl (fun g8 => ?_) (fun g8 => ?_) | skip)
 all_goals try (exfalso; exact cnA g8)
 all_goals (try simp only [decide_eq_true_eq, decide_eq_false_iff_not, Bool.not_eq_true, Bool.not_eq_false, Bool.and_eq_true, Bool.or_eq_true, Bool.or_eq_false_iff, Bool.not_eq_eq_eq_not, Bool.not_true, Bool.not_false] at g8)
 all_goals
  try simp only [eX, ↓reduceIte, Nat.reduceEqDiff, Int.reduceToNat]
  first
  |refine zam rfl (zaa (by decide)) rfl (fun K hK r => ?_)
   simp only [zaq, eX, ↓reduceIte, Nat.reduceEqDiff, Int.reduceToNat]
   refine hK _ _ ?_; clear hK K
  |refine zan rfl (zaa (by decide)) rfl ?_
   simp only [eX, ↓reduceIte, Nat.reduceEqDiff, Int.reduceToNat]
  first
  |refine zam rfl (zaa (by decide)) rfl (fun K hK r => ?_)
   simp (disch := (first | omega | decide)) only [zaI, zaM, b_lss, zau, zaw, zat, zax, zas, zay, Bool.not_true, Bool.not_false, eX, ↓reduceIte, Nat.reduceEqDiff, Int.reduceToNat]
   refine hK _ _ ?_; clear hK K
  |refine zan rfl (zaa (by decide)) rfl ?_
   simp only [eX, ↓reduceIte, Nat.reduceEqDiff, Int.reduceToNat]
  refine zac (fun K hK r => ?_)
  simp only [x_pick, l_asBool, HL.ite_bool, if_true, if_false, Bool.false_eq_true, eX, ↓reduceIte, Nat.reduceEqDiff, Int.reduceToNat]
  refine hK _ _ ?_; clear hK K
  refine zag rfl ?_
  (first | refine OW_split (d := 12) rfl (fun g12 => ?_) (fun g12 => ?_) | skip)
  all_goals try (exfalso; exact cnA g12)
  all_goals (try simp only [decide_eq_true_eq, decide_eq_false_iff_not, Bool.not_eq_true, Bool.not_eq_false, Bool.and_eq_true, Bool.or_eq_true, Bool.or_eq_false_iff, Bool.not_eq_eq_eq_not, Bool.not_true, Bool.not_false] at g12)
  all_goals
   try simp only [eX, ↓reduceIte, Nat.reduceEqDiff, Int.reduceToNat]
   first
   |refine zam rfl (zaa (by decide)) rfl (fun K hK r => ?_)
    simp only [zaq, eX, ↓reduceIte, Nat.reduceEqDiff, Int.reduceToNat]
    refine hK _ _ ?_; clear hK K
   |refine zan rfl (zaa (by decide)) rfl ?_
    simp only [eX, ↓reduceIte, Nat.reduceEqDiff, Int.reduceToNat]
   first
   |refine zam rfl (zaa (by decide)) rfl (fun K hK r => ?_)
    simp (disch := (first | omega | decide)) only [zaI, zaM, b_geq, zau, zaw, zat, zax, zas, zay, Bool.not_true, Bool.not_false, eX, ↓reduceIte, Nat.reduceEqDiff, Int.reduceToNat]
    refine hK _ _ ?_; clear hK K
   |refine zan rfl (zaa (by decide)) rfl ?_
    simp only [eX, ↓reduceIte, Nat.reduceEqDiff, Int.reduceToNat]
   refine zac (fun K hK r => ?_)
   simp only [x_pick, l_asBool, HL.ite_bool, if_true, if_false, Bool.false_eq_true, eX, ↓reduceIte, Nat.reduceEqDiff, Int.reduceToNat]
   refine hK _ _ ?_; clear hK K
   refine zae ?_
   try simp only [Ex.thnH, Ex.inBlockH, ↓reduceIte, Nat.reduceEqDiff]
   refine hK3 _ _ ?_; try clear hK3 K3
   refine zaH (fun r => rfl) (fun c15 => ?_) (fun c15 => ?_)
   ·first
    |(exfalso; exact cnA c15; done)
    |skip
     (try simp only [decide_eq_true_eq, decide_eq_false_iff_not, Bool.not_eq_true, Bool.not_eq_false, Bool.and_eq_true, Bool.or_eq_true, Bool.or_eq_false_iff, Bool.not_eq_eq_eq_not, Bool.not_true, Bool.not_false] at c15)
     refine zad (fun K4 hK4 => ?_)
     refine zab ?_
     refine zac (fun K hK r => ?_)
     simp only [x_build, bp71, List.map_toArray, List.map_cons, List.map_nil, eX, ↓reduceIte, Nat.reduceEqDiff, Int.reduceToNat]
     simp only [fill_nil, zai, List.setIfInBounds_toArray, List.set_cons_zero, List.set_cons_succ]
     try simp only [eX, ↓reduceIte, Nat.reduceEqDiff, Int.reduceToNat]
     refine hK _ _ ?_; clear hK K
     refine zac (fun K hK r => ?_)
     simp only [x_box, Value.cells, eX, ↓reduceIte, Nat.reduceEqDiff, Int.reduceToNat]
     intro b17 hb17
     have f17_G : G b17 = none := zaj lhA hb17
     try simp only [eX, ↓reduceIte, Nat.reduceEqDiff, Int.reduceToNat]
     refine hK _ _ ?_; clear hK K
     refine zao rfl ?_
     refine zao rfl ?_
     refine zae ?_
     try simp only [Ex.thnH, Ex.inBlockH, ↓reduceIte, Nat.reduceEqDiff]
     refine hK4 _ _ ?_; try clear hK4 K4
     refine zaV ?_
     try simp only [Ex.thnH, Ex.inBlockH, ↓reduceIte, Nat.reduceEqDiff]
     exfalso; simp at c15; omega
   ·first
    |(exfalso; exact cnA c15; done)
    |skip
     (try simp only [decide_eq_true_eq, decide_eq_false_iff_not, Bool.not_eq_true, Bool.not_eq_false, Bool.and_eq_true, Bool.or_eq_true, Bool.or_eq_false_iff, Bool.not_eq_eq_eq_not, Bool.not_true, Bool.not_false] at c15)
     refine zaL ?_
     try simp only [Ex.thnH, Ex.inBlockH, ↓reduceIte, Nat.reduceEqDiff]
     refine hK2 _ _ ?_; try clear hK2 K2
     refine zad (fun K5 hK5 => ?_)
     refine zab ?_
     refine zag rfl ?_
     refine zag rfl ?_
     refine zac (fun K hK r => ?_)
     rw [zaT _ _ rfl]
     simp only [eX, ↓reduceIte, Nat.reduceEqDiff, Int.reduceToNat]
     refine hK _ _ ?_; clear hK K
     refine zac (fun K hK r => ?_)
     simp only [zah, fa74_0, zaA, Nat.reduceAdd, Nat.zero_add, eX, ↓reduceIte, Nat.reduceEqDiff, Int.reduceToNat]
     refine hK _ _ ?_; clear hK K
     refine zac (fun K hK r => ?_)
     simp only [zav, eX, ↓reduceIte, Nat.reduceEqDiff, Int.reduceToNat]
     refine Lt_indexA Try.underlying72 sz71 ixA ixA ?_
     try simp only [zaA, Nat.mul_one, Nat.zero_add, Int.reduceToNat]
     try simp only [eX, ↓reduceIte, Nat.reduceEqDiff, Int.reduceToNat]
     refine hK _ _ ?_; clear hK K
     refine zao rfl ?_
     refine zao rfl ?_
     refine zae ?_
     try simp only [Ex.thnH, Ex.inBlockH, ↓reduceIte, Nat.reduceEqDiff]
     refine hK5 _ _ ?_; try clear hK5 K5
     refine zaV ?_
     try simp only [Ex.thnH, Ex.inBlockH, ↓reduceIte, Nat.reduceEqDiff]
     exact ⟨[_, _], ⟨rfl, rfl, trivial⟩, _, Le.refl _, rfl, rfl⟩
theorem ixpart {K : Hp} {x : Value} {E : Nat → List En} (h : XV K x E) (t : Int) : CallH Try.prog 30 #[x, .int .i64 t] K (fun v K' => Le K K' ∧ ∃ pb o, v = .tuple #[.pointer (some ⟨pb, o, none⟩), .bool (!XNil x && decide (0 ≤ t ∧ t < 4))] ∧ PartAt K' pb o (tabE E t)) := by
  rcases h with ⟨rfl, hE⟩ | ⟨b, rfl, hX⟩
  · refine (part_nil K t).mono ?_
    rintro v K' ⟨hl, pb, _, rfl, hp⟩
    refine ⟨hl, pb, 0, rfl, ?_⟩
    have : tabE E t = [] := by unfold tabE; split <;> first | rfl | exact hE _
    rw [this]; exact hp
  · by_cases ht : 0 ≤ t ∧ t < 4
    · refine (part_in K b t ht).mono ?_
      rintro v K' ⟨rfl, rfl⟩
      refine ⟨Le.refl _, b, _, by rw [decide_eq_true ht]; rfl, ?_⟩
      unfold tabE
      rw [if_pos ht]
      exact hX.part (by omega)
    · refine (part_out K b t ht).mono ?_
      rintro v K' ⟨hl, pb, _, rfl, hp⟩
      refine ⟨hl, pb, 0, by rw [decide_eq_false ht]; rfl, ?_⟩
      unfold tabE
      rw [if_neg ht]; exact hp
set_option maxRecDepth 100000 in
set_option maxHeartbeats 1000000 in
theorem ixLen (G : Hp) (x : Value) (E : Nat → List En) (h : XV G x E) (t : Int) : CallH Try.prog 13 #[x, .int .i64 t] G (fun v K' => v = .int .i64 (tabE E t).length ∧ Le G K') := by
 refine zaB (l := [_, _]) (rl := [.tmp 4]) (n := 18) Try.func13 rfl rfl rfl rfl rfl ?_
 simp only [envOf, Nat.reduceAdd]
 refine zad (fun K1 hK1 => ?_)
 refine zab ?_
 refine zao rfl ?_
 refine zae ?_
 try simp only [Ex.thnH, Ex.inBlockH, ↓reduceIte, Nat.reduceEqDiff]
 refine hK1 _ _ ?_; try clear hK1 K1
 refine zad (fun K2 hK2 => ?_)
 refine zab ?_
 refine zag rfl ?_
 refine zag rfl ?_
 refine zac (fun K hK r => ?_)
 simp only [zaQ _ bd30, List.map_toArray, List.map_cons, List.map_nil, eX, ↓reduceIte, Nat.reduceEqDiff, Int.reduceToNat]
 refine (ixpart h t).mono ?_
 rintro v10 H10 ⟨hl10, pb, po, rfl, hpa⟩
 obtain ⟨pc, pT, ps, hpb, hps, hph, hpg, sa, sc, rfl, hcp⟩ := hpa
 have hps0 : pc[po + 0]? = some _ := hps
 try simp only [eX, ↓reduceIte, Nat.reduceEqDiff, Int.reduceToNat]
 refine hK _ _ ?_; clear hK K
 refine zag rfl ?_
 refine zac (fun K hK r => ?_)
 simp only [x_extract, i_extract, List.getElem?_toArray, List.getElem?_cons_zero, List.getElem?_cons_succ, zai, eX, ↓reduceIte, Nat.reduceEqDiff, Int.reduceToNat]
 refine hK _ _ ?_; clear hK K
 refine zac (fun K hK r => ?_)
 simp only [x_extract, i_extract, List.getElem?_toArray, List.getElem?_cons_zero, List.getElem?_cons_succ, zai, eX, ↓reduceIte, Nat.reduceEqDiff, Int.reduceToNat]
 refine hK _ _ ?_; clear hK K
 refine zao rfl ?_
 refine zao rfl ?_
 refine zae ?_
 try simp only [Ex.thnH, Ex.inBlockH, ↓reduceIte, Nat.reduceEqDiff]
 refine hK2 _ _ ?_; try clear hK2 K2
 refine zad (fun K3 hK3 => ?_)
 refine zab ?_
 refine zag rfl ?_
 refine zac (fun K hK r => ?_)
 rw [zaT _ _ rfl]
 simp only [eX, ↓reduceIte, Nat.reduceEqDiff, Int.reduceToNat]
 refine hK _ _ ?_; clear hK K
 refine zac (fun K hK r => ?_)
 simp only [zah, fa71_0, zaA, Nat.reduceAdd, Nat.zero_add, eX, ↓reduceIte, Nat.reduceEqDiff, Int.reduceToNat]
 refine hK _ _ ?_; clear hK K
 refine zac (fun K hK r => ?_)
 simp only [zar, eX, ↓reduceIte, Nat.reduceEqDiff, Int.reduceToNat]
 refine zak Try.underlying33 rfl hbA ldA ?_
 try simp only [eX, ↓reduceIte, Nat.reduceEqDiff, Int.reduceToNat]
 refine hK _ _ ?_; clear hK K
 refine zac (fun K hK r => ?_)
 simp only [zaC, l_len, List.map_toArray, List.map_cons, List.map_nil, zaF _ _ Try.underlying33, eX, ↓reduceIte, Nat.reduceEqDiff, Int.reduceToNat]
 refine hK _ _ ?_; clear hK K
 refine zao rfl ?_
 refine zae ?_
 try simp only [Ex.thnH, Ex.inBlockH, ↓reduceIte, Nat.reduceEqDiff]
 refine hK3 _ _ ?_; try clear hK3 K3
 refine zaV ?_
 try simp only [Ex.thnH, Ex.inBlockH, ↓reduceIte, Nat.reduceEqDiff]
 exact ⟨[_], ⟨rfl, trivial⟩, _, Le.refl _, rfl, hl10⟩
set_option maxRecDepth 100000 in
set_option maxHeartbeats 1000000 in
theorem ixRank (G : Hp) (x : Value) (E : Nat → List En) (h : XV G x E) (t w : Int) (hn : (tabE E t).length ≤ 100000) : CallH Try.prog 14 #[x, .int .i64 t, .int .i64 w] G (fun v K' => v = .int .i64 (fromN (tabE E t) w) ∧ Le G K') := by
 refine zaB (l := [_, _, _]) (rl := [.tmp 6]) (n := 18) Try.func14 rfl rfl rfl rfl rfl ?_
 simp only [envOf, Nat.reduceAdd]
 refine zad (fun K1 hK1 => ?_)
 refine zab ?_
 refine zao rfl ?_
 refine zae ?_
 try simp only [Ex.thnH, Ex.inBlockH, ↓reduceIte, Nat.reduceEqDiff]
 refine hK1 _ _ ?_; try clear hK1 K1
 refine zad (fun K2 hK2 => ?_)
 refine zab ?_
 refine zag rfl ?_
 refine zag rfl ?_
 refine zac (fun K hK r => ?_)
 simp only [zaQ _ bd30, List.map_toArray, List.map_cons, List.map_nil, eX, ↓reduceIte, Nat.reduceEqDiff, Int.reduceToNat]
 refine (ixpart h t).mono ?_
 rintro v12 H12 ⟨hl12, pb, po, rfl, hpa⟩
 obtain ⟨pc, pT, ps, hpb, hps, hph, hpg, sa, sc, rfl, hcp⟩ := hpa
 try simp only [eX, ↓reduceIte, Nat.reduceEqDiff, Int.reduceToNat]
 refine hK _ _ ?_; clear hK K
 refine zag rfl ?_
 refine zac (fun K hK r => ?_)
 simp only [x_extract, i_extract, List.getElem?_toArray, List.getElem?_cons_zero, List.getElem?_cons_succ, zai, eX, ↓reduceIte, Nat.reduceEqDiff, Int.reduceToNat]
 refine hK _ _ ?_; clear hK K
 refine zac (fun K hK r => ?_)
 simp only [x_extract, i_extract, List.getElem?_toArray, List.getElem?_cons_zero, List.getElem?_cons_succ, zai, eX, ↓reduceIte, Nat.reduceEqDiff, Int.reduceToNat]
 refine hK _ _ ?_; clear hK K
 refine zao rfl ?_
 refine zao rfl ?_
 refine zae ?_
 try simp only [Ex.thnH, Ex.inBlockH, ↓reduceIte, Nat.reduceEqDiff]
 refine hK2 _ _ ?_; try clear hK2 K2
 refine zad (fun K3 hK3 => ?_)
 refine zab ?_
 refine zag rfl ?_
 refine zag rfl ?_
 refine zac (fun K hK r => ?_)
 simp only [zaQ _ bd37, List.map_toArray, List.map_cons, List.map_nil, eX, ↓reduceIte, Nat.reduceEqDiff, Int.reduceToNat]
 refine (from_ok _ pb po pc pT ⟨_, 0, none, tabE E t⟩ hpb hps hph hpg.rise hn w).mono ?_
 rintro v H' ⟨rfl, hq⟩
 have hq := hq.symm
 subst hq
 try simp only [eX, ↓reduceIte, Nat.reduceEqDiff, Int.reduceToNat]
 refine hK _ _ ?_; clear hK K
 refine zao rfl ?_
 refine zae ?_
 try simp only [Ex.thnH, Ex.inBlockH, ↓reduceIte, Nat.reduceEqDiff]
 refine hK3 _ _ ?_; try clear hK3 K3
 refine zaV ?_
 try simp only [Ex.thnH, Ex.inBlockH, ↓reduceIte, Nat.reduceEqDiff]
 exact ⟨[_], ⟨rfl, trivial⟩, _, Le.refl _, rfl, hl12⟩
end Go.Proofs.Ytjhohnbdhopllaa.HL
end
section
namespace Go.Proofs.Ytjhohnbdhopllaa.HL
open Go Go.Proofs
set_option linter.unusedSimpArgs false
set_option linter.unusedVariables false
attribute [local irreducible] Lt Lq CW OW TW CallH
set_option maxRecDepth 100000 in
set_option maxHeartbeats 1000000 in
theorem num_Num_nil (H : Hp) : CallH Try.prog 17 #[.nilIface] H (fun v H' => v = .int .i64 0 ∧ H' = H) := by
 refine zaB (l := [_]) (rl := [.tmp 2]) (n := 45) Try.func17 rfl rfl rfl rfl rfl ?_
 simp only [envOf, Nat.reduceAdd]
 refine zad (fun K1 hK1 => ?_)
 refine zab ?_
 refine zao rfl ?_
 refine zae ?_
 try simp only [Ex.thnH, Ex.inBlockH, ↓reduceIte, Nat.reduceEqDiff]
 refine hK1 _ _ ?_; try clear hK1 K1
 refine zad (fun K2 hK2 => ?_)
 refine zad (fun K3 hK3 => ?_)
 refine zab ?_
 refine zag rfl ?_
 refine zae ?_
 try simp only [Ex.thnH, Ex.inBlockH, ↓reduceIte, Nat.reduceEqDiff]
 refine hK3 _ _ ?_; try clear hK3 K3
 refine zaP ?_
 refine CW_loop (fun m e H_ => Env.has [(0, .nilIface), (7, .int .i64 0)] e ∧ H_ = H) (0) ?_ ?_
 ·skip
  exact ⟨⟨rfl, rfl, trivial⟩, rfl⟩
 intro m_ e_ H_ hI_
 obtain ⟨he, rfl⟩ := hI_
 refine CW_env he.sub ?_; clear he e_
 refine zad (fun K4 hK4 => ?_)
 refine zab ?_
 refine zac (fun K hK r => ?_)
 simp (disch := (first | omega | decide)) only [zaI, zaM, b_lss, zau, zaw, zat, zax, zas, zay, Bool.not_true, Bool.not_false, eX, ↓reduceIte, Nat.reduceEqDiff, Int.reduceToNat]
 refine hK _ _ ?_; clear hK K
 refine zae ?_
 try simp only [Ex.thnH, Ex.inBlockH, ↓reduceIte, Nat.reduceEqDiff]
 refine hK4 _ _ ?_; try clear hK4 K4
 refine zad (fun K5 hK5 => ?_)
 refine zaH (fun r => rfl) (fun c8 => ?_) (fun c8 => ?_)
 ·first
  |(exfalso; exact cnA c8; done)
  |skip
   (try simp only [decide_eq_true_eq, decide_eq_false_iff_not, Bool.not_eq_true, Bool.not_eq_false, Bool.and_eq_true, Bool.or_eq_true, Bool.or_eq_false_iff, Bool.not_eq_eq_eq_not, Bool.not_true, Bool.not_false] at c8)
   refine zaL ?_
   try simp only [Ex.thnH, Ex.inBlockH, ↓reduceIte, Nat.reduceEqDiff]
   refine hK5 _ _ ?_; try clear hK5 K5
   refine zad (fun K6 hK6 => ?_)
   refine zaP ?_
   refine zad (fun K7 hK7 => ?_)
   refine zad (fun K8 hK8 => ?_)
   refine zab ?_
   refine zag rfl ?_
   refine zac (fun K hK r => ?_)
   simp only [zaI, zaM, g_bool, g_string, g_pointer, g_slice, g_map, g_func, g_nilFunc, g_err, g_iface, g_nil_iface, g_nil_r, g_nil_l, eX, ↓reduceIte, Nat.reduceEqDiff, Int.reduceToNat]
   first | rw [b_err_eql _ _ Try.underlying31] | (rw [e_eql _ _ _ _ (by simp), q_equal]; first | rw [q_iface_nil _ _ _ Try.underlying31] | rw [q_nil_iface _ _ _ Try.underlying31] | rw [q_nil_nil _ _ _ Try.underlying31])
   try simp only [eX, ↓reduceIte, Nat.reduceEqDiff, Int.reduceToNat]
   refine hK _ _ ?_; clear hK K
   refine zae ?_
   try simp only [Ex.thnH, Ex.inBlockH, ↓reduceIte, Nat.reduceEqDiff]
   refine hK8 _ _ ?_; try clear hK8 K8
   refine zaH (fun r => rfl) (fun c10 => ?_) (fun c10 => ?_)
   ·first
    |(exfalso; exact cnA c10; done)
    |skip
     (try simp only [decide_eq_true_eq, decide_eq_false_iff_not, Bool.not_eq_true, Bool.not_eq_false, Bool.and_eq_true, Bool.or_eq_true, Bool.or_eq_false_iff, Bool.not_eq_eq_eq_not, Bool.not_true, Bool.not_false] at c10)
     refine zad (fun K9 hK9 => ?_)
     refine zab ?_
     refine zao rfl ?_
     refine zae ?_
     try simp only [Ex.thnH, Ex.inBlockH, ↓reduceIte, Nat.reduceEqDiff]
     refine hK9 _ _ ?_; try clear hK9 K9
     refine zaV ?_
     try simp only [Ex.thnH, Ex.inBlockH, ↓reduceIte, Nat.reduceEqDiff]
     exact ⟨[_], ⟨rfl, trivial⟩, _, Le.refl _, rfl, rfl⟩
   ·first
    |(exfalso; exact cnA c10; done)
    |skip
     (try simp only [decide_eq_true_eq, decide_eq_false_iff_not, Bool.not_eq_true, Bool.not_eq_false, Bool.and_eq_true, Bool.or_eq_true, Bool.or_eq_false_iff, Bool.not_eq_eq_eq_not, Bool.not_true, Bool.not_false] at c10)
     refine zaL ?_
     try simp only [Ex.thnH, Ex.inBlockH, ↓reduceIte, Nat.reduceEqDiff]
     refine hK7 _ _ ?_; try clear hK7 K7
     refine zad (fun K10 hK10 => ?_)
     refine zad (fun K11 hK11 => ?_)
     refine zab ?_
     refine zag rfl ?_
     refine zac (fun K hK r => ?_)
     simp only [x_typeAssert, eX, ↓reduceIte, Nat.reduceEqDiff, Int.reduceToNat]
     first | rw [t_same _ _ _ Try.underlying61 (by simp)] | rw [t_other _ _ _ _ Try.underlying61 (by simp) (by decide) _ _ zr61] | rw [t_nil _ _ _ Try.underlying61 (by simp) _ zr61]
     try simp only [if_true, Bool.false_eq_true, if_false]
     try simp only [eX, ↓reduceIte, Nat.reduceEqDiff, Int.reduceToNat]
     refine hK _ _ ?_; clear hK K
     refine zag rfl ?_
     refine zac (fun K hK r => ?_)
     simp only [x_extract, i_extract, List.getElem?_toArray, List.getElem?_cons_zero, List.getElem?_cons_succ, zai, eX, ↓reduceIte, Nat.reduceEqDiff, Int.reduceToNat]
     refine hK _ _ ?_; clear hK K
     refine zac (fun K hK r => ?_)
     simp only [x_extract, i_extract, List.getElem?_toArray, List.getElem?_cons_zero, List.getElem?_cons_succ, zai, eX, ↓reduceIte, Nat.reduceEqDiff, Int.reduceToNat]
     refine hK _ _ ?_; clear hK K
     refine zao rfl ?_
     refine zao rfl ?_
     refine zae ?_
     try simp only [Ex.thnH, Ex.inBlockH, ↓reduceIte, Nat.reduceEqDiff]
     refine hK11 _ _ ?_; try clear hK11 K11
     refine zad (fun K12 hK12 => ?_)
     refine zab ?_
     refine zag rfl ?_
     refine zag rfl ?_
     (first | refine OW_split (d := 17) rfl (fun g17 => ?_) (fun g17 => ?_) | skip)
     all_goals try (exfalso; exact cnA g17)
     all_goals (try simp only [decide_eq_true_eq, decide_eq_false_iff_not, Bool.not_eq_true, Bool.not_eq_false, Bool.and_eq_true, Bool.or_eq_true, Bool.or_eq_false_iff, Bool.not_eq_eq_eq_not, Bool.not_true, Bool.not_false] at g17)
     all_goals
      try simp only [eX, ↓reduceIte, Nat.reduceEqDiff, Int.reduceToNat]
      first
      |refine zam rfl (zaa (by decide)) rfl (fun K hK r => ?_)
       simp only [zaq, eX, ↓reduceIte, Nat.reduceEqDiff, Int.reduceToNat]
       refine hK _ _ ?_; clear hK K
      |refine zan rfl (zaa (by decide)) rfl ?_
       simp only [eX, ↓reduceIte, Nat.reduceEqDiff, Int.reduceToNat]
      first
      |refine zam rfl (zaa (by decide)) rfl (fun K hK r => ?_)
       simp (disch := (first | omega | decide)) only [zaI, zaM, b_neq, zau, zaw, zat, zax, zas, zay, Bool.not_true, Bool.not_false, eX, ↓reduceIte, Nat.reduceEqDiff, Int.reduceToNat]
       refine hK _ _ ?_; clear hK K
      |refine zan rfl (zaa (by decide)) rfl ?_
       simp only [eX, ↓reduceIte, Nat.reduceEqDiff, Int.reduceToNat]
      refine zac (fun K hK r => ?_)
      simp only [x_pick, l_asBool, HL.ite_bool, if_true, if_false, Bool.false_eq_true, eX, ↓reduceIte, Nat.reduceEqDiff, Int.reduceToNat]
      refine hK _ _ ?_; clear hK K
      refine zae ?_
      try simp only [Ex.thnH, Ex.inBlockH, ↓reduceIte, Nat.reduceEqDiff]
      refine hK12 _ _ ?_; try clear hK12 K12
      refine zaH (fun r => rfl) (fun c20 => ?_) (fun c20 => ?_)
      ·first
       |(exfalso; exact cnA c20; done)
       |skip
        (try simp only [decide_eq_true_eq, decide_eq_false_iff_not, Bool.not_eq_true, Bool.not_eq_false, Bool.and_eq_true, Bool.or_eq_true, Bool.or_eq_false_iff, Bool.not_eq_eq_eq_not, Bool.not_true, Bool.not_false] at c20)
        refine zad (fun K13 hK13 => ?_)
        refine zab ?_
        refine zag rfl ?_
        refine zao rfl ?_
        refine zae ?_
        try simp only [Ex.thnH, Ex.inBlockH, ↓reduceIte, Nat.reduceEqDiff]
        refine hK13 _ _ ?_; try clear hK13 K13
        refine zaV ?_
        try simp only [Ex.thnH, Ex.inBlockH, ↓reduceIte, Nat.reduceEqDiff]
        exact ⟨[_], ⟨rfl, trivial⟩, _, Le.refl _, rfl, rfl⟩
      ·first
       |(exfalso; exact cnA c20; done)
       |skip
        (try simp only [decide_eq_true_eq, decide_eq_false_iff_not, Bool.not_eq_true, Bool.not_eq_false, Bool.and_eq_true, Bool.or_eq_true, Bool.or_eq_false_iff, Bool.not_eq_eq_eq_not, Bool.not_true, Bool.not_false] at c20)
        refine zaL ?_
        try simp only [Ex.thnH, Ex.inBlockH, ↓reduceIte, Nat.reduceEqDiff]
        refine hK10 _ _ ?_; try clear hK10 K10
        refine zad (fun K14 hK14 => ?_)
        refine zab ?_
        refine zag rfl ?_
        refine zac (fun K hK r => ?_)
        simp only [x_typeAssert, eX, ↓reduceIte, Nat.reduceEqDiff, Int.reduceToNat]
        first | rw [t_same _ _ _ Try.underlying90 (by simp)] | rw [t_other _ _ _ _ Try.underlying90 (by simp) (by decide) _ _ zr90] | rw [t_nil _ _ _ Try.underlying90 (by simp) _ zr90]
        try simp only [if_true, Bool.false_eq_true, if_false]
        try simp only [eX, ↓reduceIte, Nat.reduceEqDiff, Int.reduceToNat]
        refine hK _ _ ?_; clear hK K
        refine zag rfl ?_
        refine zac (fun K hK r => ?_)
        simp only [x_extract, i_extract, List.getElem?_toArray, List.getElem?_cons_zero, List.getElem?_cons_succ, zai, eX, ↓reduceIte, Nat.reduceEqDiff, Int.reduceToNat]
        refine hK _ _ ?_; clear hK K
        refine zac (fun K hK r => ?_)
        simp only [x_extract, i_extract, List.getElem?_toArray, List.getElem?_cons_zero, List.getElem?_cons_succ, zai, eX, ↓reduceIte, Nat.reduceEqDiff, Int.reduceToNat]
        refine hK _ _ ?_; clear hK K
        refine zao rfl ?_
        refine zao rfl ?_
        refine zae ?_
        try simp only [Ex.thnH, Ex.inBlockH, ↓reduceIte, Nat.reduceEqDiff]
        refine hK14 _ _ ?_; try clear hK14 K14
        refine zad (fun K15 hK15 => ?_)
        refine zad (fun K16 hK16 => ?_)
        refine zab ?_
        refine zag rfl ?_
        refine zac (fun K hK r => ?_)
        simp only [x_un, u_not, eX, ↓reduceIte, Nat.reduceEqDiff, Int.reduceToNat]
        refine hK _ _ ?_; clear hK K
        refine zag rfl ?_
        (first | refine OW_split (d := 29) rfl (fun g29 => ?_) (fun g29 => ?_) | skip)
        all_goals try (exfalso; exact cnA g29)
        all_goals (try simp only [decide_eq_true_eq, decide_eq_false_iff_not, Bool.not_eq_true, Bool.not_eq_false, Bool.and_eq_true, Bool.or_eq_true, Bool.or_eq_false_iff, Bool.not_eq_eq_eq_not, Bool.not_true, Bool.not_false] at g29)
        all_goals
         try simp only [eX, ↓reduceIte, Nat.reduceEqDiff, Int.reduceToNat]
         first
         |refine zam rfl (zaa (by decide)) rfl (fun K hK r => ?_)
          simp only [zaq, eX, ↓reduceIte, Nat.reduceEqDiff, Int.reduceToNat]
          refine hK _ _ ?_; clear hK K
         |refine zan rfl (zaa (by decide)) rfl ?_
          simp only [eX, ↓reduceIte, Nat.reduceEqDiff, Int.reduceToNat]
         first
         |refine zam rfl (zaa (by decide)) rfl (fun K hK r => ?_)
          simp only [zaI, zaM, g_bool, g_string, g_pointer, g_slice, g_map, g_func, g_nilFunc, g_iface, g_nil_iface, g_nil_r, g_nil_l, eX, ↓reduceIte, Nat.reduceEqDiff, Int.reduceToNat]
          rw [e_eql _ _ _ _ (by simp)]
          rw [q_equal]
          first | rw [q_ptr_nil _ _ _ Try.underlying90] | rw [q_nil_ptr _ _ _ Try.underlying90]
          try simp only [eX, ↓reduceIte, Nat.reduceEqDiff, Int.reduceToNat]
          refine hK _ _ ?_; clear hK K
         |refine zan rfl (zaa (by decide)) rfl ?_
          simp only [eX, ↓reduceIte, Nat.reduceEqDiff, Int.reduceToNat]
         refine zac (fun K hK r => ?_)
         simp only [x_pick, l_asBool, HL.ite_bool, if_true, if_false, Bool.false_eq_true, eX, ↓reduceIte, Nat.reduceEqDiff, Int.reduceToNat]
         refine hK _ _ ?_; clear hK K
         refine zag rfl ?_
         (first | refine OW_split (d := 33) rfl (fun g33 => ?_) (fun g33 => ?_) | skip)
         all_goals try (exfalso; exact cnA g33)
         all_goals (try simp only [decide_eq_true_eq, decide_eq_false_iff_not, Bool.not_eq_true, Bool.not_eq_false, Bool.and_eq_true, Bool.or_eq_true, Bool.or_eq_false_iff, Bool.not_eq_eq_eq_not, Bool.not_true, Bool.not_false] at g33)
         all_goals
          try simp only [eX, ↓reduceIte, Nat.reduceEqDiff, Int.reduceToNat]
          first
          |refine zam rfl (zaa (by decide)) rfl (fun K hK r => ?_)
           simp only [zaq, eX, ↓reduceIte, Nat.reduceEqDiff, Int.reduceToNat]
           refine hK _ _ ?_; clear hK K
          |refine zan rfl (zaa (by decide)) rfl ?_
           simp only [eX, ↓reduceIte, Nat.reduceEqDiff, Int.reduceToNat]
          first
          |refine zam rfl (zaa (by decide)) rfl (fun K hK r => ?_)
           rw [zaT _ _ rfl]
           simp only [eX, ↓reduceIte, Nat.reduceEqDiff, Int.reduceToNat]
           refine hK _ _ ?_; clear hK K
          |refine zan rfl (zaa (by decide)) rfl ?_
           simp only [eX, ↓reduceIte, Nat.reduceEqDiff, Int.reduceToNat]
          first
          |refine zam rfl (zaa (by decide)) rfl (fun K hK r => ?_)
           simp only [zah, fa93_1, zaA, Nat.reduceAdd, Nat.zero_add, eX, ↓reduceIte, Nat.reduceEqDiff, Int.reduceToNat]
           refine hK _ _ ?_; clear hK K
          |refine zan rfl (zaa (by decide)) rfl ?_
           simp only [eX, ↓reduceIte, Nat.reduceEqDiff, Int.reduceToNat]
          first
          |refine zam rfl (zaa (by decide)) rfl (fun K hK r => ?_)
           simp only [zar, eX, ↓reduceIte, Nat.reduceEqDiff, Int.reduceToNat]
           refine zak Try.underlying31 rfl hbA ldA ?_
           try simp only [eX, ↓reduceIte, Nat.reduceEqDiff, Int.reduceToNat]
           refine hK _ _ ?_; clear hK K
          |refine zan rfl (zaa (by decide)) rfl ?_
           simp only [eX, ↓reduceIte, Nat.reduceEqDiff, Int.reduceToNat]
          first
          |refine zam rfl (zaa (by decide)) rfl (fun K hK r => ?_)
           simp only [zaI, zaM, g_bool, g_string, g_pointer, g_slice, g_map, g_func, g_nilFunc, g_err, g_iface, g_nil_iface, g_nil_r, g_nil_l, eX, ↓reduceIte, Nat.reduceEqDiff, Int.reduceToNat]
           first | rw [b_err_eql _ _ Try.underlying31] | (rw [e_eql _ _ _ _ (by simp), q_equal]; first | rw [q_iface_nil _ _ _ Try.underlying31] | rw [q_nil_iface _ _ _ Try.underlying31] | rw [q_nil_nil _ _ _ Try.underlying31])
           try simp only [eX, ↓reduceIte, Nat.reduceEqDiff, Int.reduceToNat]
           refine hK _ _ ?_; clear hK K
          |refine zan rfl (zaa (by decide)) rfl ?_
           simp only [eX, ↓reduceIte, Nat.reduceEqDiff, Int.reduceToNat]
          refine zac (fun K hK r => ?_)
          simp only [x_pick, l_asBool, HL.ite_bool, if_true, if_false, Bool.false_eq_true, eX, ↓reduceIte, Nat.reduceEqDiff, Int.reduceToNat]
          refine hK _ _ ?_; clear hK K
          refine zae ?_
          try simp only [Ex.thnH, Ex.inBlockH, ↓reduceIte, Nat.reduceEqDiff]
          refine hK16 _ _ ?_; try clear hK16 K16
          refine zaH (fun r => rfl) (fun c39 => ?_) (fun c39 => ?_)
          ·first
           |(exfalso; exact cnA c39; done)
           |skip
            (try simp only [decide_eq_true_eq, decide_eq_false_iff_not, Bool.not_eq_true, Bool.not_eq_false, Bool.and_eq_true, Bool.or_eq_true, Bool.or_eq_false_iff, Bool.not_eq_eq_eq_not, Bool.not_true, Bool.not_false] at c39)
            refine zad (fun K17 hK17 => ?_)
            refine zab ?_
            refine zao rfl ?_
            refine zae ?_
            try simp only [Ex.thnH, Ex.inBlockH, ↓reduceIte, Nat.reduceEqDiff]
            refine hK17 _ _ ?_; try clear hK17 K17
            refine zaV ?_
            try simp only [Ex.thnH, Ex.inBlockH, ↓reduceIte, Nat.reduceEqDiff]
            exact ⟨[_], ⟨rfl, trivial⟩, _, Le.refl _, rfl, rfl⟩
          ·first
           |(exfalso; exact cnA c39; done)
           |skip
            (try simp only [decide_eq_true_eq, decide_eq_false_iff_not, Bool.not_eq_true, Bool.not_eq_false, Bool.and_eq_true, Bool.or_eq_true, Bool.or_eq_false_iff, Bool.not_eq_eq_eq_not, Bool.not_true, Bool.not_false] at c39)
            refine zaL ?_
            try simp only [Ex.thnH, Ex.inBlockH, ↓reduceIte, Nat.reduceEqDiff]
            refine hK15 _ _ ?_; try clear hK15 K15
            refine zab ?_
            refine zag rfl ?_
            refine zac (fun K hK r => ?_)
            rw [zaT _ _ rfl]
            simp only [eX, ↓reduceIte, Nat.reduceEqDiff, Int.reduceToNat]
            refine hK _ _ ?_; clear hK K
            refine zac (fun K hK r => ?_)
            simp only [zah, fa93_1, zaA, Nat.reduceAdd, Nat.zero_add, eX, ↓reduceIte, Nat.reduceEqDiff, Int.reduceToNat]
            refine hK _ _ ?_; clear hK K
            refine zac (fun K hK r => ?_)
            simp only [zar, eX, ↓reduceIte, Nat.reduceEqDiff, Int.reduceToNat]
            refine zak Try.underlying31 rfl hbA ldA ?_
            try simp only [eX, ↓reduceIte, Nat.reduceEqDiff, Int.reduceToNat]
            refine hK _ _ ?_; clear hK K
            refine zao rfl ?_
            refine zae ?_
            try simp only [Ex.thnH, Ex.inBlockH, ↓reduceIte, Nat.reduceEqDiff]
            refine hK6 _ _ ?_; try clear hK6 K6
            refine zab ?_
            refine zac (fun K hK r => ?_)
            simp (disch := (first | omega | decide)) only [zaI, zaM, b_add, zaG, zaK, zaJ, zaR, eX, ↓reduceIte, Nat.reduceEqDiff, Int.reduceToNat]
            refine hK _ _ ?_; clear hK K
            refine zag rfl ?_
            refine zae ?_
            try simp only [Ex.thnH, Ex.inBlockH, ↓reduceIte, Nat.reduceEqDiff]
            exact absurd rfl (by assumption)
 ·first
  |(exfalso; exact cnA c8; done)
  |skip
   (try simp only [decide_eq_true_eq, decide_eq_false_iff_not, Bool.not_eq_true, Bool.not_eq_false, Bool.and_eq_true, Bool.or_eq_true, Bool.or_eq_false_iff, Bool.not_eq_eq_eq_not, Bool.not_true, Bool.not_false] at c8)
   refine CW_exit ?_
   try simp only [Ex.thnH, Ex.inBlockH, ↓reduceIte, Nat.reduceEqDiff]
   refine hK2 _ _ ?_; try clear hK2 K2
   refine zad (fun K18 hK18 => ?_)
   refine zab ?_
   refine zao rfl ?_
   refine zae ?_
   try simp only [Ex.thnH, Ex.inBlockH, ↓reduceIte, Nat.reduceEqDiff]
   refine hK18 _ _ ?_; try clear hK18 K18
   refine zaV ?_
   try simp only [Ex.thnH, Ex.inBlockH, ↓reduceIte, Nat.reduceEqDiff]
   exact ⟨[_], ⟨rfl, trivial⟩, _, Le.refl _, rfl, rfl⟩
set_option maxRecDepth 100000 in
set_option maxHeartbeats 1000000 in
theorem num_Num_errno (H : Hp) (k : Int) (hk : k ≠ 0) (h1 : -9223372036854775808 ≤ k) (h2 : k ≤ 9223372036854775807) : CallH Try.prog 17 #[.iface 61 (.int .i64 k)] H (fun v H' => v = .int .i64 k ∧ H' = H) := by
 refine zaB (l := [_]) (rl := [.tmp 2]) (n := 45) Try.func17 rfl rfl rfl rfl rfl ?_
 simp only [envOf, Nat.reduceAdd]
 refine zad (fun K1 hK1 => ?_)
 refine zab ?_
 refine zao rfl ?_
 refine zae ?_
 try simp only [Ex.thnH, Ex.inBlockH, ↓reduceIte, Nat.reduceEqDiff]
 refine hK1 _ _ ?_; try clear hK1 K1
 refine zad (fun K2 hK2 => ?_)
 refine zad (fun K3 hK3 => ?_)
 refine zab ?_
 refine zag rfl ?_
 refine zae ?_
 try simp only [Ex.thnH, Ex.inBlockH, ↓reduceIte, Nat.reduceEqDiff]
 refine hK3 _ _ ?_; try clear hK3 K3
 refine zaP ?_
 refine CW_loop (fun m e H_ => Env.has [(0, .iface 61 (.int .i64 k)), (7, .int .i64 0)] e ∧ H_ = H) (0) ?_ ?_
 ·skip
  exact ⟨⟨rfl, rfl, trivial⟩, rfl⟩
 intro m_ e_ H_ hI_
 obtain ⟨he, rfl⟩ := hI_
 refine CW_env he.sub ?_; clear he e_
 refine zad (fun K4 hK4 => ?_)
 refine zab ?_
 refine zac (fun K hK r => ?_)
 simp (disch := (first | omega | decide)) only [zaI, zaM, b_lss, zau, zaw, zat, zax, zas, zay, Bool.not_true, Bool.not_false, eX, ↓reduceIte, Nat.reduceEqDiff, Int.reduceToNat]
 refine hK _ _ ?_; clear hK K
 refine zae ?_
 try simp only [Ex.thnH, Ex.inBlockH, ↓reduceIte, Nat.reduceEqDiff]
 refine hK4 _ _ ?_; try clear hK4 K4
 refine zad (fun K5 hK5 => ?_)
 refine zaH (fun r => rfl) (fun c8 => ?_) (fun c8 => ?_)
 ·first
  |(exfalso; exact cnA c8; done)
  |skip
   (try simp only [decide_eq_true_eq, decide_eq_false_iff_not, Bool.not_eq_true, Bool.not_eq_false, Bool.and_eq_true, Bool.or_eq_true, Bool.or_eq_false_iff, Bool.not_eq_eq_eq_not, Bool.not_true, Bool.not_false] at c8)
   refine zaL ?_
   try simp only [Ex.thnH, Ex.inBlockH, ↓reduceIte, Nat.reduceEqDiff]
   refine hK5 _ _ ?_; try clear hK5 K5
   refine zad (fun K6 hK6 => ?_)
   refine zaP ?_
   refine zad (fun K7 hK7 => ?_)
   refine zad (fun K8 hK8 => ?_)
   refine zab ?_
   refine zag rfl ?_
   refine zac (fun K hK r => ?_)
   simp only [zaI, zaM, g_bool, g_string, g_pointer, g_slice, g_map, g_func, g_nilFunc, g_err, g_iface, g_nil_iface, g_nil_r, g_nil_l, eX, ↓reduceIte, Nat.reduceEqDiff, Int.reduceToNat]
   first | rw [b_err_eql _ _ Try.underlying31] | (rw [e_eql _ _ _ _ (by simp), q_equal]; first | rw [q_iface_nil _ _ _ Try.underlying31] | rw [q_nil_iface _ _ _ Try.underlying31] | rw [q_nil_nil _ _ _ Try.underlying31])
   try simp only [eX, ↓reduceIte, Nat.reduceEqDiff, Int.reduceToNat]
   refine hK _ _ ?_; clear hK K
   refine zae ?_
   try simp only [Ex.thnH, Ex.inBlockH, ↓reduceIte, Nat.reduceEqDiff]
   refine hK8 _ _ ?_; try clear hK8 K8
   refine zaH (fun r => rfl) (fun c10 => ?_) (fun c10 => ?_)
   ·first
    |(exfalso; exact cnA c10; done)
    |skip
     (try simp only [decide_eq_true_eq, decide_eq_false_iff_not, Bool.not_eq_true, Bool.not_eq_false, Bool.and_eq_true, Bool.or_eq_true, Bool.or_eq_false_iff, Bool.not_eq_eq_eq_not, Bool.not_true, Bool.not_false] at c10)
     refine zad (fun K9 hK9 => ?_)
     refine zab ?_
     refine zao rfl ?_
     refine zae ?_
     try simp only [Ex.thnH, Ex.inBlockH, ↓reduceIte, Nat.reduceEqDiff]
     refine hK9 _ _ ?_; try clear hK9 K9
     refine zaV ?_
     try simp only [Ex.thnH, Ex.inBlockH, ↓reduceIte, Nat.reduceEqDiff]
     exact ⟨[_], ⟨rfl, trivial⟩, _, Le.refl _, rfl, rfl⟩
   ·first
    |(exfalso; exact cnA c10; done)
    |skip
     (try simp only [decide_eq_true_eq, decide_eq_false_iff_not, Bool.not_eq_true, Bool.not_eq_false, Bool.and_eq_true, Bool.or_eq_true, Bool.or_eq_false_iff, Bool.not_eq_eq_eq_not, Bool.not_true, Bool.not_false] at c10)
     refine zaL ?_
     try simp only [Ex.thnH, Ex.inBlockH, ↓reduceIte, Nat.reduceEqDiff]
     refine hK7 _ _ ?_; try clear hK7 K7
     refine zad (fun K10 hK10 => ?_)
     refine zad (fun K11 hK11 => ?_)
     refine zab ?_
     refine zag rfl ?_
     refine zac (fun K hK r => ?_)
     simp only [x_typeAssert, eX, ↓reduceIte, Nat.reduceEqDiff, Int.reduceToNat]
     first | rw [t_same _ _ _ Try.underlying61 (by simp)] | rw [t_other _ _ _ _ Try.underlying61 (by simp) (by decide) _ _ zr61] | rw [t_nil _ _ _ Try.underlying61 (by simp) _ zr61]
     try simp only [if_true, Bool.false_eq_true, if_false]
     try simp only [eX, ↓reduceIte, Nat.reduceEqDiff, Int.reduceToNat]
     refine hK _ _ ?_; clear hK K
     refine zag rfl ?_
     refine zac (fun K hK r => ?_)
     simp only [x_extract, i_extract, List.getElem?_toArray, List.getElem?_cons_zero, List.getElem?_cons_succ, zai, eX, ↓reduceIte, Nat.reduceEqDiff, Int.reduceToNat]
     refine hK _ _ ?_; clear hK K
     refine zac (fun K hK r => ?_)
     simp only [x_extract, i_extract, List.getElem?_toArray, List.getElem?_cons_zero, List.getElem?_cons_succ, zai, eX, ↓reduceIte, Nat.reduceEqDiff, Int.reduceToNat]
     refine hK _ _ ?_; clear hK K
     refine zao rfl ?_
     refine zao rfl ?_
     refine zae ?_
     try simp only [Ex.thnH, Ex.inBlockH, ↓reduceIte, Nat.reduceEqDiff]
     refine hK11 _ _ ?_; try clear hK11 K11
     refine zad (fun K12 hK12 => ?_)
     refine zab ?_
     refine zag rfl ?_
     refine zag rfl ?_
     (first | refine OW_split (d := 17) rfl (fun g17 => ?_) (fun g17 => ?_) | skip)
     all_goals try (exfalso; exact cnA g17)
     all_goals (try simp only [decide_eq_true_eq, decide_eq_false_iff_not, Bool.not_eq_true, Bool.not_eq_false, Bool.and_eq_true, Bool.or_eq_true, Bool.or_eq_false_iff, Bool.not_eq_eq_eq_not, Bool.not_true, Bool.not_false] at g17)
     all_goals
      try simp only [eX, ↓reduceIte, Nat.reduceEqDiff, Int.reduceToNat]
      first
      |refine zam rfl (zaa (by decide)) rfl (fun K hK r => ?_)
       simp only [zaq, eX, ↓reduceIte, Nat.reduceEqDiff, Int.reduceToNat]
       refine hK _ _ ?_; clear hK K
      |refine zan rfl (zaa (by decide)) rfl ?_
       simp only [eX, ↓reduceIte, Nat.reduceEqDiff, Int.reduceToNat]
      first
      |refine zam rfl (zaa (by decide)) rfl (fun K hK r => ?_)
       simp (disch := (first | omega | decide)) only [zaI, zaM, b_neq, zau, zaw, zat, zax, zas, zay, Bool.not_true, Bool.not_false, eX, ↓reduceIte, Nat.reduceEqDiff, Int.reduceToNat]
       refine hK _ _ ?_; clear hK K
      |refine zan rfl (zaa (by decide)) rfl ?_
       simp only [eX, ↓reduceIte, Nat.reduceEqDiff, Int.reduceToNat]
      refine zac (fun K hK r => ?_)
      simp only [x_pick, l_asBool, HL.ite_bool, if_true, if_false, Bool.false_eq_true, eX, ↓reduceIte, Nat.reduceEqDiff, Int.reduceToNat]
      refine hK _ _ ?_; clear hK K
      refine zae ?_
      try simp only [Ex.thnH, Ex.inBlockH, ↓reduceIte, Nat.reduceEqDiff]
      refine hK12 _ _ ?_; try clear hK12 K12
      refine zaH (fun r => rfl) (fun c20 => ?_) (fun c20 => ?_)
      ·first
       |(exfalso; exact cnA c20; done)
       |skip
        (try simp only [decide_eq_true_eq, decide_eq_false_iff_not, Bool.not_eq_true, Bool.not_eq_false, Bool.and_eq_true, Bool.or_eq_true, Bool.or_eq_false_iff, Bool.not_eq_eq_eq_not, Bool.not_true, Bool.not_false] at c20)
        refine zad (fun K13 hK13 => ?_)
        refine zab ?_
        refine zag rfl ?_
        refine zao rfl ?_
        refine zae ?_
        try simp only [Ex.thnH, Ex.inBlockH, ↓reduceIte, Nat.reduceEqDiff]
        refine hK13 _ _ ?_; try clear hK13 K13
        refine zaV ?_
        try simp only [Ex.thnH, Ex.inBlockH, ↓reduceIte, Nat.reduceEqDiff]
        exact ⟨[_], ⟨rfl, trivial⟩, _, Le.refl _, rfl, rfl⟩
      ·first
       |(exfalso; exact cnA c20; done)
       |skip
        (try simp only [decide_eq_true_eq, decide_eq_false_iff_not, Bool.not_eq_true, Bool.not_eq_false, Bool.and_eq_true, Bool.or_eq_true, Bool.or_eq_false_iff, Bool.not_eq_eq_eq_not, Bool.not_true, Bool.not_false] at c20)
        refine zaL ?_
        try simp only [Ex.thnH, Ex.inBlockH, ↓reduceIte, Nat.reduceEqDiff]
        refine hK10 _ _ ?_; try clear hK10 K10
        refine zad (fun K14 hK14 => ?_)
        refine zab ?_
        refine zag rfl ?_
        refine zac (fun K hK r => ?_)
        simp only [x_typeAssert, eX, ↓reduceIte, Nat.reduceEqDiff, Int.reduceToNat]
        first | rw [t_same _ _ _ Try.underlying90 (by simp)] | rw [t_other _ _ _ _ Try.underlying90 (by simp) (by decide) _ _ zr90] | rw [t_nil _ _ _ Try.underlying90 (by simp) _ zr90]
        try simp only [if_true, Bool.false_eq_true, if_false]
        try simp only [eX, ↓reduceIte, Nat.reduceEqDiff, Int.reduceToNat]
        refine hK _ _ ?_; clear hK K
        refine zag rfl ?_
        refine zac (fun K hK r => ?_)
        simp only [x_extract, i_extract, List.getElem?_toArray, List.getElem?_cons_zero, List.getElem?_cons_succ, zai, eX, ↓reduceIte, Nat.reduceEqDiff, Int.reduceToNat]
        refine hK _ _ ?_; clear hK K
        refine zac (fun K hK r => ?_)
        simp only [x_extract, i_extract, List.getElem?_toArray, List.getElem?_cons_zero, List.getElem?_cons_succ, zai, eX, ↓reduceIte, Nat.reduceEqDiff, Int.reduceToNat]
        refine hK _ _ ?_; clear hK K
        refine zao rfl ?_
        refine zao rfl ?_
        refine zae ?_
        try simp only [Ex.thnH, Ex.inBlockH, ↓reduceIte, Nat.reduceEqDiff]
        refine hK14 _ _ ?_; try clear hK14 K14
        refine zad (fun K15 hK15 => ?_)
        refine zad (fun K16 hK16 => ?_)
        refine zab ?_
        refine zag rfl ?_
        refine zac (fun K hK r => ?_)
        simp only [x_un, u_not, eX, ↓reduceIte, Nat.reduceEqDiff, Int.reduceToNat]
        refine hK _ _ ?_; clear hK K
        refine zag rfl ?_
        (first | refine OW_split (d := 29) rfl (fun g29 => ?_) (fun g29 => ?_) | skip)
        all_goals try (exfalso; exact cnA g29)
        all_goals (try simp only [decide_eq_true_eq, decide_eq_false_iff_not, Bool.not_eq_true, Bool.not_eq_false, Bool.and_eq_true, Bool.or_eq_true, Bool.or_eq_false_iff, Bool.not_eq_eq_eq_not, Bool.not_true, Bool.not_false] at g29)
        all_goals
         try simp only [eX, ↓reduceIte, Nat.reduceEqDiff, Int.reduceToNat]
         first
         |refine zam rfl (zaa (by decide)) rfl (fun K hK r => ?_)
          simp only [zaq, eX, ↓reduceIte, Nat.reduceEqDiff, Int.reduceToNat]
          refine hK _ _ ?_; clear hK K
         |refine zan rfl (zaa (by decide)) rfl ?_
          simp only [eX, ↓reduceIte, Nat.reduceEqDiff, Int.reduceToNat]
         first
         |refine zam rfl (zaa (by decide)) rfl (fun K hK r => ?_)
          simp only [zaI, zaM, g_bool, g_string, g_pointer, g_slice, g_map, g_func, g_nilFunc, g_iface, g_nil_iface, g_nil_r, g_nil_l, eX, ↓reduceIte, Nat.reduceEqDiff, Int.reduceToNat]
          rw [e_eql _ _ _ _ (by simp)]
          rw [q_equal]
          first | rw [q_ptr_nil _ _ _ Try.underlying90] | rw [q_nil_ptr _ _ _ Try.underlying90]
          try simp only [eX, ↓reduceIte, Nat.reduceEqDiff, Int.reduceToNat]
          refine hK _ _ ?_; clear hK K
         |refine zan rfl (zaa (by decide)) rfl ?_
          simp only [eX, ↓reduceIte, Nat.reduceEqDiff, Int.reduceToNat]
         refine zac (fun K hK r => ?_)
         simp only [x_pick, l_asBool, HL.ite_bool, if_true, if_false, Bool.false_eq_true, eX, ↓reduceIte, Nat.reduceEqDiff, Int.reduceToNat]
         refine hK _ _ ?_; clear hK K
         refine zag rfl ?_
         (first | refine OW_split (d := 33) rfl (fun g33 => ?_) (fun g33 => ?_) | skip)
         all_goals try (exfalso; exact cnA g33)
         all_goals (try simp only [decide_eq_true_eq, decide_eq_false_iff_not, Bool.not_eq_true, Bool.not_eq_false, Bool.and_eq_true, Bool.or_eq_true, Bool.or_eq_false_iff, Bool.not_eq_eq_eq_not, Bool.not_true, Bool.not_false] at g33)
         all_goals
          try simp only [eX, ↓reduceIte, Nat.reduceEqDiff, Int.reduceToNat]
          first
          |refine zam rfl (zaa (by decide)) rfl (fun K hK r => ?_)
           simp only [zaq, eX, ↓reduceIte, Nat.reduceEqDiff, Int.reduceToNat]
           refine hK _ _ ?_; clear hK K
          |refine zan rfl (zaa (by decide)) rfl ?_
           simp only [eX, ↓reduceIte, Nat.reduceEqDiff, Int.reduceToNat]
          first
          |refine zam rfl (zaa (by decide)) rfl (fun K hK r => ?_)
           rw [zaT _ _ rfl]
           simp only [eX, ↓reduceIte, Nat.reduceEqDiff, Int.reduceToNat]
           refine hK _ _ ?_; clear hK K
          |refine zan rfl (zaa (by decide)) rfl ?_
           simp only [eX, ↓reduceIte, Nat.reduceEqDiff, Int.reduceToNat]
          first
          |refine zam rfl (zaa (by decide)) rfl (fun K hK r => ?_)
           simp only [zah, fa93_1, zaA, Nat.reduceAdd, Nat.zero_add, eX, ↓reduceIte, Nat.reduceEqDiff, Int.reduceToNat]
           refine hK _ _ ?_; clear hK K
          |refine zan rfl (zaa (by decide)) rfl ?_
           simp only [eX, ↓reduceIte, Nat.reduceEqDiff, Int.reduceToNat]
          first
          |refine zam rfl (zaa (by decide)) rfl (fun K hK r => ?_)
           simp only [zar, eX, ↓reduceIte, Nat.reduceEqDiff, Int.reduceToNat]
           refine zak Try.underlying31 rfl hbA ldA ?_
           try simp only [eX, ↓reduceIte, Nat.reduceEqDiff, Int.reduceToNat]
           refine hK _ _ ?_; clear hK K
          |refine zan rfl (zaa (by decide)) rfl ?_
           simp only [eX, ↓reduceIte, Nat.reduceEqDiff, Int.reduceToNat]
          first
          |refine zam rfl (zaa (by decide)) rfl (fun K hK r => ?_)
           simp only [zaI, zaM, g_bool, g_string, g_pointer, g_slice, g_map, g_func, g_nilFunc, g_err, g_iface, g_nil_iface, g_nil_r, g_nil_l, eX, ↓reduceIte, Nat.reduceEqDiff, Int.reduceToNat]
           first | rw [b_err_eql _ _ Try.underlying31] | (rw [e_eql _ _ _ _ (by simp), q_equal]; first | rw [q_iface_nil _ _ _ Try.underlying31] | rw [q_nil_iface _ _ _ Try.underlying31] | rw [q_nil_nil _ _ _ Try.underlying31])
           try simp only [eX, ↓reduceIte, Nat.reduceEqDiff, Int.reduceToNat]
           refine hK _ _ ?_; clear hK K
          |refine zan rfl (zaa (by decide)) rfl ?_
           simp only [eX, ↓reduceIte, Nat.reduceEqDiff, Int.reduceToNat]
          refine zac (fun K hK r => ?_)
          simp only [x_pick, l_asBool, HL.ite_bool, if_true, if_false, Bool.false_eq_true, eX, ↓reduceIte, Nat.reduceEqDiff, Int.reduceToNat]
          refine hK _ _ ?_; clear hK K
          refine zae ?_
          try simp only [Ex.thnH, Ex.inBlockH, ↓reduceIte, Nat.reduceEqDiff]
          refine hK16 _ _ ?_; try clear hK16 K16
          refine zaH (fun r => rfl) (fun c39 => ?_) (fun c39 => ?_)
          ·first
           |(exfalso; exact cnA c39; done)
           |skip
            (try simp only [decide_eq_true_eq, decide_eq_false_iff_not, Bool.not_eq_true, Bool.not_eq_false, Bool.and_eq_true, Bool.or_eq_true, Bool.or_eq_false_iff, Bool.not_eq_eq_eq_not, Bool.not_true, Bool.not_false] at c39)
            refine zad (fun K17 hK17 => ?_)
            refine zab ?_
            refine zao rfl ?_
            refine zae ?_
            try simp only [Ex.thnH, Ex.inBlockH, ↓reduceIte, Nat.reduceEqDiff]
            refine hK17 _ _ ?_; try clear hK17 K17
            refine zaV ?_
            try simp only [Ex.thnH, Ex.inBlockH, ↓reduceIte, Nat.reduceEqDiff]
            exact ⟨[_], ⟨rfl, trivial⟩, _, Le.refl _, rfl, rfl⟩
          ·first
           |(exfalso; exact cnA c39; done)
           |skip
            (try simp only [decide_eq_true_eq, decide_eq_false_iff_not, Bool.not_eq_true, Bool.not_eq_false, Bool.and_eq_true, Bool.or_eq_true, Bool.or_eq_false_iff, Bool.not_eq_eq_eq_not, Bool.not_true, Bool.not_false] at c39)
            refine zaL ?_
            try simp only [Ex.thnH, Ex.inBlockH, ↓reduceIte, Nat.reduceEqDiff]
            refine hK15 _ _ ?_; try clear hK15 K15
            refine zab ?_
            refine zag rfl ?_
            refine zac (fun K hK r => ?_)
            rw [zaT _ _ rfl]
            simp only [eX, ↓reduceIte, Nat.reduceEqDiff, Int.reduceToNat]
            refine hK _ _ ?_; clear hK K
            refine zac (fun K hK r => ?_)
            simp only [zah, fa93_1, zaA, Nat.reduceAdd, Nat.zero_add, eX, ↓reduceIte, Nat.reduceEqDiff, Int.reduceToNat]
            refine hK _ _ ?_; clear hK K
            refine zac (fun K hK r => ?_)
            simp only [zar, eX, ↓reduceIte, Nat.reduceEqDiff, Int.reduceToNat]
            refine zak Try.underlying31 rfl hbA ldA ?_
            try simp only [eX, ↓reduceIte, Nat.reduceEqDiff, Int.reduceToNat]
            refine hK _ _ ?_; clear hK K
            refine zao rfl ?_
            refine zae ?_
            try simp only [Ex.thnH, Ex.inBlockH, ↓reduceIte, Nat.reduceEqDiff]
            refine hK6 _ _ ?_; try clear hK6 K6
            refine zab ?_
            refine zac (fun K hK r => ?_)
            simp (disch := (first | omega | decide)) only [zaI, zaM, b_add, zaG, zaK, zaJ, zaR, eX, ↓reduceIte, Nat.reduceEqDiff, Int.reduceToNat]
            refine hK _ _ ?_; clear hK K
            refine zag rfl ?_
            refine zae ?_
            try simp only [Ex.thnH, Ex.inBlockH, ↓reduceIte, Nat.reduceEqDiff]
            exact absurd rfl (by assumption)
 ·first
  |(exfalso; exact cnA c8; done)
  |skip
   (try simp only [decide_eq_true_eq, decide_eq_false_iff_not, Bool.not_eq_true, Bool.not_eq_false, Bool.and_eq_true, Bool.or_eq_true, Bool.or_eq_false_iff, Bool.not_eq_eq_eq_not, Bool.not_true, Bool.not_false] at c8)
   refine CW_exit ?_
   try simp only [Ex.thnH, Ex.inBlockH, ↓reduceIte, Nat.reduceEqDiff]
   refine hK2 _ _ ?_; try clear hK2 K2
   refine zad (fun K18 hK18 => ?_)
   refine zab ?_
   refine zao rfl ?_
   refine zae ?_
   try simp only [Ex.thnH, Ex.inBlockH, ↓reduceIte, Nat.reduceEqDiff]
   refine hK18 _ _ ?_; try clear hK18 K18
   refine zaV ?_
   try simp only [Ex.thnH, Ex.inBlockH, ↓reduceIte, Nat.reduceEqDiff]
   exact ⟨[_], ⟨rfl, trivial⟩, _, Le.refl _, rfl, rfl⟩
abbrev errV : Option Int → Value := errVT 61
def errOk (o : Option Int) : Prop := ∀ k, o = some k → k ≠ 0 ∧ -9223372036854775808 ≤ k ∧ k ≤ 9223372036854775807
theorem num_Num (H : Hp) (o : Option Int) (h : errOk o) : CallH Try.prog 17 #[errV o] H (fun v H' => v = .int .i64 (o.getD 0) ∧ H' = H) := by
  cases o with
  | none => exact num_Num_nil H
  | some k => obtain ⟨h1, h2, h3⟩ := h k rfl; exact num_Num_errno H k h1 h2 h3
set_option maxRecDepth 100000 in
set_option maxHeartbeats 1000000 in
theorem num_Ints (H : Hp) (va vb : Value) (L M : List Int) (ha : Holds H 1 va L.length (i64s L)) (hb : Holds H 1 vb M.length (i64s M)) (hn : L.length ≤ 1000000) : CallH Try.prog 21 #[va, vb] H (fun v H' => v = .bool (decide (L = M)) ∧ H' = H) := by
 refine zaB (l := [_, _]) (rl := [.tmp 4]) (n := 26) Try.func21 rfl rfl rfl rfl rfl ?_
 simp only [envOf, Nat.reduceAdd]
 obtain ⟨aa, ca, rfl⟩ := ha.form
 obtain ⟨ab, cb, rfl⟩ := hb.form
 refine zad (fun K1 hK1 => ?_)
 refine zab ?_
 refine zao rfl ?_
 refine zae ?_
 try simp only [Ex.thnH, Ex.inBlockH, ↓reduceIte, Nat.reduceEqDiff]
 refine hK1 _ _ ?_; try clear hK1 K1
 refine zad (fun K2 hK2 => ?_)
 refine zad (fun K3 hK3 => ?_)
 refine zab ?_
 refine zag rfl ?_
 refine zac (fun K hK r => ?_)
 simp only [zaC, l_len, List.map_toArray, List.map_cons, List.map_nil, zaF _ _ Try.underlying55, eX, ↓reduceIte, Nat.reduceEqDiff, Int.reduceToNat]
 refine hK _ _ ?_; clear hK K
 refine zag rfl ?_
 refine zac (fun K hK r => ?_)
 simp only [zaC, l_len, List.map_toArray, List.map_cons, List.map_nil, zaF _ _ Try.underlying55, eX, ↓reduceIte, Nat.reduceEqDiff, Int.reduceToNat]
 refine hK _ _ ?_; clear hK K
 refine zac (fun K hK r => ?_)
 simp (disch := (first | omega | decide)) only [zaI, zaM, b_neq, zau, zaw, zat, zax, zas, zay, Bool.not_true, Bool.not_false, eX, ↓reduceIte, Nat.reduceEqDiff, Int.reduceToNat]
 refine hK _ _ ?_; clear hK K
 refine zae ?_
 try simp only [Ex.thnH, Ex.inBlockH, ↓reduceIte, Nat.reduceEqDiff]
 refine hK3 _ _ ?_; try clear hK3 K3
 refine zaH (fun r => rfl) (fun c10 => ?_) (fun c10 => ?_)
 ·first
  |(exfalso; exact cnA c10; done)
  |skip
   (try simp only [decide_eq_true_eq, decide_eq_false_iff_not, Bool.not_eq_true, Bool.not_eq_false, Bool.and_eq_true, Bool.or_eq_true, Bool.or_eq_false_iff, Bool.not_eq_eq_eq_not, Bool.not_true, Bool.not_false] at c10)
   refine zad (fun K4 hK4 => ?_)
   refine zab ?_
   refine zao rfl ?_
   refine zae ?_
   try simp only [Ex.thnH, Ex.inBlockH, ↓reduceIte, Nat.reduceEqDiff]
   refine hK4 _ _ ?_; try clear hK4 K4
   refine zaV ?_
   try simp only [Ex.thnH, Ex.inBlockH, ↓reduceIte, Nat.reduceEqDiff]
   refine ⟨[_], ⟨rfl, trivial⟩, _, Le.refl _, ?_, rfl⟩
   show Value.bool _ = _
   rw [decide_eq_false (fun h => by subst h; simp at c10)]
 ·first
  |(exfalso; exact cnA c10; done)
  |skip
   (try simp only [decide_eq_true_eq, decide_eq_false_iff_not, Bool.not_eq_true, Bool.not_eq_false, Bool.and_eq_true, Bool.or_eq_true, Bool.or_eq_false_iff, Bool.not_eq_eq_eq_not, Bool.not_true, Bool.not_false] at c10)
   have hln : L.length = M.length := by omega
   refine zaL ?_
   try simp only [Ex.thnH, Ex.inBlockH, ↓reduceIte, Nat.reduceEqDiff]
   refine hK2 _ _ ?_; try clear hK2 K2
   refine zad (fun K5 hK5 => ?_)
   refine zad (fun K6 hK6 => ?_)
   refine zab ?_
   refine zag rfl ?_
   refine zac (fun K hK r => ?_)
   simp only [zaC, l_len, List.map_toArray, List.map_cons, List.map_nil, zaF _ _ Try.underlying55, eX, ↓reduceIte, Nat.reduceEqDiff, Int.reduceToNat]
   refine hK _ _ ?_; clear hK K
   refine zag rfl ?_
   refine zae ?_
   try simp only [Ex.thnH, Ex.inBlockH, ↓reduceIte, Nat.reduceEqDiff]
   refine hK6 _ _ ?_; try clear hK6 K6
   refine zaP ?_
   refine CW_loop (fun m e H_ => ∃ k : Nat, k ≤ L.length ∧ m = L.length - k ∧ L.take k = M.take k ∧ Env.has [(0, .slice aa L.length ca), (1, .slice ab M.length cb), (12, .int .i64 L.length), (13, .int .i64 k)] e ∧ H_ = H) (L.length) ?_ ?_
   ·skip
    exact ⟨0, by omega, by omega, rfl, ⟨rfl, rfl, rfl, rfl, trivial⟩, rfl⟩
   intro m_ e_ H_ hI_
   obtain ⟨k, hk, rfl, htk, he, rfl⟩ := hI_
   refine CW_env he.sub ?_; clear he e_
   refine zad (fun K7 hK7 => ?_)
   refine zab ?_
   refine zac (fun K hK r => ?_)
   simp (disch := (first | omega | decide)) only [zaI, zaM, b_lss, zau, zaw, zat, zax, zas, zay, Bool.not_true, Bool.not_false, eX, ↓reduceIte, Nat.reduceEqDiff, Int.reduceToNat]
   refine hK _ _ ?_; clear hK K
   refine zae ?_
   try simp only [Ex.thnH, Ex.inBlockH, ↓reduceIte, Nat.reduceEqDiff]
   refine hK7 _ _ ?_; try clear hK7 K7
   refine zad (fun K8 hK8 => ?_)
   refine zaH (fun r => rfl) (fun c14 => ?_) (fun c14 => ?_)
   ·first
    |(exfalso; exact cnA c14; done)
    |skip
     (try simp only [decide_eq_true_eq, decide_eq_false_iff_not, Bool.not_eq_true, Bool.not_eq_false, Bool.and_eq_true, Bool.or_eq_true, Bool.or_eq_false_iff, Bool.not_eq_eq_eq_not, Bool.not_true, Bool.not_false] at c14)
     obtain ⟨ba, oa, qa, Ta, Fa, rfl, hba, hsa, ata⟩ := ha.at (by omega)
     obtain ⟨bb, ob, qb, Tb, Fb, rfl, hbb, hsb, atb⟩ := hb.at (by omega)
     refine zaL ?_
     try simp only [Ex.thnH, Ex.inBlockH, ↓reduceIte, Nat.reduceEqDiff]
     refine hK8 _ _ ?_; try clear hK8 K8
     refine zad (fun K9 hK9 => ?_)
     refine zaP ?_
     refine zad (fun K10 hK10 => ?_)
     refine zab ?_
     refine zag rfl ?_
     refine zao rfl ?_
     refine zae ?_
     try simp only [Ex.thnH, Ex.inBlockH, ↓reduceIte, Nat.reduceEqDiff]
     refine hK10 _ _ ?_; try clear hK10 K10
     refine zad (fun K11 hK11 => ?_)
     refine CW_drawE [0, 0, 0, 1, 0, 0, 0, 1, 0] [0, 1, 2, 3, 4, 5, 6, 7, 8] (by kernel_rfl) (by kernel_rfl) (fun R6 hR6 => ?_)
     apply zaf rfl (zaa (by decide)) rfl
     ·intro r
      simp only [zaq, eX, ↓reduceIte, Nat.reduceEqDiff]
      exact ⟨rfl, Le.refl _⟩
     simp only [eX, ↓reduceIte, Nat.reduceEqDiff, Int.reduceToNat]
     apply zaf rfl (zaa (by decide)) rfl
     ·intro r
      simp only [zaq, eX, ↓reduceIte, Nat.reduceEqDiff]
      exact ⟨rfl, Le.refl _⟩
     simp only [eX, ↓reduceIte, Nat.reduceEqDiff, Int.reduceToNat]
     apply zaf rfl (zaa (by decide)) rfl
     ·intro r
      simp only [zav, eX, ↓reduceIte, Nat.reduceEqDiff]
      refine Lt_indexS Try.underlying55 sz3 ixA ixA ?_
      try simp only [zaA, Nat.mul_one, Nat.zero_add, Int.reduceToNat]
      exact ⟨rfl, Le.refl _⟩
     simp only [eX, ↓reduceIte, Nat.reduceEqDiff, Int.reduceToNat]
     apply zaW rfl (zaa (by decide)) rfl
     ·intro r
      simp only [zar, eX, ↓reduceIte, Nat.reduceEqDiff]
      refine zak Try.underlying3 rfl hbA (v := .int .i64 (L.getD k 0)) (by first | exact ints_at ata rfl _ (by omega) | (simp only [Int.toNat_natCast, Nat.mul_one]; exact ints_at ata rfl _ (by omega))) ?_
      exact ⟨rfl, Le.refl _⟩
     simp only [eX, ↓reduceIte, Nat.reduceEqDiff, Int.reduceToNat]
     apply zaf rfl (zaa (by decide)) rfl
     ·intro r
      simp only [zaq, eX, ↓reduceIte, Nat.reduceEqDiff]
      exact ⟨rfl, Le.refl _⟩
     simp only [eX, ↓reduceIte, Nat.reduceEqDiff, Int.reduceToNat]
     apply zaf rfl (zaa (by decide)) rfl
     ·intro r
      simp only [zaq, eX, ↓reduceIte, Nat.reduceEqDiff]
      exact ⟨rfl, Le.refl _⟩
     simp only [eX, ↓reduceIte, Nat.reduceEqDiff, Int.reduceToNat]
     apply zaf rfl (zaa (by decide)) rfl
     ·intro r
      simp only [zav, eX, ↓reduceIte, Nat.reduceEqDiff]
      refine Lt_indexS Try.underlying55 sz3 ixA ixA ?_
      try simp only [zaA, Nat.mul_one, Nat.zero_add, Int.reduceToNat]
      exact ⟨rfl, Le.refl _⟩
     simp only [eX, ↓reduceIte, Nat.reduceEqDiff, Int.reduceToNat]
     apply zaW rfl (zaa (by decide)) rfl
     ·intro r
      simp only [zar, eX, ↓reduceIte, Nat.reduceEqDiff]
      refine zak Try.underlying3 rfl hbA (v := .int .i64 (M.getD k 0)) (by first | exact ints_at atb rfl _ (by omega) | (simp only [Int.toNat_natCast, Nat.mul_one]; exact ints_at atb rfl _ (by omega))) ?_
      exact ⟨rfl, Le.refl _⟩
     simp only [eX, ↓reduceIte, Nat.reduceEqDiff, Int.reduceToNat]
     apply zaf rfl (zaa (by decide)) rfl
     ·intro r
      simp (disch := (first | omega | decide)) only [zaI, zaM, b_neq, zau, zaw, zat, zax, zas, zay, Bool.not_true, Bool.not_false, eX, ↓reduceIte, Nat.reduceEqDiff]
      exact ⟨rfl, Le.refl _⟩
     simp only [eX, ↓reduceIte, Nat.reduceEqDiff, Int.reduceToNat]
     refine TW_nil ?_
     try simp only [Ex.thnH, Ex.inBlockH, ↓reduceIte, Nat.reduceEqDiff]
     refine hK11 _ _ ?_; try clear hK11 K11
     refine zaH (fun r => rfl) (fun c24 => ?_) (fun c24 => ?_)
     ·first
      |(exfalso; exact cnA c24; done)
      |skip
       (try simp only [decide_eq_true_eq, decide_eq_false_iff_not, Bool.not_eq_true, Bool.not_eq_false, Bool.and_eq_true, Bool.or_eq_true, Bool.or_eq_false_iff, Bool.not_eq_eq_eq_not, Bool.not_true, Bool.not_false] at c24)
       refine zad (fun K12 hK12 => ?_)
       refine zab ?_
       refine zao rfl ?_
       refine zae ?_
       try simp only [Ex.thnH, Ex.inBlockH, ↓reduceIte, Nat.reduceEqDiff]
       refine hK12 _ _ ?_; try clear hK12 K12
       refine zaV ?_
       try simp only [Ex.thnH, Ex.inBlockH, ↓reduceIte, Nat.reduceEqDiff]
       refine ⟨[_], ⟨rfl, trivial⟩, _, Le.refl _, ?_, rfl⟩
       show Value.bool _ = _
       rw [decide_eq_false (fun h => by subst h; simp at c24)]
     ·first
      |(exfalso; exact cnA c24; done)
      |skip
       (try simp only [decide_eq_true_eq, decide_eq_false_iff_not, Bool.not_eq_true, Bool.not_eq_false, Bool.and_eq_true, Bool.or_eq_true, Bool.or_eq_false_iff, Bool.not_eq_eq_eq_not, Bool.not_true, Bool.not_false] at c24)
       refine zaL ?_
       try simp only [Ex.thnH, Ex.inBlockH, ↓reduceIte, Nat.reduceEqDiff]
       refine hK9 _ _ ?_; try clear hK9 K9
       refine zab ?_
       refine zac (fun K hK r => ?_)
       simp (disch := (first | omega | decide)) only [zaI, zaM, b_add, zaG, zaK, zaJ, zaR, eX, ↓reduceIte, Nat.reduceEqDiff, Int.reduceToNat]
       refine hK _ _ ?_; clear hK K
       refine zag rfl ?_
       refine zae ?_
       try simp only [Ex.thnH, Ex.inBlockH, ↓reduceIte, Nat.reduceEqDiff]
       refine ⟨L.length - (k + 1), by omega, k + 1, by omega, rfl, ?_, ⟨rfl, rfl, rfl, rfl, trivial⟩, rfA⟩
       refine take_eq_step htk (by omega) (by omega) ?_
       simpa using c24
   ·first
    |(exfalso; exact cnA c14; done)
    |skip
     (try simp only [decide_eq_true_eq, decide_eq_false_iff_not, Bool.not_eq_true, Bool.not_eq_false, Bool.and_eq_true, Bool.or_eq_true, Bool.or_eq_false_iff, Bool.not_eq_eq_eq_not, Bool.not_true, Bool.not_false] at c14)
     refine CW_exit ?_
     try simp only [Ex.thnH, Ex.inBlockH, ↓reduceIte, Nat.reduceEqDiff]
     refine hK5 _ _ ?_; try clear hK5 K5
     refine zad (fun K13 hK13 => ?_)
     refine zab ?_
     refine zao rfl ?_
     refine zae ?_
     try simp only [Ex.thnH, Ex.inBlockH, ↓reduceIte, Nat.reduceEqDiff]
     refine hK13 _ _ ?_; try clear hK13 K13
     refine zaV ?_
     try simp only [Ex.thnH, Ex.inBlockH, ↓reduceIte, Nat.reduceEqDiff]
     refine ⟨[_], ⟨rfl, trivial⟩, _, Le.refl _, ?_, rfl⟩
     show Value.bool _ = _
     have ek : k = L.length := by omega
     subst ek
     rw [List.take_length, hln, List.take_length] at htk
     rw [decide_eq_true htk]
set_option maxRecDepth 100000 in
set_option maxHeartbeats 1000000 in
theorem num_Writes (H : Hp) (va vb : Value) (L M : List Wr) (ha : Holds H 4 va L.length (wrs L)) (hb : Holds H 4 vb M.length (wrs M)) (hn : L.length ≤ 1000000) : CallH Try.prog 18 #[va, vb] H (fun v H' => v = .bool (decide (L = M)) ∧ H' = H) := by
 refine zaB (l := [_, _]) (rl := [.tmp 4]) (n := 26) Try.func18 rfl rfl rfl rfl rfl ?_
 simp only [envOf, Nat.reduceAdd]
 obtain ⟨aa, ca, rfl⟩ := ha.form
 obtain ⟨ab, cb, rfl⟩ := hb.form
 refine zad (fun K1 hK1 => ?_)
 refine zab ?_
 refine zao rfl ?_
 refine zae ?_
 try simp only [Ex.thnH, Ex.inBlockH, ↓reduceIte, Nat.reduceEqDiff]
 refine hK1 _ _ ?_; try clear hK1 K1
 refine zad (fun K2 hK2 => ?_)
 refine zad (fun K3 hK3 => ?_)
 refine zab ?_
 refine zag rfl ?_
 refine zac (fun K hK r => ?_)
 simp only [zaC, l_len, List.map_toArray, List.map_cons, List.map_nil, zaF _ _ Try.underlying29, eX, ↓reduceIte, Nat.reduceEqDiff, Int.reduceToNat]
 refine hK _ _ ?_; clear hK K
 refine zag rfl ?_
 refine zac (fun K hK r => ?_)
 simp only [zaC, l_len, List.map_toArray, List.map_cons, List.map_nil, zaF _ _ Try.underlying29, eX, ↓reduceIte, Nat.reduceEqDiff, Int.reduceToNat]
 refine hK _ _ ?_; clear hK K
 refine zac (fun K hK r => ?_)
 simp (disch := (first | omega | decide)) only [zaI, zaM, b_neq, zau, zaw, zat, zax, zas, zay, Bool.not_true, Bool.not_false, eX, ↓reduceIte, Nat.reduceEqDiff, Int.reduceToNat]
 refine hK _ _ ?_; clear hK K
 refine zae ?_
 try simp only [Ex.thnH, Ex.inBlockH, ↓reduceIte, Nat.reduceEqDiff]
 refine hK3 _ _ ?_; try clear hK3 K3
 refine zaH (fun r => rfl) (fun c10 => ?_) (fun c10 => ?_)
 ·first
  |(exfalso; exact cnA c10; done)
  |skip
   (try simp only [decide_eq_true_eq, decide_eq_false_iff_not, Bool.not_eq_true, Bool.not_eq_false, Bool.and_eq_true, Bool.or_eq_true, Bool.or_eq_false_iff, Bool.not_eq_eq_eq_not, Bool.not_true, Bool.not_false] at c10)
   refine zad (fun K4 hK4 => ?_)
   refine zab ?_
   refine zao rfl ?_
   refine zae ?_
   try simp only [Ex.thnH, Ex.inBlockH, ↓reduceIte, Nat.reduceEqDiff]
   refine hK4 _ _ ?_; try clear hK4 K4
   refine zaV ?_
   try simp only [Ex.thnH, Ex.inBlockH, ↓reduceIte, Nat.reduceEqDiff]
   refine ⟨[_], ⟨rfl, trivial⟩, _, Le.refl _, ?_, rfl⟩
   show Value.bool _ = _
   rw [decide_eq_false (fun h => by subst h; simp at c10)]
 ·first
  |(exfalso; exact cnA c10; done)
  |skip
   (try simp only [decide_eq_true_eq, decide_eq_false_iff_not, Bool.not_eq_true, Bool.not_eq_false, Bool.and_eq_true, Bool.or_eq_true, Bool.or_eq_false_iff, Bool.not_eq_eq_eq_not, Bool.not_true, Bool.not_false] at c10)
   have hln : L.length = M.length := by omega
   refine zaL ?_
   try simp only [Ex.thnH, Ex.inBlockH, ↓reduceIte, Nat.reduceEqDiff]
   refine hK2 _ _ ?_; try clear hK2 K2
   refine zad (fun K5 hK5 => ?_)
   refine zad (fun K6 hK6 => ?_)
   refine zab ?_
   refine zag rfl ?_
   refine zac (fun K hK r => ?_)
   simp only [zaC, l_len, List.map_toArray, List.map_cons, List.map_nil, zaF _ _ Try.underlying29, eX, ↓reduceIte, Nat.reduceEqDiff, Int.reduceToNat]
   refine hK _ _ ?_; clear hK K
   refine zag rfl ?_
   refine zae ?_
   try simp only [Ex.thnH, Ex.inBlockH, ↓reduceIte, Nat.reduceEqDiff]
   refine hK6 _ _ ?_; try clear hK6 K6
   refine zaP ?_
   refine CW_loop (fun m e H_ => ∃ k : Nat, k ≤ L.length ∧ m = L.length - k ∧ L.take k = M.take k ∧ Env.has [(0, .slice aa L.length ca), (1, .slice ab M.length cb), (12, .int .i64 L.length), (13, .int .i64 k)] e ∧ H_ = H) (L.length) ?_ ?_
   ·skip
    exact ⟨0, by omega, by omega, rfl, ⟨rfl, rfl, rfl, rfl, trivial⟩, rfl⟩
   intro m_ e_ H_ hI_
   obtain ⟨k, hk, rfl, htk, he, rfl⟩ := hI_
   refine CW_env he.sub ?_; clear he e_
   refine zad (fun K7 hK7 => ?_)
   refine zab ?_
   refine zac (fun K hK r => ?_)
   simp (disch := (first | omega | decide)) only [zaI, zaM, b_lss, zau, zaw, zat, zax, zas, zay, Bool.not_true, Bool.not_false, eX, ↓reduceIte, Nat.reduceEqDiff, Int.reduceToNat]
   refine hK _ _ ?_; clear hK K
   refine zae ?_
   try simp only [Ex.thnH, Ex.inBlockH, ↓reduceIte, Nat.reduceEqDiff]
   refine hK7 _ _ ?_; try clear hK7 K7
   refine zad (fun K8 hK8 => ?_)
   refine zaH (fun r => rfl) (fun c14 => ?_) (fun c14 => ?_)
   ·first
    |(exfalso; exact cnA c14; done)
    |skip
     (try simp only [decide_eq_true_eq, decide_eq_false_iff_not, Bool.not_eq_true, Bool.not_eq_false, Bool.and_eq_true, Bool.or_eq_true, Bool.or_eq_false_iff, Bool.not_eq_eq_eq_not, Bool.not_true, Bool.not_false] at c14)
     obtain ⟨ba, oa, qa, Ta, Fa, rfl, hba, hsa, ata⟩ := ha.at (by omega)
     obtain ⟨bb, ob, qb, Tb, Fb, rfl, hbb, hsb, atb⟩ := hb.at (by omega)
     refine zaL ?_
     try simp only [Ex.thnH, Ex.inBlockH, ↓reduceIte, Nat.reduceEqDiff]
     refine hK8 _ _ ?_; try clear hK8 K8
     refine zad (fun K9 hK9 => ?_)
     refine zaP ?_
     refine zad (fun K10 hK10 => ?_)
     refine zab ?_
     refine zag rfl ?_
     refine zao rfl ?_
     refine zae ?_
     try simp only [Ex.thnH, Ex.inBlockH, ↓reduceIte, Nat.reduceEqDiff]
     refine hK10 _ _ ?_; try clear hK10 K10
     refine zad (fun K11 hK11 => ?_)
     refine CW_drawE [0, 0, 0, 1, 0, 0, 0, 1, 0] [0, 1, 2, 3, 4, 5, 6, 7, 8] (by kernel_rfl) (by kernel_rfl) (fun R6 hR6 => ?_)
     apply zaf rfl (zaa (by decide)) rfl
     ·intro r
      simp only [zaq, eX, ↓reduceIte, Nat.reduceEqDiff]
      exact ⟨rfl, Le.refl _⟩
     simp only [eX, ↓reduceIte, Nat.reduceEqDiff, Int.reduceToNat]
     apply zaf rfl (zaa (by decide)) rfl
     ·intro r
      simp only [zaq, eX, ↓reduceIte, Nat.reduceEqDiff]
      exact ⟨rfl, Le.refl _⟩
     simp only [eX, ↓reduceIte, Nat.reduceEqDiff, Int.reduceToNat]
     apply zaf rfl (zaa (by decide)) rfl
     ·intro r
      simp only [zav, eX, ↓reduceIte, Nat.reduceEqDiff]
      refine Lt_indexS Try.underlying29 sz46 ixA ixA ?_
      try simp only [zaA, Nat.mul_one, Nat.zero_add, Int.reduceToNat]
      exact ⟨rfl, Le.refl _⟩
     simp only [eX, ↓reduceIte, Nat.reduceEqDiff, Int.reduceToNat]
     apply zaW rfl (zaa (by decide)) rfl
     ·intro r
      simp only [zar, eX, ↓reduceIte, Nat.reduceEqDiff]
      refine zaS Try.underlying46 rfl sz46 hbA (by simp only [Int.toNat_natCast]; omega) ?_
      simp only [Int.toNat_natCast]
      rw [ext_at Wr.len ata rfl k (by omega) hsa]
      exact ⟨rfl, Le.refl _⟩
     simp only [eX, ↓reduceIte, Nat.reduceEqDiff, Int.reduceToNat]
     apply zaf rfl (zaa (by decide)) rfl
     ·intro r
      simp only [zaq, eX, ↓reduceIte, Nat.reduceEqDiff]
      exact ⟨rfl, Le.refl _⟩
     simp only [eX, ↓reduceIte, Nat.reduceEqDiff, Int.reduceToNat]
     apply zaf rfl (zaa (by decide)) rfl
     ·intro r
      simp only [zaq, eX, ↓reduceIte, Nat.reduceEqDiff]
      exact ⟨rfl, Le.refl _⟩
     simp only [eX, ↓reduceIte, Nat.reduceEqDiff, Int.reduceToNat]
     apply zaf rfl (zaa (by decide)) rfl
     ·intro r
      simp only [zav, eX, ↓reduceIte, Nat.reduceEqDiff]
      refine Lt_indexS Try.underlying29 sz46 ixA ixA ?_
      try simp only [zaA, Nat.mul_one, Nat.zero_add, Int.reduceToNat]
      exact ⟨rfl, Le.refl _⟩
     simp only [eX, ↓reduceIte, Nat.reduceEqDiff, Int.reduceToNat]
     apply zaW rfl (zaa (by decide)) rfl
     ·intro r
      simp only [zar, eX, ↓reduceIte, Nat.reduceEqDiff]
      refine zaS Try.underlying46 rfl sz46 hbA (by simp only [Int.toNat_natCast]; omega) ?_
      simp only [Int.toNat_natCast]
      rw [ext_at Wr.len atb rfl k (by omega) hsb]
      exact ⟨rfl, Le.refl _⟩
     simp only [eX, ↓reduceIte, Nat.reduceEqDiff, Int.reduceToNat]
     apply zaf rfl (zaa (by decide)) rfl
     ·intro r
      simp only [zaI, g_agg _ _ _ _ _ _ eqg46, eX, ↓reduceIte, Nat.reduceEqDiff]
      rw [e_neq _ _ _ _ (by simp)]
      rw [q_equal, qfl46 _ _ (Wr.fit _) (Wr.fit _), Wr.eqV]
      exact ⟨rfl, Le.refl _⟩
     simp only [eX, ↓reduceIte, Nat.reduceEqDiff, Int.reduceToNat]
     refine TW_nil ?_
     try simp only [Ex.thnH, Ex.inBlockH, ↓reduceIte, Nat.reduceEqDiff]
     refine hK11 _ _ ?_; try clear hK11 K11
     refine zaH (fun r => rfl) (fun c24 => ?_) (fun c24 => ?_)
     ·first
      |(exfalso; exact cnA c24; done)
      |skip
       (try simp only [decide_eq_true_eq, decide_eq_false_iff_not, Bool.not_eq_true, Bool.not_eq_false, Bool.and_eq_true, Bool.or_eq_true, Bool.or_eq_false_iff, Bool.not_eq_eq_eq_not, Bool.not_true, Bool.not_false] at c24)
       refine zad (fun K12 hK12 => ?_)
       refine zab ?_
       refine zao rfl ?_
       refine zae ?_
       try simp only [Ex.thnH, Ex.inBlockH, ↓reduceIte, Nat.reduceEqDiff]
       refine hK12 _ _ ?_; try clear hK12 K12
       refine zaV ?_
       try simp only [Ex.thnH, Ex.inBlockH, ↓reduceIte, Nat.reduceEqDiff]
       refine ⟨[_], ⟨rfl, trivial⟩, _, Le.refl _, ?_, rfl⟩
       show Value.bool _ = _
       rw [decide_eq_false (fun h => by subst h; simp at c24)]
     ·first
      |(exfalso; exact cnA c24; done)
      |skip
       (try simp only [decide_eq_true_eq, decide_eq_false_iff_not, Bool.not_eq_true, Bool.not_eq_false, Bool.and_eq_true, Bool.or_eq_true, Bool.or_eq_false_iff, Bool.not_eq_eq_eq_not, Bool.not_true, Bool.not_false] at c24)
       refine zaL ?_
       try simp only [Ex.thnH, Ex.inBlockH, ↓reduceIte, Nat.reduceEqDiff]
       refine hK9 _ _ ?_; try clear hK9 K9
       refine zab ?_
       refine zac (fun K hK r => ?_)
       simp (disch := (first | omega | decide)) only [zaI, zaM, b_add, zaG, zaK, zaJ, zaR, eX, ↓reduceIte, Nat.reduceEqDiff, Int.reduceToNat]
       refine hK _ _ ?_; clear hK K
       refine zag rfl ?_
       refine zae ?_
       try simp only [Ex.thnH, Ex.inBlockH, ↓reduceIte, Nat.reduceEqDiff]
       refine ⟨L.length - (k + 1), by omega, k + 1, by omega, rfl, ?_, ⟨rfl, rfl, rfl, rfl, trivial⟩, rfA⟩
       refine take_eq_step htk (by omega) (by omega) ?_
       simpa using c24
   ·first
    |(exfalso; exact cnA c14; done)
    |skip
     (try simp only [decide_eq_true_eq, decide_eq_false_iff_not, Bool.not_eq_true, Bool.not_eq_false, Bool.and_eq_true, Bool.or_eq_true, Bool.or_eq_false_iff, Bool.not_eq_eq_eq_not, Bool.not_true, Bool.not_false] at c14)
     refine CW_exit ?_
     try simp only [Ex.thnH, Ex.inBlockH, ↓reduceIte, Nat.reduceEqDiff]
     refine hK5 _ _ ?_; try clear hK5 K5
     refine zad (fun K13 hK13 => ?_)
     refine zab ?_
     refine zao rfl ?_
     refine zae ?_
     try simp only [Ex.thnH, Ex.inBlockH, ↓reduceIte, Nat.reduceEqDiff]
     refine hK13 _ _ ?_; try clear hK13 K13
     refine zaV ?_
     try simp only [Ex.thnH, Ex.inBlockH, ↓reduceIte, Nat.reduceEqDiff]
     refine ⟨[_], ⟨rfl, trivial⟩, _, Le.refl _, ?_, rfl⟩
     show Value.bool _ = _
     have ek : k = L.length := by omega
     subst ek
     rw [List.take_length, hln, List.take_length] at htk
     rw [decide_eq_true htk]
end Go.Proofs.Ytjhohnbdhopllaa.HL
end
