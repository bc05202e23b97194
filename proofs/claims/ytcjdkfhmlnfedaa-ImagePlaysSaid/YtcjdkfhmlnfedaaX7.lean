/- Parts of the proof, one behind the other: R63, I52, I53, R64, R65. -/
import Derived.Test.YtcjdkfhmlnfedaaX6
set_option linter.unusedSimpArgs false
set_option linter.unusedVariables false
section
namespace Go.Proofs.Ytcjdkfhmlnfedaa.HL
open Go Go.Proofs
set_option linter.unusedSimpArgs false
set_option linter.unusedVariables false
attribute [local irreducible] Lt Lq CW OW TW CallH
theorem chk_rep {n : Nat} {k : Nat} (h : k < chN (List.replicate n (0 : Int))) : (chk (List.replicate n (0 : Int)) k).length = min 50 (n - 50 * k) := by
  have := (chk_len h).2.2
  rw [this, List.length_replicate]
theorem zeros_row (n : Nat) : (Builtin.zeroCells #[Value.int .u8 0] n) = (u8s (List.replicate n 0)).toArray := by
  apply Array.ext'
  apply List.ext_getElem?
  intro i
  simp only [Builtin.zeroCells, u8s, List.map_replicate, List.toList_toArray, List.getElem?_replicate, Array.getElem?_toList]
  by_cases h : i < n
  · rw [if_pos h]; simp [h, Nat.mod_one]
  · rw [if_neg h]; simp; omega
theorem zero_holds {H : Hp} {b n : Nat} (hb : H b = some (.cells (Builtin.zeroCells #[Value.int .u8 0] n) 5)) : Holds H 1 (.slice (some ⟨b, 0, none⟩) n n) n (u8s (List.replicate n 0)) := by
  refine ⟨by simp, .inr ⟨b, 0, n, _, _, _, rfl, hb, by rw [zeros_row]; simp, ?_⟩⟩
  rw [zeros_row, Array.toList_extract, List.extract_eq_take_drop]
  exact List.take_of_length_le (by simp)
theorem rParts_zero {H : Hp} {b n : Nat} (hb : H b = some (.cells (Builtin.zeroCells #[Value.int .u8 0] n) 5)) (hn : n ≤ 100000) : CallH Try.prog 39 #[.slice (some ⟨b, 0, none⟩) n n] H (fun v' H' => Le H H' ∧ ∃ (vals : List Value) (rs : Option Nat), vals.length = chN (List.replicate n (0 : Int)) ∧ OwnS H' 22 1 v' (chN (List.replicate n (0 : Int))) vals rs ∧ (∀ r, rs = some r → H r = none) ∧ ∀ i, i < chN (List.replicate n (0 : Int)) → Holds H 1 (vals.getD i (Value.slice none 0 0)) (chk (List.replicate n (0 : Int)) i).length (u8s (chk (List.replicate n (0 : Int)) i))) := by
  have h := rParts_ok H (some ⟨b, 0, none⟩) n (List.replicate n (0 : Int)) (by rw [List.length_replicate]; exact zero_holds hb) (by rw [List.length_replicate]; exact Nat.le_refl _) (by rw [List.length_replicate]; exact hn)
  rw [List.length_replicate] at h
  exact h
set_option maxRecDepth 100000 in
set_option maxHeartbeats 16000000 in
theorem rloadL (H : Hp) (a : Option Addr) (cap : Nat) (X : List RDX) (hX : RX H a cap X) (m : RSt) (hm : m.dv = rdv X) {kk : Nat} {s : St} (hP : PR kk s m) (hkk : kk ≤ 100000) (h100 : m.sz0 ≤ 100) (gen ar l : Int) (hby : ∀ k : Nat, (k : Int) < needI l → ByteL (s.rd 0 (2 + ar * areaI (s.sz 0) + k)).1.b) (hl1 : -9223372036854775808 ≤ l) (hl2 : l ≤ 9223372036854775807) : CallH Try.prog 24 #[m.v (.slice a X.length cap), .int .i64 gen, .int .i64 ar, .int .i64 l] H (fun v H' => Le H H' ∧ ∃ x rs, v = .tuple #[x, .int .i64 ((s.load gen ar l).2.getD 0)] ∧ OwnS H' 5 1 x (s.load gen ar l).1.length (u8s (s.load gen ar l).1) rs ∧ ∀ r, rs = some r → H r = none) := by
 refine zaB (l := [_, _, _, _]) (rl := [.tmp 8, .tmp 9]) (n := 78) Try.func24 rfl rfl rfl rfl rfl ?_
 simp only [envOf, Nat.reduceAdd]
 obtain ⟨hsz1, hsz2, hsz3⟩ := hP.sz0
 obtain ⟨hl5, hsl⟩ := hP.len hm
 have hgo0 := hP.rl.go
 refine zad (fun K1 hK1 => ?_)
 refine zaa ?_
 refine zac (fun K hK r => ?_)
 simp only [x_box, Value.cells, eX, ↓reduceIte, Nat.reduceEqDiff, Int.reduceToNat]
 intro b4 hb4
 have f4_H : H b4 = none := zaj lhA hb4
 try simp only [eX, ↓reduceIte, Nat.reduceEqDiff, Int.reduceToNat]
 refine hK _ _ ?_; clear hK K
 refine zao rfl ?_
 refine zao rfl ?_
 refine zae ?_
 try simp only [Ex.thnH, Ex.inBlockH, ↓reduceIte, Nat.reduceEqDiff]
 refine hK1 _ _ ?_; try clear hK1 K1
 refine zad (fun K2 hK2 => ?_)
 refine zad (fun K3 hK3 => ?_)
 refine zaa ?_
 refine zam rfl ?_
 refine zam rfl ?_
 refine zac (fun K hK r => ?_)
 simp only [zaT _ bd38, List.map_toArray, List.map_cons, List.map_nil, eX, ↓reduceIte, Nat.reduceEqDiff, Int.reduceToNat]
 refine (rasked_ok _ gen ar).mono ?_
 rintro v H' ⟨rfl, rfl⟩
 try simp only [eX, ↓reduceIte, Nat.reduceEqDiff, Int.reduceToNat]
 refine hK _ _ ?_; clear hK K
 refine zac (fun K hK r => ?_)
 simp only [x_un, u_not, eX, ↓reduceIte, Nat.reduceEqDiff, Int.reduceToNat]
 refine hK _ _ ?_; clear hK K
 refine zam rfl ?_
 (first | refine zbc (d := 21) rfl (fun g21 => ?_) (fun g21 => ?_) | skip)
 all_goals try (exfalso; exact cnA g21)
 all_goals (try simp only [decide_eq_true_eq, decide_eq_false_iff_not, Bool.not_eq_true, Bool.not_eq_false, Bool.and_eq_true, Bool.or_eq_true, Bool.or_eq_false_iff, Bool.not_eq_eq_eq_not, Bool.not_true, Bool.not_false] at g21)
 all_goals
  try simp only [eX, ↓reduceIte, Nat.reduceEqDiff, Int.reduceToNat]
  first
  |refine zaf rfl (zab (by decide)) rfl (fun K hK r => ?_)
   simp only [zaU, eX, ↓reduceIte, Nat.reduceEqDiff, Int.reduceToNat]
   refine hK _ _ ?_; clear hK K
  |refine zag rfl (zab (by decide)) rfl ?_
   simp only [eX, ↓reduceIte, Nat.reduceEqDiff, Int.reduceToNat]
  first
  |refine zaf rfl (zab (by decide)) rfl (fun K hK r => ?_)
   simp (disch := (first | omega | decide)) only [zaF, zaH, b_lss, zaq, zar, zat, zau, zas, zav, Bool.not_true, Bool.not_false, eX, ↓reduceIte, Nat.reduceEqDiff, Int.reduceToNat]
   refine hK _ _ ?_; clear hK K
  |refine zag rfl (zab (by decide)) rfl ?_
   simp only [eX, ↓reduceIte, Nat.reduceEqDiff, Int.reduceToNat]
  refine zac (fun K hK r => ?_)
  simp only [zbp, zaZ, HL.ite_bool, if_true, if_false, Bool.false_eq_true, eX, ↓reduceIte, Nat.reduceEqDiff, Int.reduceToNat]
  refine hK _ _ ?_; clear hK K
  refine zae ?_
  try simp only [Ex.thnH, Ex.inBlockH, ↓reduceIte, Nat.reduceEqDiff]
  refine hK3 _ _ ?_; try clear hK3 K3
  refine zaG (fun r => rfl) (fun c24 => ?_) (fun c24 => ?_)
  ·first
   |(exfalso; exact cnA c24; done)
   |skip
    skip
    refine zad (fun K4 hK4 => ?_)
    refine zaa ?_
    refine zao rfl ?_
    refine zao rfl ?_
    refine zae ?_
    try simp only [Ex.thnH, Ex.inBlockH, ↓reduceIte, Nat.reduceEqDiff]
    refine hK4 _ _ ?_; try clear hK4 K4
    refine zaR ?_
    try simp only [Ex.thnH, Ex.inBlockH, ↓reduceIte, Nat.reduceEqDiff]
    have hld : s.load gen ar l = ([], some 1) := by
     unfold St.load
     cases h : askI gen ar with
     |false => rw [if_pos rfl]
     |true =>
      rw [if_neg (by simp), if_pos (by first | omega | (simp_all; done) | (simp_all; omega))]
    rw [hld]
    exact ⟨[_, _], ⟨rfl, rfl, trivial⟩, H, lhA, Le.refl _, _, none, rfl, OwnS.nil _ _ _, fun r hr => by cases hr⟩
  ·first
   |(exfalso; exact cnA c24; done)
   |skip
    have hask : askI gen ar = true := by
     cases h : askI gen ar with
     |true => rfl
     |false => simp_all
    obtain ⟨hgn, hrn⟩ := ask_iff.1 hask
    have hln : ¬ l < 0 := by simp_all
    refine zaO ?_
    try simp only [Ex.thnH, Ex.inBlockH, ↓reduceIte, Nat.reduceEqDiff]
    refine hK2 _ _ ?_; try clear hK2 K2
    refine zad (fun K5 hK5 => ?_)
    refine zad (fun K6 hK6 => ?_)
    refine zaa ?_
    refine zac (fun K hK r => ?_)
    simp only [zah, fa38_4, zap, Nat.reduceAdd, Nat.zero_add, eX, ↓reduceIte, Nat.reduceEqDiff, Int.reduceToNat]
    refine hK _ _ ?_; clear hK K
    refine zac (fun K hK r => ?_)
    simp only [zan, eX, ↓reduceIte, Nat.reduceEqDiff, Int.reduceToNat]
    refine zak Try.underlying4 rfl hbA ldA ?_
    try simp only [eX, ↓reduceIte, Nat.reduceEqDiff, Int.reduceToNat]
    refine hK _ _ ?_; clear hK K
    refine zae ?_
    try simp only [Ex.thnH, Ex.inBlockH, ↓reduceIte, Nat.reduceEqDiff]
    refine hK6 _ _ ?_; try clear hK6 K6
    refine zaG (fun r => rfl) (fun c26 => ?_) (fun c26 => ?_)
    ·first
     |(exfalso; exact cnA c26; done)
     |skip
      have hgo : m.gone = true := c26
      refine zad (fun K7 hK7 => ?_)
      refine zaa ?_
      refine zao rfl ?_
      refine zao rfl ?_
      refine zae ?_
      try simp only [Ex.thnH, Ex.inBlockH, ↓reduceIte, Nat.reduceEqDiff]
      refine hK7 _ _ ?_; try clear hK7 K7
      refine zaR ?_
      try simp only [Ex.thnH, Ex.inBlockH, ↓reduceIte, Nat.reduceEqDiff]
      have hld : s.load gen ar l = ([], some 3) := by
       unfold St.load
       rw [if_neg (by rw [hask]; simp), if_neg hln, if_pos (by rw [hgo0]; exact hgo)]
      rw [hld]
      exact ⟨[_, _], ⟨rfl, rfl, trivial⟩, H, lhA, Le.refl _, _, none, rfl, OwnS.nil _ _ _, fun r hr => by cases hr⟩
    ·first
     |(exfalso; exact cnA c26; done)
     |skip
      have hgo : m.gone = false := by simpa using c26
      refine zaO ?_
      try simp only [Ex.thnH, Ex.inBlockH, ↓reduceIte, Nat.reduceEqDiff]
      refine hK5 _ _ ?_; try clear hK5 K5
      refine zad (fun K8 hK8 => ?_)
      refine zad (fun K9 hK9 => ?_)
      refine zaa ?_
      refine zac (fun K hK r => ?_)
      simp only [zan, eX, ↓reduceIte, Nat.reduceEqDiff, Int.reduceToNat]
      first | refine zaN Try.underlying38 rfl sz38 hbA bdA ?_ | refine zaC Try.underlying38 rfl sz38 hbA bdA ?_
      try simp only [List.extract_toArray, List.extract_eq_take_drop, Nat.zero_add, Nat.reduceAdd, Nat.reduceSub, Nat.sub_zero, List.drop_succ_cons, List.drop_zero, List.take_succ_cons, List.take_zero, List.take_nil, List.drop_nil]
      try simp only [eX, ↓reduceIte, Nat.reduceEqDiff, Int.reduceToNat]
      refine hK _ _ ?_; clear hK K
      refine zam rfl ?_
      refine zac (fun K hK r => ?_)
      simp only [zaT _ bd27, List.map_toArray, List.map_cons, List.map_nil, eX, ↓reduceIte, Nat.reduceEqDiff, Int.reduceToNat]
      refine (rfits_ok _ a cap X (hX.le lhA) m hm ⟨hsz2, hsz3⟩ l).mono ?_
      rintro v H' ⟨rfl, rfl⟩
      try simp only [eX, ↓reduceIte, Nat.reduceEqDiff, Int.reduceToNat]
      refine hK _ _ ?_; clear hK K
      refine zac (fun K hK r => ?_)
      simp only [x_un, u_not, eX, ↓reduceIte, Nat.reduceEqDiff, Int.reduceToNat]
      refine hK _ _ ?_; clear hK K
      refine zae ?_
      try simp only [Ex.thnH, Ex.inBlockH, ↓reduceIte, Nat.reduceEqDiff]
      refine hK9 _ _ ?_; try clear hK9 K9
      refine zaG (fun r => rfl) (fun c30 => ?_) (fun c30 => ?_)
      ·first
       |(exfalso; exact cnA c30; done)
       |skip
        have hfit : fitsI m.sz0 l = false := by simpa using c30
        refine zad (fun K10 hK10 => ?_)
        refine zaa ?_
        refine zao rfl ?_
        refine zao rfl ?_
        refine zae ?_
        try simp only [Ex.thnH, Ex.inBlockH, ↓reduceIte, Nat.reduceEqDiff]
        refine hK10 _ _ ?_; try clear hK10 K10
        refine zaR ?_
        try simp only [Ex.thnH, Ex.inBlockH, ↓reduceIte, Nat.reduceEqDiff]
        have hld : s.load gen ar l = ([], some 9) := by
         unfold St.load
         rw [if_neg (by rw [hask]; simp), if_neg hln, if_neg (by rw [hgo0, hgo]; simp), if_pos (by rw [hsz1]; exact hfit)]
        rw [hld]
        exact ⟨[_, _], ⟨rfl, rfl, trivial⟩, H, lhA, Le.refl _, _, none, rfl, OwnS.nil _ _ _, fun r hr => by cases hr⟩
      ·first
       |(exfalso; exact cnA c30; done)
       |skip
        have hfit : fitsI m.sz0 l = true := by simpa using c30
        have hl5000 : l ≤ 5000 := by
         have h := hfit
         have hal := areaI_le hsz3
         rw [fits_eq hal.1] at h
         simp only [Bool.and_eq_true, decide_eq_true_eq] at h
         have : areaI m.sz0 ≤ 50 := by unfold areaI; omega
         omega
        have hmul : 0 ≤ ar * areaI m.sz0 ∧ ar * areaI m.sz0 ≤ 2500 := by
         have hal := areaI_le hsz3
         rcases (show ar = 0 ∨ ar = 1 by omega) with rfl | rfl <;> omega
        refine zaO ?_
        try simp only [Ex.thnH, Ex.inBlockH, ↓reduceIte, Nat.reduceEqDiff]
        refine hK8 _ _ ?_; try clear hK8 K8
        refine zad (fun K11 hK11 => ?_)
        refine zaa ?_
        refine zao rfl ?_
        refine zae ?_
        try simp only [Ex.thnH, Ex.inBlockH, ↓reduceIte, Nat.reduceEqDiff]
        refine hK11 _ _ ?_; try clear hK11 K11
        refine zad (fun K12 hK12 => ?_)
        refine zaa ?_
        refine zam rfl ?_
        refine zac (fun K hK r => ?_)
        simp only [x_makeSlice, eX, ↓reduceIte, Nat.reduceEqDiff, Int.reduceToNat]
        refine Lt_makeSlice Try.underlying22 sz5 by5 zr5 rfl arA arA arA arA ?_
        intro b32 hb32
        try have n32_b4 : b4 ≠ b32 := zai hbA hb32
        have f32_H : H b32 = none := zaj lhA hb32
        try simp only [eX, ↓reduceIte, Nat.reduceEqDiff, Int.reduceToNat]
        refine hK _ _ ?_; clear hK K
        refine zac (fun K hK r => ?_)
        simp only [zaT _ bd39, List.map_toArray, List.map_cons, List.map_nil, eX, ↓reduceIte, Nat.reduceEqDiff, Int.reduceToNat]
        have hl0 : ((l.toNat : Nat) : Int) = l := by omega
        have hzl : (List.replicate l.toNat (0 : Int)).length = l.toNat := List.length_replicate
        refine (rParts_zero (zax _ _ _) (by omega)).mono ?_
        rintro v33 H33 ⟨l33, vals, rsP, hvl, hoP, hrP, hvs⟩
        obtain ⟨pa, pc, rfl⟩ := hoP.holds.form
        have kb4 := l33 b4 (.cells (m.c (.slice a X.length cap)).toArray 38) hbA
        have lH33 : Le H H33 := Le.trans lhA l33
        have hcn : ((chN (List.replicate l.toNat (0 : Int)) : Nat) : Int) = needI l := by rw [← needI_eq, hzl, hl0]
        try simp only [eX, ↓reduceIte, Nat.reduceEqDiff, Int.reduceToNat]
        refine hK _ _ ?_; clear hK K
        refine zao rfl ?_
        refine zae ?_
        try simp only [Ex.thnH, Ex.inBlockH, ↓reduceIte, Nat.reduceEqDiff]
        refine hK12 _ _ ?_; try clear hK12 K12
        refine zad (fun K13 hK13 => ?_)
        refine zad (fun K14 hK14 => ?_)
        refine zaa ?_
        refine zao rfl ?_
        refine zae ?_
        try simp only [Ex.thnH, Ex.inBlockH, ↓reduceIte, Nat.reduceEqDiff]
        refine hK14 _ _ ?_; try clear hK14 K14
        refine zaV ?_
        refine CW_loop (fun m_ e H_ => ∃ (k : Nat) (v : Value) (rs : Option Nat) (out : List Int), k ≤ chN (List.replicate l.toNat (0 : Int)) ∧ m_ = chN (List.replicate l.toNat (0 : Int)) - k ∧ s.loadN gen ar l k = some out ∧ OwnS H_ 5 1 v out.length (u8s out) rs ∧ (∀ r, rs = some r → H33 r = none) ∧ Le H33 H_ ∧ (out.length : Int) = min (50 * (k : Int)) l ∧ Env.has [(1, .int .i64 gen), (2, .int .i64 ar), (3, .int .i64 l), (4, .pointer (some ⟨b4, 0, none⟩)), (11, .slice pa (chN (List.replicate l.toNat (0 : Int))) pc), (10, v), (12, .int .i64 k)] e) (chN (List.replicate l.toNat (0 : Int))) ?_ ?_
        ·skip
         exact ⟨0, _, none, [], by omega, by omega, rfl, OwnS.nil _ _ _, (fun r hr => by cases hr), Le.refl _, by show (0 : Int) = _; omega, rfl, rfl, rfl, rfl, rfl, rfl, rfl, trivial⟩
        intro m_ e_ H_ hI_
        obtain ⟨k, v, rs, out, hk, rfl, hN, hO, hrs, hl33, hlo, he⟩ := hI_
        refine CW_env he.sub ?_; clear he e_
        obtain ⟨va, vc, rfl⟩ := hO.holds.form
        have hlH : Le H H_ := Le.trans lH33 hl33
        have k4 := hl33 _ _ kb4
        refine zad (fun K15 hK15 => ?_)
        refine zad (fun K16 hK16 => ?_)
        refine zaa ?_
        refine zam rfl ?_
        refine zam rfl ?_
        refine zac (fun K hK r => ?_)
        simp only [zaM, l_len, List.map_toArray, List.map_cons, List.map_nil, zaS _ _ Try.underlying101, eX, ↓reduceIte, Nat.reduceEqDiff, Int.reduceToNat]
        refine hK _ _ ?_; clear hK K
        refine zac (fun K hK r => ?_)
        simp (disch := (first | omega | decide)) only [zaF, zaH, b_lss, zaq, zar, zat, zau, zas, zav, Bool.not_true, Bool.not_false, eX, ↓reduceIte, Nat.reduceEqDiff, Int.reduceToNat]
        refine hK _ _ ?_; clear hK K
        refine zae ?_
        try simp only [Ex.thnH, Ex.inBlockH, ↓reduceIte, Nat.reduceEqDiff]
        refine hK16 _ _ ?_; try clear hK16 K16
        refine zaG (fun r => rfl) (fun c37 => ?_) (fun c37 => ?_)
        ·first
         |(exfalso; exact cnA c37; done)
         |skip
          (try simp only [decide_eq_true_eq, decide_eq_false_iff_not, Bool.not_eq_true, Bool.not_eq_false, Bool.and_eq_true, Bool.or_eq_true, Bool.or_eq_false_iff, Bool.not_eq_eq_eq_not, Bool.not_true, Bool.not_false] at c37)
          have hat := at_fine hrn hfit (show (k : Int) < needI l by omega)
          obtain ⟨bv, ov, cv, Tv, Fv, ev, hbv, hsv, atv⟩ := hoP.holds.at (by omega)
          obtain ⟨ea, ec, hve⟩ := (hvs k (by omega)).form
          have hcl := chk_rep (n := l.toNat) (k := k) (by omega)
          refine zaO ?_
          try simp only [Ex.thnH, Ex.inBlockH, ↓reduceIte, Nat.reduceEqDiff]
          refine hK15 _ _ ?_; try clear hK15 K15
          refine zad (fun K17 hK17 => ?_)
          refine zaV ?_
          refine zad (fun K18 hK18 => ?_)
          obtain ⟨R12, hR12⟩ : ∃ R : Hp, R = emptyHp.upd b4 (.cells (m.c (.slice a X.length cap)).toArray 38) := ⟨_, rfl⟩
          refine CW_drawR [1, 0, 1, 2, 0, 0, 0, 0, 2, 0, 0, 0, 4, 3, 0] [0, 1, 2, 3, 4, 5, 6, 7, 8, 9, 10, 11, 12, 13, 14] R12 (by kernel_rfl) (by kernel_rfl) (by subst hR12; exact le_put (le_empty _) k4) (fun lR12 => ?_)
          apply TW_look rfl (zab (by decide)) rfl
          ·intro r
           simp only [zan, eX, ↓reduceIte, Nat.reduceEqDiff]
           first | refine zaN Try.underlying38 rfl sz38 hbA bdA ?_ | refine zaC Try.underlying38 rfl sz38 hbA bdA ?_
           try simp only [List.extract_toArray, List.extract_eq_take_drop, Nat.zero_add, Nat.reduceAdd, Nat.reduceSub, Nat.sub_zero, List.drop_succ_cons, List.drop_zero, List.take_succ_cons, List.take_zero, List.take_nil, List.drop_nil]
           exact ⟨rfl, Le.refl _⟩
          simp only [eX, ↓reduceIte, Nat.reduceEqDiff, Int.reduceToNat]
          apply zay rfl (zab (by decide)) rfl
          ·intro r
           simp only [zaU, eX, ↓reduceIte, Nat.reduceEqDiff]
           exact ⟨rfl, Le.refl _⟩
          simp only [eX, ↓reduceIte, Nat.reduceEqDiff, Int.reduceToNat]
          apply TW_look rfl (zab (by decide)) rfl
          ·intro r
           simp only [zan, eX, ↓reduceIte, Nat.reduceEqDiff]
           first | refine zaN Try.underlying38 rfl sz38 hbA bdA ?_ | refine zaC Try.underlying38 rfl sz38 hbA bdA ?_
           try simp only [List.extract_toArray, List.extract_eq_take_drop, Nat.zero_add, Nat.reduceAdd, Nat.reduceSub, Nat.sub_zero, List.drop_succ_cons, List.drop_zero, List.take_succ_cons, List.take_zero, List.take_nil, List.drop_nil]
           exact ⟨rfl, Le.refl _⟩
          simp only [eX, ↓reduceIte, Nat.reduceEqDiff, Int.reduceToNat]
          refine TW_chain rfl (zab (by decide)) rfl (fun K hK r => ?_)
          simp only [zaT _ bd12, List.map_toArray, List.map_cons, List.map_nil, eX, ↓reduceIte, Nat.reduceEqDiff, Int.reduceToNat]
          refine (rarea_ok _ a cap X (hX.le hlH) m hm ⟨hsz2, hsz3⟩).mono ?_
          rintro v H' ⟨rfl, hq⟩
          have hq := hq.symm
          subst hq
          try simp only [eX, ↓reduceIte, Nat.reduceEqDiff, Int.reduceToNat]
          refine hK _ _ leA ?_; clear hK K
          apply zay rfl (zab (by decide)) rfl
          ·intro r
           simp (disch := (first | omega | decide)) only [zaF, zaH, b_mul, zaw, zaE, zaD, zaQ, eX, ↓reduceIte, Nat.reduceEqDiff]
           exact ⟨rfl, Le.refl _⟩
          simp only [eX, ↓reduceIte, Nat.reduceEqDiff, Int.reduceToNat]
          apply zay rfl (zab (by decide)) rfl
          ·intro r
           simp (disch := (first | omega | decide)) only [zaF, zaH, b_add, zaw, zaE, zaD, zaQ, eX, ↓reduceIte, Nat.reduceEqDiff]
           exact ⟨rfl, Le.refl _⟩
          simp only [eX, ↓reduceIte, Nat.reduceEqDiff, Int.reduceToNat]
          apply zay rfl (zab (by decide)) rfl
          ·intro r
           simp only [zaU, eX, ↓reduceIte, Nat.reduceEqDiff]
           exact ⟨rfl, Le.refl _⟩
          simp only [eX, ↓reduceIte, Nat.reduceEqDiff, Int.reduceToNat]
          apply zay rfl (zab (by decide)) rfl
          ·intro r
           simp (disch := (first | omega | decide)) only [zaF, zaH, b_add, zaw, zaE, zaD, zaQ, eX, ↓reduceIte, Nat.reduceEqDiff]
           exact ⟨rfl, Le.refl _⟩
          simp only [eX, ↓reduceIte, Nat.reduceEqDiff, Int.reduceToNat]
          refine TW_chain rfl (zab (by decide)) rfl (fun K hK r => ?_)
          simp only [zaT _ bd56, List.map_toArray, List.map_cons, List.map_nil, eX, ↓reduceIte, Nat.reduceEqDiff, Int.reduceToNat]
          refine (rread_ok _ a cap X (hX.le hlH) m hm hl5 kk (by omega) (hP.rg hm) 0 (2 + ar * areaI m.sz0 + k)).mono ?_
          rintro v H' ⟨rfl, hq⟩
          have hq := hq.symm
          subst hq
          rw [← hsz1, (hP.rl.read 0 (2 + ar * areaI (s.sz 0) + k)).1, (hP.rl.read 0 (2 + ar * areaI (s.sz 0) + k)).2, rd_fine (by rw [hgo0]; exact hgo) (by rw [hsz1]; exact hat.1) (by rw [hsz1]; exact hat.2)]
          try simp only [eX, ↓reduceIte, Nat.reduceEqDiff, Int.reduceToNat]
          refine hK _ _ leA ?_; clear hK K
          apply zay rfl (zab (by decide)) rfl
          ·intro r
           simp only [zaU, eX, ↓reduceIte, Nat.reduceEqDiff]
           exact ⟨rfl, Le.refl _⟩
          simp only [eX, ↓reduceIte, Nat.reduceEqDiff, Int.reduceToNat]
          apply zay rfl (zab (by decide)) rfl
          ·intro r
           simp only [zaW, zaX, List.getElem?_toArray, List.getElem?_cons_zero, List.getElem?_cons_succ, zal, eX, ↓reduceIte, Nat.reduceEqDiff]
           exact ⟨rfl, Le.refl _⟩
          simp only [eX, ↓reduceIte, Nat.reduceEqDiff, Int.reduceToNat]
          apply zay rfl (zab (by decide)) rfl
          ·intro r
           simp only [zaW, zaX, List.getElem?_toArray, List.getElem?_cons_zero, List.getElem?_cons_succ, zal, eX, ↓reduceIte, Nat.reduceEqDiff]
           exact ⟨rfl, Le.refl _⟩
          simp only [eX, ↓reduceIte, Nat.reduceEqDiff, Int.reduceToNat]
          refine TW_make rfl (zab (by decide)) rfl (fun K hK r => ?_)
          simp only [x_alloc, zr45, zal, Value.cells, eX, ↓reduceIte, Nat.reduceEqDiff, Int.reduceToNat]
          intro b13 hb13
          try have n13_b4 : b4 ≠ b13 := zai hbA hb13
          try have n13_b32 : b32 ≠ b13 := zai hbA hb13
          have f13_H : H b13 = none := zaj lhA hb13
          have f13_R12 : R12 b13 = none := zaj lhA hb13
          try simp only [eX, ↓reduceIte, Nat.reduceEqDiff, Int.reduceToNat]
          refine hK _ _ ?_; clear hK K
          refine TW_last rfl (zaJ) rfl (fun K hK r => ?_)
          simp only [zaL, eX, ↓reduceIte, Nat.reduceEqDiff, Int.reduceToNat]
          refine zaz sz45 (by simp [Sec.h]) hbA (by simp [Sec.h]) (PlainL.ints _ _) (by decide) ?_
          try simp only [upd_upd]
          refine hK _ _ ?_; clear hK K
          apply zay rfl (zab (by decide)) rfl
          ·intro r
           simp only [x_assign, eX, ↓reduceIte, Nat.reduceEqDiff]
           exact ⟨rfl, Le.refl _⟩
          simp only [eX, ↓reduceIte, Nat.reduceEqDiff, Int.reduceToNat]
          refine TW_nil ?_
          try simp only [Ex.thnH, Ex.inBlockH, ↓reduceIte, Nat.reduceEqDiff]
          refine hK18 _ _ ?_; try clear hK18 K18
          refine zad (fun K19 hK19 => ?_)
          refine zaa ?_
          refine zac (fun K hK r => ?_)
          simp only [zan, eX, ↓reduceIte, Nat.reduceEqDiff, Int.reduceToNat]
          refine zaN Try.underlying45 rfl sz45 hbA (by simp [Sec.h]) ?_
          refine hK _ _ ?_; clear hK K
          refine zam rfl ?_
          refine zac (fun K hK r => ?_)
          simp (disch := (first | omega | decide)) only [zaF, zaH, b_mul, zaw, zaE, zaD, zaQ, eX, ↓reduceIte, Nat.reduceEqDiff, Int.reduceToNat]
          refine hK _ _ ?_; clear hK K
          refine zam rfl ?_
          refine zac (fun K hK r => ?_)
          simp (disch := (first | omega | decide)) only [zaF, zaH, b_add, zaw, zaE, zaD, zaQ, eX, ↓reduceIte, Nat.reduceEqDiff, Int.reduceToNat]
          refine hK _ _ ?_; clear hK K
          refine zac (fun K hK r => ?_)
          simp (disch := (first | omega | decide)) only [zaF, zaH, b_add, zaw, zaE, zaD, zaQ, eX, ↓reduceIte, Nat.reduceEqDiff, Int.reduceToNat]
          refine hK _ _ ?_; clear hK K
          refine zac (fun K hK r => ?_)
          simp only [zaT _ bd57, List.map_toArray, List.map_cons, List.map_nil, eX, ↓reduceIte, Nat.reduceEqDiff, Int.reduceToNat]
          refine (rIs_R _ (s.rd 0 (2 + ar * areaI (s.sz 0) + k)).1.b (gen * 8192 + k + 1) 4 (s.rd 0 (2 + ar * areaI (s.sz 0) + k)).1.h (hby k (by omega))).mono ?_
          rintro v59 H59 ⟨x59, ⟨l59, rs59, ho59, hr59⟩, rfl⟩
          obtain ⟨xa, xc, rfl⟩ := ho59.holds.form
          have l59b : Le H_ H59 := Le.trans (le_upd _ _ _ hb13) l59
          have hO59 := hO.le l59b
          have lH59 : Le H H59 := Le.trans hlH l59b
          try simp only [eX, ↓reduceIte, Nat.reduceEqDiff, Int.reduceToNat]
          refine hK _ _ ?_; clear hK K
          refine zam rfl ?_
          refine zac (fun K hK r => ?_)
          simp only [zaW, zaX, List.getElem?_toArray, List.getElem?_cons_zero, List.getElem?_cons_succ, zal, eX, ↓reduceIte, Nat.reduceEqDiff, Int.reduceToNat]
          refine hK _ _ ?_; clear hK K
          refine zac (fun K hK r => ?_)
          simp only [zaW, zaX, List.getElem?_toArray, List.getElem?_cons_zero, List.getElem?_cons_succ, zal, eX, ↓reduceIte, Nat.reduceEqDiff, Int.reduceToNat]
          refine hK _ _ ?_; clear hK K
          refine zao rfl ?_
          refine zao rfl ?_
          refine zae ?_
          try simp only [Ex.thnH, Ex.inBlockH, ↓reduceIte, Nat.reduceEqDiff]
          refine hK19 _ _ ?_; try clear hK19 K19
          refine zad (fun K20 hK20 => ?_)
          refine zad (fun K21 hK21 => ?_)
          refine zaa ?_
          refine zam rfl ?_
          refine zac (fun K hK r => ?_)
          simp only [x_un, u_not, eX, ↓reduceIte, Nat.reduceEqDiff, Int.reduceToNat]
          refine hK _ _ ?_; clear hK K
          refine zam rfl ?_
          (first | refine zbc (d := 64) rfl (fun g64 => ?_) (fun g64 => ?_) | skip)
          all_goals try (exfalso; exact cnA g64)
          all_goals (try simp only [decide_eq_true_eq, decide_eq_false_iff_not, Bool.not_eq_true, Bool.not_eq_false, Bool.and_eq_true, Bool.or_eq_true, Bool.or_eq_false_iff, Bool.not_eq_eq_eq_not, Bool.not_true, Bool.not_false] at g64)
          all_goals
           try simp only [eX, ↓reduceIte, Nat.reduceEqDiff, Int.reduceToNat]
           first
           |refine zaf rfl (zab (by decide)) rfl (fun K hK r => ?_)
            simp only [zaU, eX, ↓reduceIte, Nat.reduceEqDiff, Int.reduceToNat]
            refine hK _ _ ?_; clear hK K
           |refine zag rfl (zab (by decide)) rfl ?_
            simp only [eX, ↓reduceIte, Nat.reduceEqDiff, Int.reduceToNat]
           first
           |refine zaf rfl (zab (by decide)) rfl (fun K hK r => ?_)
            simp only [zaM, l_len, List.map_toArray, List.map_cons, List.map_nil, zaS _ _ Try.underlying22, eX, ↓reduceIte, Nat.reduceEqDiff, Int.reduceToNat]
            refine hK _ _ ?_; clear hK K
           |refine zag rfl (zab (by decide)) rfl ?_
            simp only [eX, ↓reduceIte, Nat.reduceEqDiff, Int.reduceToNat]
           first
           |refine zaf rfl (zab (by decide)) rfl (fun K hK r => ?_)
            simp only [zaU, eX, ↓reduceIte, Nat.reduceEqDiff, Int.reduceToNat]
            refine hK _ _ ?_; clear hK K
           |refine zag rfl (zab (by decide)) rfl ?_
            simp only [eX, ↓reduceIte, Nat.reduceEqDiff, Int.reduceToNat]
           first
           |refine zaf rfl (zab (by decide)) rfl (fun K hK r => ?_)
            simp only [zaU, eX, ↓reduceIte, Nat.reduceEqDiff, Int.reduceToNat]
            refine hK _ _ ?_; clear hK K
           |refine zag rfl (zab (by decide)) rfl ?_
            simp only [eX, ↓reduceIte, Nat.reduceEqDiff, Int.reduceToNat]
           first
           |refine zaf rfl (zab (by decide)) rfl (fun K hK r => ?_)
            simp only [zaK, eX, ↓reduceIte, Nat.reduceEqDiff, Int.reduceToNat]
            refine zbi Try.underlying101 sz22 ev ixA ixA ?_
            try simp only [Int.toNat_natCast, Nat.mul_one]
            refine hK _ _ ?_; clear hK K
           |refine zag rfl (zab (by decide)) rfl ?_
            simp only [eX, ↓reduceIte, Nat.reduceEqDiff, Int.reduceToNat]
           first
           |refine zaf rfl (zab (by decide)) rfl (fun K hK r => ?_)
            simp only [zan, eX, ↓reduceIte, Nat.reduceEqDiff, Int.reduceToNat]
            refine zak Try.underlying22 rfl ((Le.trans hl33 l59b) _ _ hbv) (v := .slice ea (chk (List.replicate l.toNat (0 : Int)) k).length ec) (by rw [← hve]; first | exact vals_at atv (by omega) k (by omega) | (rw [Nat.mul_one]; exact vals_at atv (by omega) k (by omega))) ?_
            refine hK _ _ ?_; clear hK K
           |refine zag rfl (zab (by decide)) rfl ?_
            simp only [eX, ↓reduceIte, Nat.reduceEqDiff, Int.reduceToNat]
           first
           |refine zaf rfl (zab (by decide)) rfl (fun K hK r => ?_)
            simp only [zaM, l_len, List.map_toArray, List.map_cons, List.map_nil, zaS _ _ Try.underlying22, eX, ↓reduceIte, Nat.reduceEqDiff, Int.reduceToNat]
            refine hK _ _ ?_; clear hK K
           |refine zag rfl (zab (by decide)) rfl ?_
            simp only [eX, ↓reduceIte, Nat.reduceEqDiff, Int.reduceToNat]
           first
           |refine zaf rfl (zab (by decide)) rfl (fun K hK r => ?_)
            simp (disch := (first | omega | decide)) only [zaF, zaH, b_neq, zaq, zar, zat, zau, zas, zav, Bool.not_true, Bool.not_false, eX, ↓reduceIte, Nat.reduceEqDiff, Int.reduceToNat]
            refine hK _ _ ?_; clear hK K
           |refine zag rfl (zab (by decide)) rfl ?_
            simp only [eX, ↓reduceIte, Nat.reduceEqDiff, Int.reduceToNat]
           refine zac (fun K hK r => ?_)
           simp only [zbp, zaZ, HL.ite_bool, if_true, if_false, Bool.false_eq_true, eX, ↓reduceIte, Nat.reduceEqDiff, Int.reduceToNat]
           refine hK _ _ ?_; clear hK K
           refine zae ?_
           try simp only [Ex.thnH, Ex.inBlockH, ↓reduceIte, Nat.reduceEqDiff]
           refine hK21 _ _ ?_; try clear hK21 K21
           refine zaG (fun r => rfl) (fun c73 => ?_) (fun c73 => ?_)
           ·first
            |(exfalso; exact cnA c73; done)
            |skip
             skip
             refine zad (fun K22 hK22 => ?_)
             refine zaa ?_
             refine zao rfl ?_
             refine zao rfl ?_
             refine zae ?_
             try simp only [Ex.thnH, Ex.inBlockH, ↓reduceIte, Nat.reduceEqDiff]
             refine hK22 _ _ ?_; try clear hK22 K22
             refine zaR ?_
             try simp only [Ex.thnH, Ex.inBlockH, ↓reduceIte, Nat.reduceEqDiff]
             have hno : ¬ (isB (s.rd 0 (2 + ar * areaI (s.sz 0) + k)).1.b (gen * 8192 + k + 1) 4 = true ∧ ((isD (s.rd 0 (2 + ar * areaI (s.sz 0) + k)).1.b (gen * 8192 + k + 1) 4).length : Int) = min 50 (l - out.length)) := fun hh => by
              first
              |(rw [g64] at hh; cases hh.1; done)
              |(rw [hcl, decide_eq_true (by have := hh.2; omega)] at c73; cases c73; done)
             have h0 := loadN_no hN hno ((needI l).toNat - (k + 1))
             rw [show k + 1 + ((needI l).toNat - (k + 1)) = (needI l).toNat from by omega] at h0
             rw [load_none hask hln (by rw [hgo0]; exact hgo) (by rw [hsz1]; exact hfit) h0]
             exact ⟨[_, _], ⟨rfl, rfl, trivial⟩, _, Le.refl _, lH59, _, none, rfl, OwnS.nil _ _ _, fun r hr => by cases hr⟩
           ·first
            |(exfalso; exact cnA c73; done)
            |skip
             skip
             refine zaO ?_
             try simp only [Ex.thnH, Ex.inBlockH, ↓reduceIte, Nat.reduceEqDiff]
             refine hK20 _ _ ?_; try clear hK20 K20
             refine zaa ?_
             refine zam rfl ?_
             refine zam rfl ?_
             refine zac (fun K hK r => ?_)
             simp only [zaM, l_append, List.map_toArray, List.map_cons, List.map_nil, eX, ↓reduceIte, Nat.reduceEqDiff, Int.reduceToNat]
             have hyes : isB (s.rd 0 (2 + ar * areaI (s.sz 0) + k)).1.b (gen * 8192 + k + 1) 4 = true ∧ ((isD (s.rd 0 (2 + ar * areaI (s.sz 0) + k)).1.b (gen * 8192 + k + 1) 4).length : Int) = min 50 (l - out.length) := by
              refine ⟨g64, Classical.byContradiction fun hE => ?_⟩
              rw [hcl] at c73
              rw [decide_eq_false (by omega)] at c73
              cases c73
             have hdl := isD_len (s.rd 0 (2 + ar * areaI (s.sz 0) + k)).1.b (gen * 8192 + k + 1) 4
             refine Lt_append Try.underlying22 Try.underlying22 (by simp) sz5 by5 (by decide) zr5 rfl _ (n := out.length) (m := (isD (s.rd 0 (2 + ar * areaI (s.sz 0) + k)).1.b (gen * 8192 + k + 1) 4).length) (ds := u8s (isD (s.rd 0 (2 + ar * areaI (s.sz 0) + k)).1.b (gen * 8192 + k + 1) 4)) hO59 (fun Kx => len_holds ho59.holds Kx) (fun Kx => first_slice ho59.holds Kx) (by simp) (fun v hv => by obtain ⟨i, _, rfl⟩ := List.mem_map.1 hv; exact plain_int _ _) (by omega) ?_
             intro v76 H76 rs76 hg76 ho76 hr76
             have lH76 : Le H33 H76 := fun z o hz => hg76.known z o ((Le.trans hl33 l59b) z o hz) (fun e => by rw [hrs z e] at hz; cases hz)
             have hrs76 : ∀ r, rs76 = some r → H33 r = none := fun r e => (hr76 r e).elim (hrs r) (fun hn => zaj (Le.trans hl33 l59b) hn)
             refine hK _ _ ?_; clear hK K
             refine zao rfl ?_
             refine zae ?_
             try simp only [Ex.thnH, Ex.inBlockH, ↓reduceIte, Nat.reduceEqDiff]
             refine hK17 _ _ ?_; try clear hK17 K17
             refine zaa ?_
             refine zam rfl ?_
             refine zac (fun K hK r => ?_)
             simp (disch := (first | omega | decide)) only [zaF, zaH, b_add, zaw, zaE, zaD, zaQ, eX, ↓reduceIte, Nat.reduceEqDiff, Int.reduceToNat]
             refine hK _ _ ?_; clear hK K
             refine zao rfl ?_
             refine zae ?_
             try simp only [Ex.thnH, Ex.inBlockH, ↓reduceIte, Nat.reduceEqDiff]
             exact ⟨chN (List.replicate l.toNat (0 : Int)) - (k + 1), by omega, k + 1, _, rs76, _, by omega, rfl, loadN_some hN hyes.1 hyes.2, by rw [List.length_append, show u8s (out ++ isD (s.rd 0 (2 + ar * areaI (s.sz 0) + k)).1.b (gen * 8192 + k + 1) 4) = u8s out ++ u8s (isD (s.rd 0 (2 + ar * areaI (s.sz 0) + k)).1.b (gen * 8192 + k + 1) 4) from List.map_append]; exact ho76, hrs76, lH76, by rw [List.length_append]; have := hyes.2; omega, rfl, rfl, rfl, rfl, rfl, rfl, rfl, trivial⟩
        ·first
         |(exfalso; exact cnA c37; done)
         |skip
          (try simp only [decide_eq_true_eq, decide_eq_false_iff_not, Bool.not_eq_true, Bool.not_eq_false, Bool.and_eq_true, Bool.or_eq_true, Bool.or_eq_false_iff, Bool.not_eq_eq_eq_not, Bool.not_true, Bool.not_false] at c37)
          have hkn : (k : Int) = needI l := by omega
          refine CW_exit ?_
          try simp only [Ex.thnH, Ex.inBlockH, ↓reduceIte, Nat.reduceEqDiff]
          refine hK13 _ _ ?_; try clear hK13 K13
          refine zad (fun K23 hK23 => ?_)
          refine zaa ?_
          refine zam rfl ?_
          refine zao rfl ?_
          refine zao rfl ?_
          refine zae ?_
          try simp only [Ex.thnH, Ex.inBlockH, ↓reduceIte, Nat.reduceEqDiff]
          refine hK23 _ _ ?_; try clear hK23 K23
          refine zaR ?_
          try simp only [Ex.thnH, Ex.inBlockH, ↓reduceIte, Nat.reduceEqDiff]
          rw [load_some hask hln (by rw [hgo0]; exact hgo) (by rw [hsz1]; exact hfit) (by rw [← hkn, Int.toNat_natCast]; exact hN)]
          exact ⟨[_, _], ⟨rfl, rfl, trivial⟩, _, Le.refl _, hlH, _, rs, rfl, hO, fun r e => zaj lH33 (hrs r e)⟩
end Go.Proofs.Ytcjdkfhmlnfedaa.HL
end
section
namespace Go.Proofs.Ytcjdkfhmlnfedaa.HL
open Go Go.Proofs
set_option linter.unusedSimpArgs false
set_option linter.unusedVariables false
attribute [local irreducible] Lt Lq CW OW TW CallH
theorem OwnS.part {H : Hp} {E : TypeId} {w : Nat} {v : Value} {n : Nat} {cs : List Value} {rs : Option Nat} (h : OwnS H E w v n cs rs) : ∃ G, Le G H ∧ Holds G w v n cs ∧ ∀ x, G x ≠ none → rs = some x := by
  obtain ⟨h1, ⟨h2, h3, h4⟩ | ⟨r, cap, c, h2, h3, h4, h5, h6, h7⟩⟩ := h
  · exact ⟨emptyHp, le_empty _, ⟨h1, .inl ⟨none, 0, h2, h3⟩⟩, fun x hx => absurd rfl hx⟩
  · refine ⟨emptyHp.upd r (.cells c E), le_put (le_empty _) h3, OwnS.holds (E := E) (rs := rs) ⟨h1, .inr ⟨r, cap, c, h2, zax _ _ _, h4, h5, h6, h7⟩⟩, fun x hx => ?_⟩
    by_cases e : x = r
    · rw [e]; exact h7
    · rw [zaA _ _ e] at hx; exact absurd rfl hx
structure Op6 where
  kind : Int
  gen : Int
  area : Int
  n : Int
  ba : Option Addr
  bc : Nat
  b : List Int
  x : Sec
  ka : Option Addr
  kc : Nat
  keep : List Kp
instance : Inhabited Op6 := ⟨⟨0, 0, 0, 0, none, 0, [], Sec.zero, none, 0, []⟩⟩
abbrev Op6.c (o : Op6) : List Value := .int .i64 o.kind :: .int .i64 o.gen :: .int .i64 o.area :: .int .i64 o.n :: .slice o.ba o.b.length o.bc :: (o.x.c ++ [.slice o.ka o.keep.length o.kc])
theorem Op6.len (o : Op6) : o.c.length = 70 := by
  show (o.x.c ++ [_]).length + 5 = 70
  rw [List.length_append, Sec.len]; rfl
theorem Op6.plain (o : Op6) : PlainL o.c := PlainL.cons (plain_int _ _) (PlainL.cons (plain_int _ _) (PlainL.cons (plain_int _ _) (PlainL.cons (plain_int _ _) (PlainL.cons (plain_slice _ _ _) (fun v hv => by
  rcases List.mem_append.1 hv with h | h
  · exact PlainL.ints _ _ v h
  · simp at h; subst h; exact plain_slice _ _ _)))))
theorem Op6.keep_at (o : Op6) : o.c[69]? = some (.slice o.ka o.keep.length o.kc) := by
  show (o.x.c ++ [_])[64]? = _
  rw [List.getElem?_append_right (by rw [Sec.len]; exact Nat.le_refl _), Sec.len]; rfl
theorem Op6.keep' (o : Op6) : o.c.toArray[69]? = some (.slice o.ka o.keep.length o.kc) := by
  rw [List.getElem?_toArray]; exact o.keep_at
abbrev ops6 (l : List Op6) : List Value := l.flatMap Op6.c
structure Op6.ok (H : Hp) (o : Op6) : Prop where
  hk : Holds H 3 (.slice o.ka o.keep.length o.kc) o.keep.length (kps o.keep)
  hb : Holds H 1 (.slice o.ba o.b.length o.bc) o.b.length (u8s o.b)
  hc : o.b.length ≤ o.bc
  n1 : o.n ≤ 9223372036854775807
def short6 (l : List Op6) : Prop := l.length ≤ 41 ∧ ∀ j, j < l.length → (l.getD j default).keep.length ≤ 40 ∧ (l.getD j default).b.length ≤ 2000
set_option maxRecDepth 100000 in
set_option maxHeartbeats 4000000 in
theorem long_ok (H : Hp) (a : Option Addr) (cap : Nat) (l : List Op6) (hv : Holds H 70 (.slice a l.length cap) l.length (ops6 l)) : CallH Try.prog 8 #[.slice a l.length cap] H (fun v H' => ∃ t, v = .bool t ∧ (t = false → short6 l) ∧ H' = H) := by
 refine zaB (l := [_]) (rl := [.tmp 2]) (n := 27) Try.func8 rfl rfl rfl rfl rfl ?_
 simp only [envOf, Nat.reduceAdd]
 refine zad (fun K1 hK1 => ?_)
 refine zaa ?_
 refine zao rfl ?_
 refine zae ?_
 try simp only [Ex.thnH, Ex.inBlockH, ↓reduceIte, Nat.reduceEqDiff]
 refine hK1 _ _ ?_; try clear hK1 K1
 refine zad (fun K2 hK2 => ?_)
 refine zad (fun K3 hK3 => ?_)
 refine zaa ?_
 refine zam rfl ?_
 refine zac (fun K hK r => ?_)
 simp only [zaM, l_len, List.map_toArray, List.map_cons, List.map_nil, zaS _ _ Try.underlying27, eX, ↓reduceIte, Nat.reduceEqDiff, Int.reduceToNat]
 refine hK _ _ ?_; clear hK K
 refine zam rfl ?_
 refine zae ?_
 try simp only [Ex.thnH, Ex.inBlockH, ↓reduceIte, Nat.reduceEqDiff]
 refine hK3 _ _ ?_; try clear hK3 K3
 refine zaV ?_
 refine CW_loop (fun m e H_ => ∃ k : Nat, k ≤ l.length ∧ k ≤ 41 ∧ m = 41 - k ∧ (∀ j, j < k → (l.getD j default).keep.length ≤ 40 ∧ (l.getD j default).b.length ≤ 2000) ∧ Le H H_ ∧ Env.has [(5, .slice a l.length cap), (6, .int .i64 l.length), (7, .int .i64 k)] e) (41) ?_ ?_
 ·skip
  exact ⟨0, by omega, by omega, by omega, (fun j hj => absurd hj (by omega)), Le.refl _, rfl, rfl, rfl, trivial⟩
 intro m_ e_ H_ hI_
 obtain ⟨k, hk, hk81, rfl, hno, hlH, he⟩ := hI_
 refine CW_env he.sub ?_; clear he e_
 refine zad (fun K4 hK4 => ?_)
 refine zaa ?_
 refine zac (fun K hK r => ?_)
 simp (disch := (first | omega | decide)) only [zaF, zaH, b_lss, zaq, zar, zat, zau, zas, zav, Bool.not_true, Bool.not_false, eX, ↓reduceIte, Nat.reduceEqDiff, Int.reduceToNat]
 refine hK _ _ ?_; clear hK K
 refine zae ?_
 try simp only [Ex.thnH, Ex.inBlockH, ↓reduceIte, Nat.reduceEqDiff]
 refine hK4 _ _ ?_; try clear hK4 K4
 refine zad (fun K5 hK5 => ?_)
 refine zaG (fun r => rfl) (fun c8 => ?_) (fun c8 => ?_)
 ·first
  |(exfalso; exact cnA c8; done)
  |skip
   (try simp only [decide_eq_true_eq, decide_eq_false_iff_not, Bool.not_eq_true, Bool.not_eq_false, Bool.and_eq_true, Bool.or_eq_true, Bool.or_eq_false_iff, Bool.not_eq_eq_eq_not, Bool.not_true, Bool.not_false] at c8)
   obtain ⟨bw, ow, cw, Tw, Fw, ew, hbw, hsw, atw⟩ := (hv.le hlH).at (by omega)
   have mo := Nat.mul_le_mul_right 70 (show k + 1 ≤ l.length by omega)
   refine zaO ?_
   try simp only [Ex.thnH, Ex.inBlockH, ↓reduceIte, Nat.reduceEqDiff]
   refine hK5 _ _ ?_; try clear hK5 K5
   refine zad (fun K6 hK6 => ?_)
   refine zaV ?_
   refine zad (fun K7 hK7 => ?_)
   refine zaa ?_
   refine zam rfl ?_
   refine zac (fun K hK r => ?_)
   simp only [zaK, eX, ↓reduceIte, Nat.reduceEqDiff, Int.reduceToNat]
   refine zbi Try.underlying27 sz48 ew ixA ixA ?_
   try simp only [Int.toNat_natCast]
   refine hK _ _ ?_; clear hK K
   refine zac (fun K hK r => ?_)
   simp only [zan, eX, ↓reduceIte, Nat.reduceEqDiff, Int.reduceToNat]
   refine zaC Try.underlying48 rfl sz48 hbw (by omega) ?_
   rw [ext_at Op6.len atw rfl k (by omega) hsw]
   refine hK _ _ ?_; clear hK K
   refine zac (fun K hK r => ?_)
   simp only [x_alloc, zr48, zal, Value.cells, eX, ↓reduceIte, Nat.reduceEqDiff, Int.reduceToNat]
   intro b4 hb4
   have f4_H : H b4 = none := zaj lhA hb4
   try simp only [eX, ↓reduceIte, Nat.reduceEqDiff, Int.reduceToNat]
   refine hK _ _ ?_; clear hK K
   refine zao rfl ?_
   refine zbq rfl (zaJ) (fun K hK r => ?_)
   simp only [zaL, eX, ↓reduceIte, Nat.reduceEqDiff, Int.reduceToNat]
   refine zaz sz48 (by rw [List.size_toArray, Op6.len]) hbA (by simp [Sec.h]) (Op6.plain _) (by decide) ?_
   try simp only [upd_upd]
   refine hK _ _ ?_; clear hK K
   refine zae ?_
   try simp only [Ex.thnH, Ex.inBlockH, ↓reduceIte, Nat.reduceEqDiff]
   refine hK7 _ _ ?_; try clear hK7 K7
   refine zad (fun K8 hK8 => ?_)
   refine zaa ?_
   refine zam rfl ?_
   refine zac (fun K hK r => ?_)
   simp (disch := (first | omega | decide)) only [zaF, zaH, b_gtr, zaq, zar, zat, zau, zas, zav, Bool.not_true, Bool.not_false, eX, ↓reduceIte, Nat.reduceEqDiff, Int.reduceToNat]
   refine hK _ _ ?_; clear hK K
   refine zam rfl ?_
   (first | refine zbc (d := 14) rfl (fun g14 => ?_) (fun g14 => ?_) | skip)
   all_goals try (exfalso; exact cnA g14)
   all_goals (try simp only [decide_eq_true_eq, decide_eq_false_iff_not, Bool.not_eq_true, Bool.not_eq_false, Bool.and_eq_true, Bool.or_eq_true, Bool.or_eq_false_iff, Bool.not_eq_eq_eq_not, Bool.not_true, Bool.not_false] at g14)
   all_goals
    try simp only [eX, ↓reduceIte, Nat.reduceEqDiff, Int.reduceToNat]
    first
    |refine zaf rfl (zab (by decide)) rfl (fun K hK r => ?_)
     simp only [zah, fa48_4, zap, Nat.reduceAdd, Nat.zero_add, eX, ↓reduceIte, Nat.reduceEqDiff, Int.reduceToNat]
     refine hK _ _ ?_; clear hK K
    |refine zag rfl (zab (by decide)) rfl ?_
     simp only [eX, ↓reduceIte, Nat.reduceEqDiff, Int.reduceToNat]
    first
    |refine zaf rfl (zab (by decide)) rfl (fun K hK r => ?_)
     simp only [zan, eX, ↓reduceIte, Nat.reduceEqDiff, Int.reduceToNat]
     refine zak Try.underlying22 rfl hbA ldA ?_
     try simp only [eX, ↓reduceIte, Nat.reduceEqDiff, Int.reduceToNat]
     refine hK _ _ ?_; clear hK K
    |refine zag rfl (zab (by decide)) rfl ?_
     simp only [eX, ↓reduceIte, Nat.reduceEqDiff, Int.reduceToNat]
    first
    |refine zaf rfl (zab (by decide)) rfl (fun K hK r => ?_)
     simp only [zaM, l_len, List.map_toArray, List.map_cons, List.map_nil, zaS _ _ Try.underlying22, eX, ↓reduceIte, Nat.reduceEqDiff, Int.reduceToNat]
     refine hK _ _ ?_; clear hK K
    |refine zag rfl (zab (by decide)) rfl ?_
     simp only [eX, ↓reduceIte, Nat.reduceEqDiff, Int.reduceToNat]
    first
    |refine zaf rfl (zab (by decide)) rfl (fun K hK r => ?_)
     simp (disch := (first | omega | decide)) only [zaF, zaH, b_gtr, zaq, zar, zat, zau, zas, zav, Bool.not_true, Bool.not_false, eX, ↓reduceIte, Nat.reduceEqDiff, Int.reduceToNat]
     refine hK _ _ ?_; clear hK K
    |refine zag rfl (zab (by decide)) rfl ?_
     simp only [eX, ↓reduceIte, Nat.reduceEqDiff, Int.reduceToNat]
    refine zac (fun K hK r => ?_)
    simp only [zbp, zaZ, HL.ite_bool, if_true, if_false, Bool.false_eq_true, eX, ↓reduceIte, Nat.reduceEqDiff, Int.reduceToNat]
    refine hK _ _ ?_; clear hK K
    refine zam rfl ?_
    (first | refine zbc (d := 20) rfl (fun g20 => ?_) (fun g20 => ?_) | skip)
    all_goals try (exfalso; exact cnA g20)
    all_goals (try simp only [decide_eq_true_eq, decide_eq_false_iff_not, Bool.not_eq_true, Bool.not_eq_false, Bool.and_eq_true, Bool.or_eq_true, Bool.or_eq_false_iff, Bool.not_eq_eq_eq_not, Bool.not_true, Bool.not_false] at g20)
    all_goals
     try simp only [eX, ↓reduceIte, Nat.reduceEqDiff, Int.reduceToNat]
     first
     |refine zaf rfl (zab (by decide)) rfl (fun K hK r => ?_)
      simp only [zah, fa48_6, zap, Nat.reduceAdd, Nat.zero_add, eX, ↓reduceIte, Nat.reduceEqDiff, Int.reduceToNat]
      refine hK _ _ ?_; clear hK K
     |refine zag rfl (zab (by decide)) rfl ?_
      simp only [eX, ↓reduceIte, Nat.reduceEqDiff, Int.reduceToNat]
     first
     |refine zaf rfl (zab (by decide)) rfl (fun K hK r => ?_)
      simp only [zan, eX, ↓reduceIte, Nat.reduceEqDiff, Int.reduceToNat]
      refine zak Try.underlying46 rfl hbA (Op6.keep' _) ?_
      refine hK _ _ ?_; clear hK K
     |refine zag rfl (zab (by decide)) rfl ?_
      simp only [eX, ↓reduceIte, Nat.reduceEqDiff, Int.reduceToNat]
     first
     |refine zaf rfl (zab (by decide)) rfl (fun K hK r => ?_)
      simp only [zaM, l_len, List.map_toArray, List.map_cons, List.map_nil, zaS _ _ Try.underlying46, eX, ↓reduceIte, Nat.reduceEqDiff, Int.reduceToNat]
      refine hK _ _ ?_; clear hK K
     |refine zag rfl (zab (by decide)) rfl ?_
      simp only [eX, ↓reduceIte, Nat.reduceEqDiff, Int.reduceToNat]
     first
     |refine zaf rfl (zab (by decide)) rfl (fun K hK r => ?_)
      simp (disch := (first | omega | decide)) only [zaF, zaH, b_gtr, zaq, zar, zat, zau, zas, zav, Bool.not_true, Bool.not_false, eX, ↓reduceIte, Nat.reduceEqDiff, Int.reduceToNat]
      refine hK _ _ ?_; clear hK K
     |refine zag rfl (zab (by decide)) rfl ?_
      simp only [eX, ↓reduceIte, Nat.reduceEqDiff, Int.reduceToNat]
     refine zac (fun K hK r => ?_)
     simp only [zbp, zaZ, HL.ite_bool, if_true, if_false, Bool.false_eq_true, eX, ↓reduceIte, Nat.reduceEqDiff, Int.reduceToNat]
     refine hK _ _ ?_; clear hK K
     refine zae ?_
     try simp only [Ex.thnH, Ex.inBlockH, ↓reduceIte, Nat.reduceEqDiff]
     refine hK8 _ _ ?_; try clear hK8 K8
     refine zaG (fun r => rfl) (fun c25 => ?_) (fun c25 => ?_)
     ·first
      |(exfalso; exact cnA c25; done)
      |skip
       (try simp only [decide_eq_true_eq, decide_eq_false_iff_not, Bool.not_eq_true, Bool.not_eq_false, Bool.and_eq_true, Bool.or_eq_true, Bool.or_eq_false_iff, Bool.not_eq_eq_eq_not, Bool.not_true, Bool.not_false] at c25)
       refine zad (fun K9 hK9 => ?_)
       refine zaa ?_
       refine zao rfl ?_
       refine zae ?_
       try simp only [Ex.thnH, Ex.inBlockH, ↓reduceIte, Nat.reduceEqDiff]
       refine hK9 _ _ ?_; try clear hK9 K9
       refine zaR ?_
       try simp only [Ex.thnH, Ex.inBlockH, ↓reduceIte, Nat.reduceEqDiff]
       exact ⟨[_], ⟨rfl, trivial⟩, H, lhA, true, rfl, (fun h => by cases h), rfl⟩
     ·first
      |(exfalso; exact cnA c25; done)
      |skip
       (try simp only [decide_eq_true_eq, decide_eq_false_iff_not, Bool.not_eq_true, Bool.not_eq_false, Bool.and_eq_true, Bool.or_eq_true, Bool.or_eq_false_iff, Bool.not_eq_eq_eq_not, Bool.not_true, Bool.not_false] at c25)
       refine zaO ?_
       try simp only [Ex.thnH, Ex.inBlockH, ↓reduceIte, Nat.reduceEqDiff]
       refine hK6 _ _ ?_; try clear hK6 K6
       refine zaa ?_
       refine zac (fun K hK r => ?_)
       simp (disch := (first | omega | decide)) only [zaF, zaH, b_add, zaw, zaE, zaD, zaQ, eX, ↓reduceIte, Nat.reduceEqDiff, Int.reduceToNat]
       refine hK _ _ ?_; clear hK K
       refine zam rfl ?_
       refine zae ?_
       try simp only [Ex.thnH, Ex.inBlockH, ↓reduceIte, Nat.reduceEqDiff]
       refine ⟨41 - (k + 1), by omega, k + 1, by omega, by omega, rfl, (fun j hj => ?_), lhA, rfl, rfl, rfl, trivial⟩
       by_cases e : j = k
       ·subst e; omega
       ·exact hno j (by omega)
 ·first
  |(exfalso; exact cnA c8; done)
  |skip
   (try simp only [decide_eq_true_eq, decide_eq_false_iff_not, Bool.not_eq_true, Bool.not_eq_false, Bool.and_eq_true, Bool.or_eq_true, Bool.or_eq_false_iff, Bool.not_eq_eq_eq_not, Bool.not_true, Bool.not_false] at c8)
   have hkn : k = l.length := by omega
   refine CW_exit ?_
   try simp only [Ex.thnH, Ex.inBlockH, ↓reduceIte, Nat.reduceEqDiff]
   refine hK2 _ _ ?_; try clear hK2 K2
   refine zad (fun K10 hK10 => ?_)
   refine zaa ?_
   refine zao rfl ?_
   refine zae ?_
   try simp only [Ex.thnH, Ex.inBlockH, ↓reduceIte, Nat.reduceEqDiff]
   refine hK10 _ _ ?_; try clear hK10 K10
   refine zaR ?_
   try simp only [Ex.thnH, Ex.inBlockH, ↓reduceIte, Nat.reduceEqDiff]
   subst hkn
   exact ⟨[_], ⟨rfl, trivial⟩, H, lhA, false, rfl, (fun _ => ⟨hk81, hno⟩), rfl⟩
end Go.Proofs.Ytcjdkfhmlnfedaa.HL
end
section
namespace Go.Proofs.Ytcjdkfhmlnfedaa.HL
open Go Go.Proofs
set_option linter.unusedSimpArgs false
set_option linter.unusedVariables false
attribute [local irreducible] Lt Lq CW OW TW CallH
theorem mod_any (x k : Int) (hk : 0 < k) (hk2 : k ≤ 100000) : ∃ o : Int, IntKind.i64.wrap ((IntKind.u64.wrap x).tmod k) = o ∧ 0 ≤ o ∧ o < k := by
  have h0 : 0 ≤ IntKind.u64.wrap x := by rw [u64_def]; omega
  have e : (IntKind.u64.wrap x).tmod k = (IntKind.u64.wrap x) % k := Int.tmod_eq_emod_of_nonneg h0
  have h1 := Int.emod_nonneg (IntKind.u64.wrap x) (show k ≠ 0 by omega)
  have h2 := Int.emod_lt_of_pos (IntKind.u64.wrap x) hk
  rw [← e] at h1 h2
  exact ⟨_, zaw _ (by omega) (by omega), h1, h2⟩
theorem good_one {n : Int} (h : 1 ≤ n ∧ n ≤ 4096) : goodN [n] = true := by
  unfold goodN okN
  simp only [List.length_cons, List.length_nil, List.all_cons, List.all_nil, Bool.and_true, Bool.and_eq_true, decide_eq_true_eq]
  omega
end Go.Proofs.Ytcjdkfhmlnfedaa.HL
end
section
namespace Go.Proofs.Ytcjdkfhmlnfedaa.HL
open Go Go.Proofs
set_option linter.unusedSimpArgs false
set_option linter.unusedVariables false
attribute [local irreducible] Lt Lq CW OW TW CallH
structure BS (s : St) : Prop where
  su : ∀ z, ByteL ((s.dv.getD 0 default).sure z).b
  wa : ∀ w ∈ (s.dv.getD 0 default).wait, ByteL w.x.b
theorem lastW_mem {ws : List Wt} {i : Int} {x : Sec} : lastW ws i = some x → ∃ w ∈ ws, w.x = x := by
  induction ws with
  | nil => intro h; cases h
  | cons v r ih =>
    intro h
    have h' : (match lastW r i with | some x => some x | none => if v.at_ = i then some v.x else none) = some x := h
    cases hr : lastW r i with
    | some y =>
      rw [hr] at h'
      obtain ⟨w, h1, h2⟩ := ih (by rw [hr]; exact h')
      exact ⟨w, List.mem_cons_of_mem _ h1, h2⟩
    | none =>
      rw [hr] at h'
      by_cases e : v.at_ = i
      · simp only [if_pos e] at h'
        exact ⟨v, by simp, by injection h'⟩
      · simp only [if_neg e] at h'
        cases h'
theorem BS.rd {s : St} (h : BS s) (z : Int) : ByteL (s.rd 0 z).1.b := rd_byte (fun z => by
  unfold St.r0 Dv.read
  cases hl : lastW (s.dv.getD 0 default).wait z with
  | none => exact h.su z
  | some x =>
    obtain ⟨w, h1, h2⟩ := lastW_mem hl
    rw [Option.getD_some, ← h2]
    exact h.wa w h1) z
theorem BS.congr {s t : St} (h : BS s) (e : t.dv = s.dv) : BS t := ⟨by rw [e]; exact h.su, by rw [e]; exact h.wa⟩
theorem BS.dev {s t : St} (h : BS s) {d : Dv} (e : t.dv = s.dv.set 0 d) (h1 : ∀ z, ByteL (d.sure z).b) (h2 : ∀ w ∈ d.wait, ByteL w.x.b) : BS t := by
  by_cases hl : 0 < s.dv.length
  · have hd : t.dv.getD 0 default = d := by rw [e, getD_set, if_pos ⟨rfl, hl⟩]
    exact ⟨by rw [hd]; exact h1, by rw [hd]; exact h2⟩
  · have hd : t.dv.getD 0 default = s.dv.getD 0 default := by rw [e, getD_set, if_neg (fun hh => hl hh.2)]
    exact ⟨by rw [hd]; exact h.su, by rw [hd]; exact h.wa⟩
theorem BS.wr {s : St} (h : BS s) (z : Int) {x : Sec} (hx : ByteL x.b) : BS (s.wr 0 z x).1 := by
  rcases wr_cases s 0 z x with ⟨e, _⟩ | ⟨e, _⟩ | ⟨e, _⟩
  · rw [e]; exact h
  · rw [e]; exact h.congr (step_dv s)
  · rw [e]
    refine h.dev (d := (s.dv.getD 0 default).put ⟨z, x⟩) rfl h.su (fun w hw => ?_)
    rcases List.mem_append.1 hw with hm | hm
    · exact h.wa w hm
    · simp at hm; subst hm; exact hx
theorem torn_bytes {x old : Sec} {t : Int} (h1 : ByteL x.b) (h2 : ByteL old.b) : ByteL (torn x old t).b := by
  unfold torn
  split
  · intro b hb
    rcases List.mem_append.1 hb with hb | hb
    · exact h1 b (List.mem_of_mem_take hb)
    · exact h2 b (List.mem_of_mem_drop hb)
  · exact h1
theorem BS.stN {ws : List Wt} {s0 : Int → Sec} (h1 : ∀ z, ByteL (s0 z).b) (h2 : ∀ w ∈ ws, ByteL w.x.b) (kept : Nat → Option Int) : ∀ n, n ≤ ws.length → ∀ z, ByteL (Go.Proofs.Ytcjdkfhmlnfedaa.HL.stN kept ws s0 n z).b
  | 0, _, z => h1 z
  | n + 1, hn, z => by
    have ih := BS.stN h1 h2 kept n (by omega)
    have hm : ws.getD n default ∈ ws := by
      rw [List.getD_eq_getElem?_getD, List.getElem?_eq_getElem (by omega)]; exact List.getElem_mem _
    show ByteL ((match kept n with | none => Go.Proofs.Ytcjdkfhmlnfedaa.HL.stN kept ws s0 n | some t => _) z).b
    cases hk : kept n with
    | none => exact ih z
    | some t =>
      simp only
      split
      · exact torn_bytes (h2 _ hm) (ih _)
      · exact ih z
theorem BS.fl {s : St} (h : BS s) : BS (s.fl 0).1 := by
  rcases fl_cases s 0 with ⟨e, _⟩ | ⟨e, _⟩ | ⟨e, _⟩
  · rw [e]; exact h
  · rw [e]; exact h.congr (step_dv s)
  · rw [e]
    exact h.dev (d := (s.dv.getD 0 default).settle (fun _ => some 0)) rfl (fun z => BS.stN h.su h.wa _ _ (Nat.le_refl _) z) (fun w hw => by simp [Dv.settle] at hw)
theorem BS.cr {s : St} (h : BS s) (l : List Kp) (hl : 0 < s.dv.length) : BS (s.cr l) := by
  have hd : (s.cr l).dv.getD 0 default = (s.dv.getD 0 default).settle (fun n => keepOf l (0 : Nat) n) := by
    simp [St.cr, List.getD_eq_getElem?_getD, List.getElem?_mapIdx, List.getElem?_eq_getElem hl]
  exact ⟨by rw [hd]; exact fun z => BS.stN h.su h.wa _ _ (Nat.le_refl _) z, by rw [hd]; exact fun w hw => by simp [Dv.settle] at hw⟩
theorem BS.saveN {s : St} (h : BS s) (gen ar : Int) {b : List Int} (hb : ByteL b) : ∀ k, BS (s.saveN gen ar b k).1
  | 0 => h
  | k + 1 => by
    have ih := BS.saveN h gen ar hb k
    unfold St.saveN
    split
    · rename_i t e; rw [e] at ih; exact ih.wr _ (sealI_byte (chk_byte' hb k))
    · rename_i t e2 e; rw [e] at ih; exact ih
theorem BS.save {s : St} (h : BS s) (gen ar : Int) {b : List Int} (hb : ByteL b) : BS (s.save gen ar b).1 := by
  unfold St.save
  split
  · exact h
  split
  · exact h
  have hk := h.saveN gen ar hb (chN b)
  split
  · rename_i t e; rw [e] at hk; exact hk.fl
  · rename_i t e2 e; rw [e] at hk; exact hk
theorem BS.new (n : Int) : BS (newSt [n]) := ⟨fun z => zero_byte, fun w hw => by simp [newSt, newDv] at hw⟩
theorem loadN_byte {s : St} (h : BS s) {gen ar n : Int} : ∀ {k o}, s.loadN gen ar n k = some o → ByteL o
  | 0, o, e => by cases e; intro x hx; cases hx
  | k + 1, o, e => by
    unfold St.loadN at e
    cases hN : s.loadN gen ar n k with
    | none => rw [hN] at e; cases e
    | some o' =>
      rw [hN] at e
      simp only at e
      split at e
      · cases e
        intro x hx
        rcases List.mem_append.1 hx with hx | hx
        · exact loadN_byte h hN x hx
        · unfold isD at hx
          split at hx
          · exact opD_byte (h.rd _) x hx
          · cases hx
      · cases e
theorem load_byte {s : St} (h : BS s) (gen ar n : Int) : ByteL (s.load gen ar n).1 := by
  have hn : ByteL ([] : List Int) := fun x hx => by cases hx
  unfold St.load
  split
  · exact hn
  split
  · exact hn
  split
  · exact hn
  split
  · exact hn
  split
  · exact hn
  · rename_i o e; exact loadN_byte h e
theorem save_err (s : St) (gen ar : Int) (b : List Int) : errOk (s.save gen ar b).2 := fun k hk => by
  have hN : ∀ n k, (s.saveN gen ar b n).2 = some k → k ≠ 0 ∧ -9223372036854775808 ≤ k ∧ k ≤ 9223372036854775807 := by
    intro n
    induction n with
    | zero => intro k h; cases h
    | succ n ih =>
      intro k h
      cases hc : (s.saveN gen ar b n).2 with
      | none => rw [saveN_next hc] at h; exact wr_err _ _ _ _ k h
      | some e => rw [show s.saveN gen ar b (n + 1) = s.saveN gen ar b n from saveN_stop hc 1] at h; exact ih k h
  unfold St.save at hk
  split at hk
  · cases hk; decide
  split at hk
  · cases hk; decide
  split at hk
  · exact fl_err _ _ k hk
  · rename_i t e2 e; cases hk; exact hN _ _ (by rw [e])
theorem load_err (s : St) (gen ar n : Int) : errOk (s.load gen ar n).2 := fun k hk => by
  unfold St.load at hk
  split at hk
  · cases hk; decide
  split at hk
  · cases hk; decide
  split at hk
  · cases hk; decide
  split at hk
  · cases hk; decide
  split at hk
  · cases hk; decide
  · cases hk
end Go.Proofs.Ytcjdkfhmlnfedaa.HL
end
section
namespace Go.Proofs.Ytcjdkfhmlnfedaa.HL
open Go Go.Proofs
set_option linter.unusedSimpArgs false
set_option linter.unusedVariables false
attribute [local irreducible] Lt Lq CW OW TW CallH
structure B6 (H0 Q K F : Hp) (p : Nat) (s : St) (a : Option Addr) (cap : Nat) (X : List RDX) (m : RSt) (n b : Nat) : Prop where
  old : Le H0 Q
  st : Stn Q K F p s
  rx : RX Q a cap X
  dv : m.dv = rdv X
  pr : PR n s m
  q : Q b = none
  f : F b = none
  box : K b = some (.cells (m.c (.slice a X.length cap)).toArray 38)
  bs : BS s
  len : s.dv.length = 1
  sz : m.sz0 ≤ 100
theorem Stn.with {Q K F : Hp} {p : Nat} {s : St} (h : Stn Q K F p s) {b : Nat} {o : Obj} (hK : K b = some o) (hF : F b = none) : Stn (Q.upd b o) K F p s :=
  ⟨h.set, h.le, le_put h.old hK, fun x hx => by
    by_cases e : x = b
    · rw [e]; exact hF
    · rw [zaA _ _ e] at hx; exact h.ap x hx⟩
theorem Op6.sec (o : Op6) : o.c.toArray.extract 5 (5 + 64) = o.x.c.toArray := by
  apply Array.ext'
  rw [Array.toList_extract, List.extract_eq_take_drop]
  show ((o.x.c ++ [_]).drop 0).take 64 = _
  rw [List.drop_zero, List.take_append_of_le_length (by rw [Sec.len]; exact Nat.le_refl _), List.take_of_length_le (by rw [Sec.len]; exact Nat.le_refl _)]
theorem B6.fin {H0 G K F : Hp} {p : Nat} {s : St} {a : Option Addr} {cap : Nat} {X : List RDX} {m : RSt} {n b : Nat} (h1 : Le H0 G) (h2 : Stn G K F p s) (h3 : RX G a cap X) (h4 : m.dv = rdv X) (h5 : PR n s m) (h6 : G b = none) (h7 : F b = none) (h8 : BS s) (h9 : s.dv.length = 1) (h10 : m.sz0 ≤ 100) : B6 H0 G (K.upd b (.cells (m.c (.slice a X.length cap)).toArray 38)) F p s a cap X m n b := ⟨h1, h2.off h7 h6 _, h3, h4, h5, h6, h7, zax _ _ _, h8, h9, h10⟩
theorem fl_szE (s : St) (dev z : Int) : (s.fl dev).1.sz z = s.sz z := by
  rcases fl_cases s dev with ⟨e, _⟩ | ⟨e, _⟩ | ⟨e, _⟩
  · rw [e]
  · rw [e]; unfold St.sz; rw [step_dv]
  · rw [e]
    unfold St.sz
    show (if 0 ≤ z ∧ z < ((s.dv.set dev.toNat _).length : Int) then ((s.dv.set dev.toNat _).getD z.toNat default).size else 0) = _
    rw [List.length_set]
    by_cases h : 0 ≤ z ∧ z < s.dv.length
    · rw [if_pos h, if_pos h, getD_set]
      split
      · rename_i e2; rw [e2.1]; rfl
      · rfl
    · rw [if_neg h, if_neg h]
theorem save_szE (s : St) (gen ar : Int) (b : List Int) (z : Int) : (s.save gen ar b).1.sz z = s.sz z := by
  unfold St.save
  split
  · rfl
  split
  · rfl
  have hk := saveN_sz s gen ar b z (chN b)
  split
  · rename_i t e; rw [e] at hk; rw [fl_szE]; exact hk
  · rename_i t e2 e; rw [e] at hk; exact hk
theorem wr_lenE (s : St) (dev i : Int) (x : Sec) : (s.wr dev i x).1.dv.length = s.dv.length := by
  rcases wr_cases s dev i x with ⟨e, _⟩ | ⟨e, _⟩ | ⟨e, _⟩ <;> rw [e]
  · rw [step_dv]
  · simp
theorem fl_lenE (s : St) (dev : Int) : (s.fl dev).1.dv.length = s.dv.length := by
  rcases fl_cases s dev with ⟨e, _⟩ | ⟨e, _⟩ | ⟨e, _⟩ <;> rw [e]
  · rw [step_dv]
  · simp
theorem saveN_len (s : St) (gen ar : Int) (b : List Int) : ∀ k, (s.saveN gen ar b k).1.dv.length = s.dv.length
  | 0 => rfl
  | k + 1 => by
    have ih := saveN_len s gen ar b k
    unfold St.saveN
    split
    · rename_i t e; rw [wr_lenE]; rw [e] at ih; exact ih
    · rename_i t e2 e; rw [e] at ih; exact ih
theorem save_len (s : St) (gen ar : Int) (b : List Int) : (s.save gen ar b).1.dv.length = s.dv.length := by
  unfold St.save
  split
  · rfl
  split
  · rfl
  have hk := saveN_len s gen ar b (chN b)
  split
  · rename_i t e; rw [e] at hk; rw [fl_lenE]; exact hk
  · rename_i t e2 e; rw [e] at hk; exact hk
theorem cr_szE (s : St) (l : List Kp) (z : Int) : (s.cr l).sz z = s.sz z := by
  unfold St.sz
  have e : (s.cr l).dv.length = s.dv.length := by simp [St.cr]
  rw [e]
  by_cases h : 0 ≤ z ∧ z < s.dv.length
  · rw [if_pos h, if_pos h]
    simp only [St.cr, List.getD_eq_getElem?_getD, List.getElem?_mapIdx, List.getElem?_eq_getElem (show z.toNat < s.dv.length by omega), Option.map_some, Option.getD_some]
    rfl
  · rw [if_neg h, if_neg h]
set_option maxRecDepth 100000 in
set_option maxHeartbeats 16000000 in
theorem lawPlays (H : Hp) (size : Int) (a : Option Addr) (cap : Nat) (l : List Op6) (hv : Holds H 70 (.slice a l.length cap) l.length (ops6 l)) (ho : ∀ x ∈ l, x.ok H ∧ ByteL x.b ∧ ByteL x.x.b) (hn : ∀ x ∈ l, -9223372036854775808 ≤ x.n) : CallH Try.prog 4 #[.int .i64 size, .slice a l.length cap] H (fun v H' => v = .bool true ∧ Le H H') := by
 refine zaB (l := [_, _]) (rl := [.tmp 4]) (n := 176) Try.func4 rfl rfl rfl rfl rfl ?_
 simp only [envOf, Nat.reduceAdd]
 obtain ⟨z0, hz1, hz3, hz4⟩ := mod_any size 30 (by omega) (by omega)
 refine zad (fun K1 hK1 => ?_)
 refine zaa ?_
 refine zao rfl ?_
 refine zae ?_
 try simp only [Ex.thnH, Ex.inBlockH, ↓reduceIte, Nat.reduceEqDiff]
 refine hK1 _ _ ?_; try clear hK1 K1
 refine zad (fun K2 hK2 => ?_)
 refine zad (fun K3 hK3 => ?_)
 refine zaa ?_
 refine zac (fun K hK r => ?_)
 simp only [zaT _ bd7, List.map_toArray, List.map_cons, List.map_nil, eX, ↓reduceIte, Nat.reduceEqDiff, Int.reduceToNat]
 refine (alive_ok _).mono ?_
 rintro v18 H' ⟨rfl, hq⟩
 have hq := hq.symm
 subst hq
 try simp only [eX, ↓reduceIte, Nat.reduceEqDiff, Int.reduceToNat]
 refine hK _ _ ?_; clear hK K
 refine zac (fun K hK r => ?_)
 simp only [x_un, u_not, eX, ↓reduceIte, Nat.reduceEqDiff, Int.reduceToNat]
 refine hK _ _ ?_; clear hK K
 refine zae ?_
 try simp only [Ex.thnH, Ex.inBlockH, ↓reduceIte, Nat.reduceEqDiff]
 refine hK3 _ _ ?_; try clear hK3 K3
 refine zaG (fun r => rfl) (fun c19 => ?_) (fun c19 => ?_)
 ·exfalso; exact cnA c19
 refine zaO ?_
 try simp only [Ex.thnH, Ex.inBlockH, ↓reduceIte, Nat.reduceEqDiff]
 refine hK2 _ _ ?_; try clear hK2 K2
 refine zad (fun K4 hK4 => ?_)
 refine zad (fun K5 hK5 => ?_)
 refine zaa ?_
 refine zam rfl ?_
 refine zac (fun K hK r => ?_)
 simp only [zaT _ bd8, List.map_toArray, List.map_cons, List.map_nil, eX, ↓reduceIte, Nat.reduceEqDiff, Int.reduceToNat]
 refine (long_ok _ a cap l hv).mono ?_
 rintro v21 H' ⟨t, rfl, hsh, hq⟩
 have hq := hq.symm
 subst hq
 try simp only [eX, ↓reduceIte, Nat.reduceEqDiff, Int.reduceToNat]
 refine hK _ _ ?_; clear hK K
 refine zae ?_
 try simp only [Ex.thnH, Ex.inBlockH, ↓reduceIte, Nat.reduceEqDiff]
 refine hK5 _ _ ?_; try clear hK5 K5
 refine zaG (fun r => rfl) (fun c21 => ?_) (fun c21 => ?_)
 ·first
  |(exfalso; exact cnA c21; done)
  |skip
   skip
   refine zad (fun K6 hK6 => ?_)
   refine zaa ?_
   refine zao rfl ?_
   refine zae ?_
   try simp only [Ex.thnH, Ex.inBlockH, ↓reduceIte, Nat.reduceEqDiff]
   refine hK6 _ _ ?_; try clear hK6 K6
   refine zaR ?_
   try simp only [Ex.thnH, Ex.inBlockH, ↓reduceIte, Nat.reduceEqDiff]
   exact ⟨[_], ⟨rfl, trivial⟩, H, lhA, rfl, Le.refl _⟩
 ·first
  |(exfalso; exact cnA c21; done)
  |skip
   have hshort := hsh (by simpa using c21)
   have hl41 := hshort.1
   have hsh2 := hshort.2
   refine zaO ?_
   try simp only [Ex.thnH, Ex.inBlockH, ↓reduceIte, Nat.reduceEqDiff]
   refine hK4 _ _ ?_; try clear hK4 K4
   refine zad (fun K7 hK7 => ?_)
   refine zaa ?_
   refine zam rfl ?_
   refine zac (fun K hK r => ?_)
   simp (disch := (first | omega | decide)) only [x_convert, c_int _ _ _ _ Try.underlying3 Try.underlying30, zaw, zaE, zaD, zaQ, eX, ↓reduceIte, Nat.reduceEqDiff, Int.reduceToNat]
   refine hK _ _ ?_; clear hK K
   refine zac (fun K hK r => ?_)
   simp (disch := (first | omega | decide)) only [zaF, zaH, b_rem, zaw, zaE, zaD, zaQ, eX, ↓reduceIte, Nat.reduceEqDiff, Int.reduceToNat]
   refine hK _ _ ?_; clear hK K
   refine zac (fun K hK r => ?_)
   simp (disch := (first | omega | decide)) only [x_convert, c_int _ _ _ _ Try.underlying30 Try.underlying3, zaw, zaE, zaD, zaQ, eX, ↓reduceIte, Nat.reduceEqDiff, Int.reduceToNat]
   rw [hz1]
   refine hK _ _ ?_; clear hK K
   refine zac (fun K hK r => ?_)
   simp (disch := (first | omega | decide)) only [zaF, zaH, b_add, zaw, zaE, zaD, zaQ, eX, ↓reduceIte, Nat.reduceEqDiff, Int.reduceToNat]
   refine hK _ _ ?_; clear hK K
   refine zao rfl ?_
   refine zae ?_
   try simp only [Ex.thnH, Ex.inBlockH, ↓reduceIte, Nat.reduceEqDiff]
   refine hK7 _ _ ?_; try clear hK7 K7
   refine zad (fun K8 hK8 => ?_)
   refine zaa ?_
   refine zam rfl ?_
   refine zac (fun K hK r => ?_)
   simp only [zbn, List.map_toArray, List.map_cons, List.map_nil, eX, ↓reduceIte, Nat.reduceEqDiff, Int.reduceToNat]
   refine zbm (vs := [_]) Try.underlying41 sz3 zr3 rfl bsA (by first | decide | (simp; done)) ?_
   simp only [List.flatMap_cons, List.flatMap_nil, Value.cells, List.append_nil, List.cons_append, List.nil_append, List.length_cons, List.length_nil, Nat.zero_add, Nat.reduceAdd]
   intro b29 hb29
   have f29_H : H b29 = none := zaj lhA hb29
   try simp only [eX, ↓reduceIte, Nat.reduceEqDiff, Int.reduceToNat]
   refine hK _ _ ?_; clear hK K
   refine zac (fun K hK r => ?_)
   simp only [zaT _ bd9, List.map_toArray, List.map_cons, List.map_nil, eX, ↓reduceIte, Nat.reduceEqDiff, Int.reduceToNat]
   refine (newL _ _ _ [1 + z0] ⟨rfl, .inr ⟨b29, 0, 1, _, _, _, rfl, hbA, by simp, by simp⟩⟩ (good_one (by omega)) (by simp)).mono ?_
   rintro v30 H30 ⟨p, F30, rfl, hA30⟩
   have hO30 := hA30.old
   have lH30 : Le H H30 := Le.trans (le_upd _ _ _ hb29) hO30
   try simp only [eX, ↓reduceIte, Nat.reduceEqDiff, Int.reduceToNat]
   refine hK _ _ ?_; clear hK K
   refine zam rfl ?_
   refine zac (fun K hK r => ?_)
   simp only [zaW, zaX, List.getElem?_toArray, List.getElem?_cons_zero, List.getElem?_cons_succ, zal, eX, ↓reduceIte, Nat.reduceEqDiff, Int.reduceToNat]
   refine hK _ _ ?_; clear hK K
   refine zac (fun K hK r => ?_)
   simp only [zaW, zaX, List.getElem?_toArray, List.getElem?_cons_zero, List.getElem?_cons_succ, zal, eX, ↓reduceIte, Nat.reduceEqDiff, Int.reduceToNat]
   refine hK _ _ ?_; clear hK K
   refine zao rfl ?_
   refine zao rfl ?_
   refine zae ?_
   try simp only [Ex.thnH, Ex.inBlockH, ↓reduceIte, Nat.reduceEqDiff]
   refine hK8 _ _ ?_; try clear hK8 K8
   refine zad (fun K9 hK9 => ?_)
   refine zaa ?_
   refine zam rfl ?_
   refine zac (fun K hK r => ?_)
   simp only [zbn, List.map_toArray, List.map_cons, List.map_nil, eX, ↓reduceIte, Nat.reduceEqDiff, Int.reduceToNat]
   refine zbm (vs := [_]) Try.underlying41 sz3 zr3 rfl bsA (by first | decide | (simp; done)) ?_
   simp only [List.flatMap_cons, List.flatMap_nil, Value.cells, List.append_nil, List.cons_append, List.nil_append, List.length_cons, List.length_nil, Nat.zero_add, Nat.reduceAdd]
   intro b35 hb35
   try have n35_b29 : b29 ≠ b35 := zai hbA hb35
   have f35_H : H b35 = none := zaj lhA hb35
   try simp only [eX, ↓reduceIte, Nat.reduceEqDiff, Int.reduceToNat]
   refine hK _ _ ?_; clear hK K
   refine zac (fun K hK r => ?_)
   simp only [zaT _ bd10, List.map_toArray, List.map_cons, List.map_nil, eX, ↓reduceIte, Nat.reduceEqDiff, Int.reduceToNat]
   have hA35 := hA30.put (hA30.fresh hb35) (.cells #[.int .i64 (1 + z0)] 3)
   refine (CallH.use (rnew_ok _ _ _ [1 + z0] ⟨rfl, .inr ⟨b35, 0, 1, _, _, _, rfl, hbA, by simp, by simp⟩⟩ (by simp)) hA35.old).mono ?_
   rintro v36 H36 ⟨G, hR36, lG, hkeep⟩
   obtain ⟨m0, a', cap', X0, rfl, hm0, hX0, hd0, lG0⟩ : ∃ (m0 : RSt) (a' : Option Addr) (cap' : Nat) (X0 : List RDX), v36 = .tuple #[m0.v (.slice a' X0.length cap'), .int .i64 0] ∧ m0 = newRs [1 + z0] ∧ RX G a' cap' X0 ∧ m0.dv = rdv X0 ∧ Le _ G := by
    rcases hR36 with ⟨h1, _⟩ | ⟨h1, h2, a', cap', X, rfl, h3, h4⟩
    ·rw [good_one (by omega)] at h1; cases h1
    ·exact ⟨_, a', cap', X, rfl, rfl, h3, h4, h2⟩
   have hS36 := hA35.side lG hkeep
   have lHG : Le H G := Le.trans (le_upd _ _ _ hb29) (Le.trans (le_upd _ _ _ (zaj hO30 hb35)) lG0)
   have lH36 : Le H H36 := Le.trans lHG lG
   have hP0 : PR 0 (newSt [1 + z0]) m0 := by rw [hm0]; exact PR.new (good_one (by omega))
   obtain ⟨hs1, hs2, hs3⟩ := hP0.sz0
   have hs100 : m0.sz0 ≤ 100 := by rw [← hs1]; show 1 + z0 ≤ 100; omega
   try simp only [eX, ↓reduceIte, Nat.reduceEqDiff, Int.reduceToNat]
   refine hK _ _ ?_; clear hK K
   refine zam rfl ?_
   refine zac (fun K hK r => ?_)
   simp only [zaW, zaX, List.getElem?_toArray, List.getElem?_cons_zero, List.getElem?_cons_succ, zal, eX, ↓reduceIte, Nat.reduceEqDiff, Int.reduceToNat]
   refine hK _ _ ?_; clear hK K
   refine zac (fun K hK r => ?_)
   simp only [zaW, zaX, List.getElem?_toArray, List.getElem?_cons_zero, List.getElem?_cons_succ, zal, eX, ↓reduceIte, Nat.reduceEqDiff, Int.reduceToNat]
   refine hK _ _ ?_; clear hK K
   refine zac (fun K hK r => ?_)
   simp only [x_alloc, zr38, zal, Value.cells, eX, ↓reduceIte, Nat.reduceEqDiff, Int.reduceToNat]
   intro b7 hb7
   try have n7_b29 : b29 ≠ b7 := zai hbA hb7
   try have n7_b35 : b35 ≠ b7 := zai hbA hb7
   have f7_H : H b7 = none := zaj lhA hb7
   try simp only [eX, ↓reduceIte, Nat.reduceEqDiff, Int.reduceToNat]
   refine hK _ _ ?_; clear hK K
   refine zbq rfl (zaJ) (fun K hK r => ?_)
   simp only [zaL, eX, ↓reduceIte, Nat.reduceEqDiff, Int.reduceToNat]
   first | refine zaz sz38 bdA hbA bdA plA (by decide) ?_ | refine zaI sz38 bdA hbA bdA plA (by decide) ?_
   try simp only [eX, ↓reduceIte, Nat.reduceEqDiff, Int.reduceToNat]
   refine hK _ _ ?_; clear hK K
   refine zao rfl ?_
   refine zae ?_
   try simp only [Ex.thnH, Ex.inBlockH, ↓reduceIte, Nat.reduceEqDiff]
   refine hK9 _ _ ?_; try clear hK9 K9
   refine zad (fun K10 hK10 => ?_)
   refine zad (fun K11 hK11 => ?_)
   obtain ⟨R8, hR8⟩ : ∃ R : Hp, R = emptyHp.upd b7 (.cells (m0.c (.slice a' X0.length cap')).toArray 38) := ⟨_, rfl⟩
   refine CW_drawR [0, 0, 0, 0, 0, 0, 0, 0, 2, 1, 2, 0, 0] [0, 1, 2, 3, 4, 5, 6, 7, 8, 9, 10, 11, 12] R8 (by kernel_rfl) (by kernel_rfl) (by subst hR8; exact le_put (le_empty _) hbA) (fun lR8 => ?_)
   apply zay rfl (zab (by decide)) rfl
   ·intro r
    simp only [zaU, eX, ↓reduceIte, Nat.reduceEqDiff]
    exact ⟨rfl, Le.refl _⟩
   simp only [eX, ↓reduceIte, Nat.reduceEqDiff, Int.reduceToNat]
   apply zay rfl (zab (by decide)) rfl
   ·intro r
    simp only [zaF, zaH, g_bool, zbo, zbk, g_slice, g_map, g_func, zbl, g_err, g_iface, zbe, g_nil_r, g_nil_l, eX, ↓reduceIte, Nat.reduceEqDiff]
    first | rw [b_err_neq _ _ Try.underlying33] | (rw [e_neq _ _ _ _ (by simp), q_equal]; first | rw [q_iface_nil _ _ _ Try.underlying33] | rw [q_nil_iface _ _ _ Try.underlying33] | rw [q_nil_nil _ _ _ Try.underlying33])
    exact ⟨rfl, Le.refl _⟩
   simp only [eX, ↓reduceIte, Nat.reduceEqDiff, Int.reduceToNat]
   apply zay rfl (zab (by decide)) rfl
   ·intro r
    simp only [zaU, eX, ↓reduceIte, Nat.reduceEqDiff]
    exact ⟨rfl, Le.refl _⟩
   simp only [eX, ↓reduceIte, Nat.reduceEqDiff, Int.reduceToNat]
   (first | refine TW_split (d := 41) rfl (fun g41 => ?_) (fun g41 => ?_) | skip)
   all_goals try (exfalso; exact cnA g41)
   all_goals (try simp only [decide_eq_true_eq, decide_eq_false_iff_not, Bool.not_eq_true, Bool.not_eq_false, Bool.and_eq_true, Bool.or_eq_true, Bool.or_eq_false_iff, Bool.not_eq_eq_eq_not, Bool.not_true, Bool.not_false] at g41)
   all_goals
    try simp only [eX, ↓reduceIte, Nat.reduceEqDiff, Int.reduceToNat]
    first
    |apply TW_pureG rfl (zab (by decide)) rfl rfl
     ·intro r
      simp only [zaU, eX, ↓reduceIte, Nat.reduceEqDiff]
      exact ⟨rfl, Le.refl _⟩
     simp only [eX, ↓reduceIte, Nat.reduceEqDiff, Int.reduceToNat]
    |refine TW_guardF rfl (zab (by decide)) rfl ?_
     simp only [eX, ↓reduceIte, Nat.reduceEqDiff, Int.reduceToNat]
    first
    |apply TW_pureG rfl (zab (by decide)) rfl rfl
     ·intro r
      simp (disch := (first | omega | decide)) only [zaF, zaH, b_neq, zaq, zar, zat, zau, zas, zav, Bool.not_true, Bool.not_false, eX, ↓reduceIte, Nat.reduceEqDiff]
      exact ⟨rfl, Le.refl _⟩
     simp only [eX, ↓reduceIte, Nat.reduceEqDiff, Int.reduceToNat]
    |refine TW_guardF rfl (zab (by decide)) rfl ?_
     simp only [eX, ↓reduceIte, Nat.reduceEqDiff, Int.reduceToNat]
    apply zay rfl (zab (by decide)) rfl
    ·intro r
     simp only [zbp, zaZ, HL.ite_bool, if_true, if_false, Bool.false_eq_true, eX, ↓reduceIte, Nat.reduceEqDiff]
     exact ⟨rfl, Le.refl _⟩
    simp only [eX, ↓reduceIte, Nat.reduceEqDiff, Int.reduceToNat]
    apply zay rfl (zab (by decide)) rfl
    ·intro r
     simp only [zaU, eX, ↓reduceIte, Nat.reduceEqDiff]
     exact ⟨rfl, Le.refl _⟩
    simp only [eX, ↓reduceIte, Nat.reduceEqDiff, Int.reduceToNat]
    (first | refine TW_split (d := 45) rfl (fun g45 => ?_) (fun g45 => ?_) | skip)
    all_goals try (exfalso; exact cnA g45)
    all_goals (try simp only [decide_eq_true_eq, decide_eq_false_iff_not, Bool.not_eq_true, Bool.not_eq_false, Bool.and_eq_true, Bool.or_eq_true, Bool.or_eq_false_iff, Bool.not_eq_eq_eq_not, Bool.not_true, Bool.not_false] at g45)
    all_goals
     try simp only [eX, ↓reduceIte, Nat.reduceEqDiff, Int.reduceToNat]
     first
     |apply TW_pureG rfl (zab (by decide)) rfl rfl
      ·intro r
       simp only [zaU, eX, ↓reduceIte, Nat.reduceEqDiff]
       exact ⟨rfl, Le.refl _⟩
      simp only [eX, ↓reduceIte, Nat.reduceEqDiff, Int.reduceToNat]
     |refine TW_guardF rfl (zab (by decide)) rfl ?_
      simp only [eX, ↓reduceIte, Nat.reduceEqDiff, Int.reduceToNat]
     first
     |refine TW_chainG rfl (zab (by decide)) rfl rfl (fun K hK r => ?_)
      simp only [zaT _ bd11, List.map_toArray, List.map_cons, List.map_nil, eX, ↓reduceIte, Nat.reduceEqDiff, Int.reduceToNat]
      refine (area_ok (hS36.more (le_upd _ _ _ hb7)) (Sm.new (l := [1 + z0]) (by simp)) (by omega) (by omega)).mono ?_
      rintro v H' ⟨rfl, hq⟩
      have hq := hq.symm
      subst hq
      rw [hs1]
      try simp only [eX, ↓reduceIte, Nat.reduceEqDiff, Int.reduceToNat]
      refine hK _ _ leA ?_; clear hK K
     |refine TW_guardF rfl (zab (by decide)) rfl ?_
      simp only [eX, ↓reduceIte, Nat.reduceEqDiff, Int.reduceToNat]
     first
     |apply TW_lookG rfl (zab (by decide)) rfl rfl
      ·intro r
       simp only [zan, eX, ↓reduceIte, Nat.reduceEqDiff]
       first | refine zaN Try.underlying38 rfl sz38 hbA bdA ?_ | refine zaC Try.underlying38 rfl sz38 hbA bdA ?_
       try simp only [List.extract_toArray, List.extract_eq_take_drop, Nat.zero_add, Nat.reduceAdd, Nat.reduceSub, Nat.sub_zero, List.drop_succ_cons, List.drop_zero, List.take_succ_cons, List.take_zero, List.take_nil, List.drop_nil]
       exact ⟨rfl, Le.refl _⟩
      simp only [eX, ↓reduceIte, Nat.reduceEqDiff, Int.reduceToNat]
     |refine TW_guardF rfl (zab (by decide)) rfl ?_
      simp only [eX, ↓reduceIte, Nat.reduceEqDiff, Int.reduceToNat]
     first
     |refine TW_chainG rfl (zab (by decide)) rfl rfl (fun K hK r => ?_)
      simp only [zaT _ bd12, List.map_toArray, List.map_cons, List.map_nil, eX, ↓reduceIte, Nat.reduceEqDiff, Int.reduceToNat]
      refine (rarea_ok _ a' cap' X0 (hX0.le (Le.trans lG (le_upd _ _ _ hb7))) m0 hd0 ⟨hs2, hs3⟩).mono ?_
      rintro v H' ⟨rfl, hq⟩
      have hq := hq.symm
      subst hq
      try simp only [eX, ↓reduceIte, Nat.reduceEqDiff, Int.reduceToNat]
      refine hK _ _ leA ?_; clear hK K
     |refine TW_guardF rfl (zab (by decide)) rfl ?_
      simp only [eX, ↓reduceIte, Nat.reduceEqDiff, Int.reduceToNat]
     first
     |apply TW_pureG rfl (zab (by decide)) rfl rfl
      ·intro r
       simp (disch := (first | omega | decide)) only [zaF, zaH, b_neq, zaq, zar, zat, zau, zas, zav, Bool.not_true, Bool.not_false, eX, ↓reduceIte, Nat.reduceEqDiff]
       exact ⟨rfl, Le.refl _⟩
      simp only [eX, ↓reduceIte, Nat.reduceEqDiff, Int.reduceToNat]
     |refine TW_guardF rfl (zab (by decide)) rfl ?_
      simp only [eX, ↓reduceIte, Nat.reduceEqDiff, Int.reduceToNat]
     apply zay rfl (zab (by decide)) rfl
     ·intro r
      simp only [zbp, zaZ, HL.ite_bool, if_true, if_false, Bool.false_eq_true, eX, ↓reduceIte, Nat.reduceEqDiff]
      exact ⟨rfl, Le.refl _⟩
     simp only [eX, ↓reduceIte, Nat.reduceEqDiff, Int.reduceToNat]
     refine TW_nil ?_
     try simp only [Ex.thnH, Ex.inBlockH, ↓reduceIte, Nat.reduceEqDiff]
     refine hK11 _ _ ?_; try clear hK11 K11
     refine zaG (fun r => rfl) (fun c51 => ?_) (fun c51 => ?_)
     ·exfalso; first | (exact cnA c51; done) | (simp at c51; done)
     refine zaO ?_
     try simp only [Ex.thnH, Ex.inBlockH, ↓reduceIte, Nat.reduceEqDiff]
     refine hK10 _ _ ?_; try clear hK10 K10
     refine zad (fun K12 hK12 => ?_)
     refine zad (fun K13 hK13 => ?_)
     refine zaa ?_
     refine zam rfl ?_
     refine zac (fun K hK r => ?_)
     simp only [zaM, l_len, List.map_toArray, List.map_cons, List.map_nil, zaS _ _ Try.underlying27, eX, ↓reduceIte, Nat.reduceEqDiff, Int.reduceToNat]
     refine hK _ _ ?_; clear hK K
     refine zam rfl ?_
     refine zae ?_
     try simp only [Ex.thnH, Ex.inBlockH, ↓reduceIte, Nat.reduceEqDiff]
     refine hK13 _ _ ?_; try clear hK13 K13
     refine zaV ?_
     refine CW_loop (fun m_ e H_ => ∃ (k : Nat) (Q F : Hp) (s : St) (ma : Option Addr) (mc : Nat) (X : List RDX) (m : RSt), k ≤ l.length ∧ m_ = l.length - k ∧ B6 H Q H_ F p s ma mc X m (50 * k) b7 ∧ Env.has [(5, .pointer (some ⟨p, 0, none⟩)), (7, .pointer (some ⟨b7, 0, none⟩)), (52, .slice a l.length cap), (53, .int .i64 l.length), (54, .int .i64 k)] e) (l.length) ?_ ?_
     ·skip
      exact ⟨0, G, _, _, a', cap', X0, m0, by omega, by omega, B6.fin lHG hS36 hX0 hd0 hP0 (zaj lG hb7) (hS36.fresh hb7) (BS.new _) rfl hs100, rfl, rfl, rfl, rfl, rfl, trivial⟩
     intro m_ e_ H_ hI_
     obtain ⟨k, Q, F, s, ma, mc, X, m, hk, rfl, hB, he⟩ := hI_
     refine CW_env he.sub ?_; clear he e_
     have hHH : Le H H_ := Le.trans hB.old hB.st.old
     have kb7 := hB.box
     refine zad (fun K14 hK14 => ?_)
     refine zaa ?_
     refine zac (fun K hK r => ?_)
     simp (disch := (first | omega | decide)) only [zaF, zaH, b_lss, zaq, zar, zat, zau, zas, zav, Bool.not_true, Bool.not_false, eX, ↓reduceIte, Nat.reduceEqDiff, Int.reduceToNat]
     refine hK _ _ ?_; clear hK K
     refine zae ?_
     try simp only [Ex.thnH, Ex.inBlockH, ↓reduceIte, Nat.reduceEqDiff]
     refine hK14 _ _ ?_; try clear hK14 K14
     refine zad (fun K15 hK15 => ?_)
     refine zaG (fun r => rfl) (fun c55 => ?_) (fun c55 => ?_)
     ·first
      |(exfalso; exact cnA c55; done)
      |skip
       (try simp only [decide_eq_true_eq, decide_eq_false_iff_not, Bool.not_eq_true, Bool.not_eq_false, Bool.and_eq_true, Bool.or_eq_true, Bool.or_eq_false_iff, Bool.not_eq_eq_eq_not, Bool.not_true, Bool.not_false] at c55)
       obtain ⟨bw, ow, cw, Tw, Fw, ew, hbw, hsw, atw⟩ := (hv.le (Le.trans hB.old hB.st.old)).at (by omega)
       have mo := Nat.mul_le_mul_right 70 (show k + 1 ≤ l.length by omega)
       have hmem : (l.getD k default) ∈ l := by rw [List.getD_eq_getElem?_getD, List.getElem?_eq_getElem (by omega)]; exact List.getElem_mem _
       obtain ⟨hok, hoB, hoX⟩ := ho _ hmem
       have hn0 := hn _ hmem
       have hsk := hsh2 k (by omega)
       have hN40 : chN (l.getD k default).b ≤ 40 := by unfold chN; omega
       refine zaO ?_
       try simp only [Ex.thnH, Ex.inBlockH, ↓reduceIte, Nat.reduceEqDiff]
       refine hK15 _ _ ?_; try clear hK15 K15
       refine zad (fun K16 hK16 => ?_)
       refine zaV ?_
       refine zad (fun K17 hK17 => ?_)
       refine zaa ?_
       refine zac (fun K hK r => ?_)
       simp only [zaK, eX, ↓reduceIte, Nat.reduceEqDiff, Int.reduceToNat]
       refine zbi Try.underlying27 sz48 ew ixA ixA ?_
       try simp only [Int.toNat_natCast]
       refine hK _ _ ?_; clear hK K
       refine zac (fun K hK r => ?_)
       simp only [zan, eX, ↓reduceIte, Nat.reduceEqDiff, Int.reduceToNat]
       refine zaC Try.underlying48 rfl sz48 hbw (by omega) ?_
       rw [ext_at Op6.len atw rfl k (by omega) hsw]
       refine hK _ _ ?_; clear hK K
       refine zac (fun K hK r => ?_)
       simp only [x_alloc, zr48, zal, Value.cells, eX, ↓reduceIte, Nat.reduceEqDiff, Int.reduceToNat]
       intro b10 hb10
       try have n10_b29 : b29 ≠ b10 := zai hbA hb10
       try have n10_b35 : b35 ≠ b10 := zai hbA hb10
       try have n10_b7 : b7 ≠ b10 := zai hbA hb10
       have f10_H : H b10 = none := zaj lhA hb10
       have h7 := hB.st.with hB.box hB.f
       have hS10 : Stn ((Q.upd b7 (.cells (m.c (.slice ma X.length mc)).toArray 38)).upd b10 (.cells (l.getD k default).c.toArray 48)) (H_.upd b10 (.cells (l.getD k default).c.toArray 48)) F p s := h7.put (h7.fresh hb10) _
       have hO10 := hS10.old
       have n107 : b7 ≠ b10 := zai hB.box hb10
       have q7 := hB.q
       have q10 : Q b10 = none := zaj hB.st.old hb10
       have lQ10 : Le Q ((Q.upd b7 (.cells (m.c (.slice ma X.length mc)).toArray 38)).upd b10 (.cells (l.getD k default).c.toArray 48)) := zaP (le_upd _ _ _ hB.q) q10
       have z7 : ((Q.upd b7 (.cells (m.c (.slice ma X.length mc)).toArray 38)).upd b10 (.cells (l.getD k default).c.toArray 48)) b7 = some (.cells (m.c (.slice ma X.length mc)).toArray 38) := (zaA _ _ n107).trans (zax _ _ _)
       have z10 : ((Q.upd b7 (.cells (m.c (.slice ma X.length mc)).toArray 38)).upd b10 (.cells (l.getD k default).c.toArray 48)) b10 = some (.cells (l.getD k default).c.toArray 48) := zax _ _ _
       have y7 := hO10 _ _ z7
       have y10 := hO10 _ _ z10
       have hSm := hB.pr.sm
       obtain ⟨hsz1, hsz2, hsz3⟩ := hB.pr.sz0
       obtain ⟨hl5, hsl⟩ := hB.pr.len hB.dv
       try simp only [eX, ↓reduceIte, Nat.reduceEqDiff, Int.reduceToNat]
       refine hK _ _ ?_; clear hK K
       refine zbq rfl (zaJ) (fun K hK r => ?_)
       simp only [zaL, eX, ↓reduceIte, Nat.reduceEqDiff, Int.reduceToNat]
       refine zaz sz48 (by rw [List.size_toArray, Op6.len]) hbA (by simp [Sec.h]) (Op6.plain _) (by decide) ?_
       try simp only [upd_upd]
       refine hK _ _ ?_; clear hK K
       refine zae ?_
       try simp only [Ex.thnH, Ex.inBlockH, ↓reduceIte, Nat.reduceEqDiff]
       refine hK17 _ _ ?_; try clear hK17 K17
       refine zad (fun K18 hK18 => ?_)
       refine zaa ?_
       refine zao rfl ?_
       refine zae ?_
       try simp only [Ex.thnH, Ex.inBlockH, ↓reduceIte, Nat.reduceEqDiff]
       refine hK18 _ _ ?_; try clear hK18 K18
       refine zad (fun K19 hK19 => ?_)
       refine zaa ?_
       refine zao rfl ?_
       refine zae ?_
       try simp only [Ex.thnH, Ex.inBlockH, ↓reduceIte, Nat.reduceEqDiff]
       refine hK19 _ _ ?_; try clear hK19 K19
       refine CW_cut (fun e H_ => ∃ (Q F : Hp) (s : St) (ma : Option Addr) (mc : Nat) (X : List RDX) (m : RSt) (ev : Option Int), B6 H Q H_ F p s ma mc X m (50 * (k + 1)) b7 ∧ errOk ev ∧ Env.has [(5, .pointer (some ⟨p, 0, none⟩)), (7, .pointer (some ⟨b7, 0, none⟩)), (52, .slice a l.length cap), (53, .int .i64 l.length), (54, .int .i64 k), (11, errV ev), (12, .int .i64 (ev.getD 0))] e) ?_ ?_
       ·skip
        refine zad (fun K20 hK20 => ?_)
        refine zaa ?_
        refine zac (fun K hK r => ?_)
        simp only [zah, fa48_0, zap, Nat.reduceAdd, Nat.zero_add, eX, ↓reduceIte, Nat.reduceEqDiff, Int.reduceToNat]
        refine hK _ _ ?_; clear hK K
        refine zac (fun K hK r => ?_)
        simp only [zan, eX, ↓reduceIte, Nat.reduceEqDiff, Int.reduceToNat]
        refine zak Try.underlying3 rfl hbA ldA ?_
        try simp only [eX, ↓reduceIte, Nat.reduceEqDiff, Int.reduceToNat]
        refine hK _ _ ?_; clear hK K
        refine zae ?_
        try simp only [Ex.thnH, Ex.inBlockH, ↓reduceIte, Nat.reduceEqDiff]
        refine hK20 _ _ ?_; try clear hK20 K20
        refine zaV ?_
        refine zad (fun K21 hK21 => ?_)
        refine zaa ?_
        refine zac (fun K hK r => ?_)
        simp (disch := (first | omega | decide)) only [zaF, zaH, b_eql, zaq, zar, zat, zau, zas, zav, Bool.not_true, Bool.not_false, eX, ↓reduceIte, Nat.reduceEqDiff, Int.reduceToNat]
        refine hK _ _ ?_; clear hK K
        refine zao rfl ?_
        refine zae ?_
        try simp only [Ex.thnH, Ex.inBlockH, ↓reduceIte, Nat.reduceEqDiff]
        refine hK21 _ _ ?_; try clear hK21 K21
        refine zaG (fun r => rfl) (fun c99 => ?_) (fun c99 => ?_)
        ·first
         |(exfalso; exact cnA c99; done)
         |skip
          (try simp only [decide_eq_true_eq, decide_eq_false_iff_not, Bool.not_eq_true, Bool.not_eq_false, Bool.and_eq_true, Bool.or_eq_true, Bool.or_eq_false_iff, Bool.not_eq_eq_eq_not, Bool.not_true, Bool.not_false] at c99)
          refine zad (fun K22 hK22 => ?_)
          refine zaa ?_
          refine zac (fun K hK r => ?_)
          simp only [zah, fa48_4, zap, Nat.reduceAdd, Nat.zero_add, eX, ↓reduceIte, Nat.reduceEqDiff, Int.reduceToNat]
          refine hK _ _ ?_; clear hK K
          refine zac (fun K hK r => ?_)
          simp only [zan, eX, ↓reduceIte, Nat.reduceEqDiff, Int.reduceToNat]
          refine zak Try.underlying22 rfl hbA ldA ?_
          try simp only [eX, ↓reduceIte, Nat.reduceEqDiff, Int.reduceToNat]
          refine hK _ _ ?_; clear hK K
          refine zac (fun K hK r => ?_)
          simp only [zaT _ bd13, List.map_toArray, List.map_cons, List.map_nil, eX, ↓reduceIte, Nat.reduceEqDiff, Int.reduceToNat]
          refine (num_Copy _ _ (l.getD k default).b (hok.hb.le lhA) (by omega)).mono ?_
          rintro v103 H103 ⟨r13, hr13, rfl, rfl⟩
          have n1013 : b10 ≠ r13 := zai (zax _ _ _) hr13
          have n137 : r13 ≠ b7 := fun e => by rw [e, zaA _ _ n107, hB.box] at hr13; cases hr13
          have hS13 := hS10.put (hS10.fresh hr13) (.cells (u8s ((l.getD k default).b ++ [165, 90])).toArray 5)
          try simp only [eX, ↓reduceIte, Nat.reduceEqDiff, Int.reduceToNat]
          refine hK _ _ ?_; clear hK K
          refine zao rfl ?_
          refine zae ?_
          try simp only [Ex.thnH, Ex.inBlockH, ↓reduceIte, Nat.reduceEqDiff]
          refine hK22 _ _ ?_; try clear hK22 K22
          refine zad (fun K23 hK23 => ?_)
          refine zaa ?_
          refine zam rfl ?_
          refine zac (fun K hK r => ?_)
          simp only [zah, fa48_1, zap, Nat.reduceAdd, Nat.zero_add, eX, ↓reduceIte, Nat.reduceEqDiff, Int.reduceToNat]
          refine hK _ _ ?_; clear hK K
          refine zac (fun K hK r => ?_)
          simp only [zan, eX, ↓reduceIte, Nat.reduceEqDiff, Int.reduceToNat]
          refine zak Try.underlying3 rfl hbA ldA ?_
          try simp only [eX, ↓reduceIte, Nat.reduceEqDiff, Int.reduceToNat]
          refine hK _ _ ?_; clear hK K
          refine zac (fun K hK r => ?_)
          simp only [zah, fa48_2, zap, Nat.reduceAdd, Nat.zero_add, eX, ↓reduceIte, Nat.reduceEqDiff, Int.reduceToNat]
          refine hK _ _ ?_; clear hK K
          refine zac (fun K hK r => ?_)
          simp only [zan, eX, ↓reduceIte, Nat.reduceEqDiff, Int.reduceToNat]
          refine zak Try.underlying3 rfl hbA ldA ?_
          try simp only [eX, ↓reduceIte, Nat.reduceEqDiff, Int.reduceToNat]
          refine hK _ _ ?_; clear hK K
          refine zam rfl ?_
          refine zac (fun K hK r => ?_)
          simp only [zaT _ bd14, List.map_toArray, List.map_cons, List.map_nil, eX, ↓reduceIte, Nat.reduceEqDiff, Int.reduceToNat]
          refine (saveL hS13 hSm (by omega) (by omega) (by omega) (l.getD k default).gen (l.getD k default).area (some ⟨r13, 0, none⟩) ((l.getD k default).b.length + 2) (l.getD k default).b ⟨by simp, .inr ⟨r13, 0, _, _, _, _, rfl, zax _ _ _, by simp, by simp [List.take_of_length_le]⟩⟩ (by omega) (by omega)).mono ?_
          rintro v110 H110 ⟨rfl, F110, hS110'⟩
          have k13 := hS110'.old _ _ (zax _ _ _)
          have g13 := zaj hS10.old hr13
          have hS110 : Stn ((Q.upd b7 (.cells (m.c (.slice ma X.length mc)).toArray 38)).upd b10 (.cells (l.getD k default).c.toArray 48)) H110 F110 p _ := hS110'.less (le_upd _ _ _ g13)
          clear hS110'
          have hO110 := hS110.old
          have lQ110 := lQ10
          have x7 := hO110 b7 _ z7
          have x10 := hO110 b10 _ z10
          try simp only [eX, ↓reduceIte, Nat.reduceEqDiff, Int.reduceToNat]
          refine hK _ _ ?_; clear hK K
          refine zao rfl ?_
          refine zae ?_
          try simp only [Ex.thnH, Ex.inBlockH, ↓reduceIte, Nat.reduceEqDiff]
          refine hK23 _ _ ?_; try clear hK23 K23
          refine zad (fun K24 hK24 => ?_)
          refine zaa ?_
          refine zac (fun K hK r => ?_)
          simp only [zan, eX, ↓reduceIte, Nat.reduceEqDiff, Int.reduceToNat]
          first | refine zaN Try.underlying38 rfl sz38 hbA bdA ?_ | refine zaC Try.underlying38 rfl sz38 hbA bdA ?_
          try simp only [List.extract_toArray, List.extract_eq_take_drop, Nat.zero_add, Nat.reduceAdd, Nat.reduceSub, Nat.sub_zero, List.drop_succ_cons, List.drop_zero, List.take_succ_cons, List.take_zero, List.take_nil, List.drop_nil]
          try simp only [eX, ↓reduceIte, Nat.reduceEqDiff, Int.reduceToNat]
          refine hK _ _ ?_; clear hK K
          refine zac (fun K hK r => ?_)
          simp only [zah, fa48_1, zap, Nat.reduceAdd, Nat.zero_add, eX, ↓reduceIte, Nat.reduceEqDiff, Int.reduceToNat]
          refine hK _ _ ?_; clear hK K
          refine zac (fun K hK r => ?_)
          simp only [zan, eX, ↓reduceIte, Nat.reduceEqDiff, Int.reduceToNat]
          refine zak Try.underlying3 rfl hbA ldA ?_
          try simp only [eX, ↓reduceIte, Nat.reduceEqDiff, Int.reduceToNat]
          refine hK _ _ ?_; clear hK K
          refine zac (fun K hK r => ?_)
          simp only [zah, fa48_2, zap, Nat.reduceAdd, Nat.zero_add, eX, ↓reduceIte, Nat.reduceEqDiff, Int.reduceToNat]
          refine hK _ _ ?_; clear hK K
          refine zac (fun K hK r => ?_)
          simp only [zan, eX, ↓reduceIte, Nat.reduceEqDiff, Int.reduceToNat]
          refine zak Try.underlying3 rfl hbA ldA ?_
          try simp only [eX, ↓reduceIte, Nat.reduceEqDiff, Int.reduceToNat]
          refine hK _ _ ?_; clear hK K
          refine zac (fun K hK r => ?_)
          simp only [zah, fa48_4, zap, Nat.reduceAdd, Nat.zero_add, eX, ↓reduceIte, Nat.reduceEqDiff, Int.reduceToNat]
          refine hK _ _ ?_; clear hK K
          refine zac (fun K hK r => ?_)
          simp only [zan, eX, ↓reduceIte, Nat.reduceEqDiff, Int.reduceToNat]
          refine zak Try.underlying22 rfl hbA ldA ?_
          try simp only [eX, ↓reduceIte, Nat.reduceEqDiff, Int.reduceToNat]
          refine hK _ _ ?_; clear hK K
          refine zac (fun K hK r => ?_)
          simp only [zaT _ bd15, List.map_toArray, List.map_cons, List.map_nil, eX, ↓reduceIte, Nat.reduceEqDiff, Int.reduceToNat]
          have x7 := hO110 b7 _ z7
          have x10 := hO110 b10 _ z10
          have f7 := hS110.ap b7 (by rw [z7]; simp)
          refine (CallH.use (rsaveL Q ma mc X hB.rx m hB.dv hB.pr (by omega) (l.getD k default).gen (l.getD k default).area (l.getD k default).ba (l.getD k default).bc (l.getD k default).b (hok.hb.le hB.old) hok.hc (by omega)) (Le.trans lQ110 hO110)).mono ?_
          rintro v119 H119 ⟨G, ⟨a', cap', X', hXl, lG0, rfl, hXn, hdn⟩, lG, hkeep⟩
          obtain ⟨kk7, kg7⟩ := hkeep b7 _ x7 q7
          obtain ⟨kk10, kg10⟩ := hkeep b10 _ x10 q10
          have hSn := (hS110.less lQ110).side lG hkeep
          have lHn : Le H H119 := Le.trans hB.old (Le.trans lG0 lG)
          obtain ⟨kk13, kg13⟩ := hkeep r13 _ k13 (zaj lQ10 g13)
          rw [(hB.pr.save (l.getD k default).gen (l.getD k default).area (l.getD k default).b).2]
          try simp only [eX, ↓reduceIte, Nat.reduceEqDiff, Int.reduceToNat]
          refine hK _ _ ?_; clear hK K
          refine zam rfl ?_
          refine zac (fun K hK r => ?_)
          simp only [zaW, zaX, List.getElem?_toArray, List.getElem?_cons_zero, List.getElem?_cons_succ, zal, eX, ↓reduceIte, Nat.reduceEqDiff, Int.reduceToNat]
          refine hK _ _ ?_; clear hK K
          refine zac (fun K hK r => ?_)
          simp only [zaW, zaX, List.getElem?_toArray, List.getElem?_cons_zero, List.getElem?_cons_succ, zal, eX, ↓reduceIte, Nat.reduceEqDiff, Int.reduceToNat]
          refine hK _ _ ?_; clear hK K
          refine zbq rfl (zaJ) (fun K hK r => ?_)
          simp only [zaL, eX, ↓reduceIte, Nat.reduceEqDiff, Int.reduceToNat]
          first | refine zaz sz38 bdA hbA bdA plA (by decide) ?_ | refine zaI sz38 bdA hbA bdA plA (by decide) ?_
          try simp only [eX, ↓reduceIte, Nat.reduceEqDiff, Int.reduceToNat]
          refine hK _ _ ?_; clear hK K
          refine zao rfl ?_
          refine zae ?_
          try simp only [Ex.thnH, Ex.inBlockH, ↓reduceIte, Nat.reduceEqDiff]
          refine hK24 _ _ ?_; try clear hK24 K24
          refine zad (fun K25 hK25 => ?_)
          refine zaa ?_
          refine zam rfl ?_
          refine zac (fun K hK r => ?_)
          simp only [zah, fa48_4, zap, Nat.reduceAdd, Nat.zero_add, eX, ↓reduceIte, Nat.reduceEqDiff, Int.reduceToNat]
          refine hK _ _ ?_; clear hK K
          refine zac (fun K hK r => ?_)
          simp only [zan, eX, ↓reduceIte, Nat.reduceEqDiff, Int.reduceToNat]
          refine zak Try.underlying22 rfl hbA ldA ?_
          try simp only [eX, ↓reduceIte, Nat.reduceEqDiff, Int.reduceToNat]
          refine hK _ _ ?_; clear hK K
          refine zac (fun K hK r => ?_)
          simp only [zaT _ bd16, List.map_toArray, List.map_cons, List.map_nil, eX, ↓reduceIte, Nat.reduceEqDiff, Int.reduceToNat]
          refine (num_Kept _ r13 _ (l.getD k default).b ((zaA _ _ n137).trans kk13) (hok.hb.le (zaP lHn f7_H)) (by omega) hoB).mono ?_
          rintro v H' ⟨rfl, hq⟩
          have hq := hq.symm
          subst hq
          try simp only [eX, ↓reduceIte, Nat.reduceEqDiff, Int.reduceToNat]
          refine hK _ _ ?_; clear hK K
          refine zac (fun K hK r => ?_)
          simp only [x_un, u_not, eX, ↓reduceIte, Nat.reduceEqDiff, Int.reduceToNat]
          refine hK _ _ ?_; clear hK K
          refine zae ?_
          try simp only [Ex.thnH, Ex.inBlockH, ↓reduceIte, Nat.reduceEqDiff]
          refine hK25 _ _ ?_; try clear hK25 K25
          refine zaG (fun r => rfl) (fun c126 => ?_) (fun c126 => ?_)
          ·exfalso; exact cnA c126
          refine zaO ?_
          try simp only [Ex.thnH, Ex.inBlockH, ↓reduceIte, Nat.reduceEqDiff]
          first
          |exact ⟨G, F110, _, a', cap', X', _, _, B6.fin (Le.trans hB.old lG0) hSn hXn hdn ((hB.pr.save (l.getD k default).gen (l.getD k default).area (l.getD k default).b).1.up (by omega)) kg7 f7 (hB.bs.save _ _ hoB) (by rw [save_len]; exact hB.len) (by rw [← (hB.pr.save (l.getD k default).gen (l.getD k default).area (l.getD k default).b).1.sz0.1, save_szE, hsz1]; exact hB.sz), save_err _ _ _ _, rfl, rfl, rfl, rfl, rfl, rfl, rfl, trivial⟩
          |exact ⟨G, F133, _, a', cap', X', _, none, B6.fin (Le.trans hB.old lG0) hSn hXn hdn ((hB.pr.crash (l.getD k default).keep).up (by omega)) kg7 f7 (hB.bs.cr _ (by rw [hB.len]; omega)) (by simp [St.cr, hB.len]) (by rw [← (hB.pr.crash (l.getD k default).keep).sz0.1, cr_szE, hsz1]; exact hB.sz), (fun z hz => by cases hz), rfl, rfl, rfl, rfl, rfl, rfl, rfl, trivial⟩
          |exact ⟨Q, F147, _, ma, mc, X, { m with armed := true, left := (l.getD k default).n }, none, B6.fin (m := { m with armed := true, left := (l.getD k default).n }) hB.old (hS147.less lQ10) hB.rx hB.dv ((hB.pr.arm (show 0 ≤ (l.getD k default).n by omega) hok.n1).up (by omega)) hB.q f7 (hB.bs.congr rfl) hB.len hB.sz, (fun z hz => by cases hz), rfl, rfl, rfl, rfl, rfl, rfl, rfl, trivial⟩
          |exact ⟨G, F161, _, a', cap', X', _, _, B6.fin (Le.trans hB.old lG0) hSn hXn hdn ((hB.pr.put 0 (l.getD k default).n (l.getD k default).x).up (by omega)) kg7 f7 (hB.bs.wr _ hoX) (by rw [wr_lenE]; exact hB.len) (by rw [← (hB.pr.put 0 (l.getD k default).n (l.getD k default).x).sz0.1, wr_szE, hsz1]; exact hB.sz), wr_err _ _ _ _, rfl, rfl, rfl, rfl, rfl, rfl, rfl, trivial⟩
          |exact ⟨Q, F, s, ma, mc, X, m, _, ⟨hB.old, hB.st.more (Le.trans (le_upd _ _ _ hb10) (Le.trans l68 l79)), hB.rx, hB.dv, hB.pr.up (by omega), hB.q, hB.f, w7, hB.bs, hB.len, hB.sz⟩, load_err _ _ _ _, rfl, rfl, rfl, rfl, rfl, rfl, rfl, trivial⟩
          |exact ⟨Q, F, s, ma, mc, X, m, none, ⟨hB.old, hB.st.more (le_upd _ _ _ hb10), hB.rx, hB.dv, hB.pr.up (by omega), hB.q, hB.f, y7, hB.bs, hB.len, hB.sz⟩, (fun z hz => by cases hz), rfl, rfl, rfl, rfl, rfl, rfl, rfl, trivial⟩
        ·first
         |(exfalso; exact cnA c99; done)
         |skip
          (try simp only [decide_eq_true_eq, decide_eq_false_iff_not, Bool.not_eq_true, Bool.not_eq_false, Bool.and_eq_true, Bool.or_eq_true, Bool.or_eq_false_iff, Bool.not_eq_eq_eq_not, Bool.not_true, Bool.not_false] at c99)
          refine zad (fun K26 hK26 => ?_)
          refine zaa ?_
          refine zac (fun K hK r => ?_)
          simp (disch := (first | omega | decide)) only [zaF, zaH, b_eql, zaq, zar, zat, zau, zas, zav, Bool.not_true, Bool.not_false, eX, ↓reduceIte, Nat.reduceEqDiff, Int.reduceToNat]
          refine hK _ _ ?_; clear hK K
          refine zao rfl ?_
          refine zae ?_
          try simp only [Ex.thnH, Ex.inBlockH, ↓reduceIte, Nat.reduceEqDiff]
          refine hK26 _ _ ?_; try clear hK26 K26
          refine zaG (fun r => rfl) (fun c127 => ?_) (fun c127 => ?_)
          ·first
           |(exfalso; exact cnA c127; done)
           |skip
            (try simp only [decide_eq_true_eq, decide_eq_false_iff_not, Bool.not_eq_true, Bool.not_eq_false, Bool.and_eq_true, Bool.or_eq_true, Bool.or_eq_false_iff, Bool.not_eq_eq_eq_not, Bool.not_true, Bool.not_false] at c127)
            refine zad (fun K27 hK27 => ?_)
            refine zaa ?_
            refine zam rfl ?_
            refine zac (fun K hK r => ?_)
            simp only [zah, fa48_6, zap, Nat.reduceAdd, Nat.zero_add, eX, ↓reduceIte, Nat.reduceEqDiff, Int.reduceToNat]
            refine hK _ _ ?_; clear hK K
            refine zac (fun K hK r => ?_)
            simp only [zan, eX, ↓reduceIte, Nat.reduceEqDiff, Int.reduceToNat]
            refine zak Try.underlying46 rfl hbA (Op6.keep' _) ?_
            refine hK _ _ ?_; clear hK K
            refine zac (fun K hK r => ?_)
            simp only [zaT _ bd18, List.map_toArray, List.map_cons, List.map_nil, eX, ↓reduceIte, Nat.reduceEqDiff, Int.reduceToNat]
            refine (keeps_ok _ (l.getD k default).ka (l.getD k default).kc (l.getD k default).keep (hok.hk.le lhA) (by omega)).mono ?_
            rintro v132 H132 ⟨l132, rs132, ho132, hr132⟩
            obtain ⟨G132, lG132, hG132, hx132⟩ := ho132.part
            obtain ⟨ka132, kc132, rfl⟩ := hG132.form
            have hS132 := hS10.more l132
            try simp only [eX, ↓reduceIte, Nat.reduceEqDiff, Int.reduceToNat]
            refine hK _ _ ?_; clear hK K
            refine zac (fun K hK r => ?_)
            simp only [zaT _ bd17, List.map_toArray, List.map_cons, List.map_nil, eX, ↓reduceIte, Nat.reduceEqDiff, Int.reduceToNat]
            refine (crashL hS132 hSm (by omega) (G := G132) lG132 (fun x hx => zaj hS10.le (hr132 x (hx132 x hx))) (fun x hx => zaj hS10.old (hr132 x (hx132 x hx))) ka132 kc132 (l.getD k default).keep hG132 (by omega)).mono ?_
            rintro v133 H133 ⟨F133, hS133⟩
            have hO133 := hS133.old
            have lQ133 := lQ10
            have x7 := hO133 b7 _ z7
            have x10 := hO133 b10 _ z10
            try simp only [eX, ↓reduceIte, Nat.reduceEqDiff, Int.reduceToNat]
            refine hK _ _ ?_; clear hK K
            refine zae ?_
            try simp only [Ex.thnH, Ex.inBlockH, ↓reduceIte, Nat.reduceEqDiff]
            refine hK27 _ _ ?_; try clear hK27 K27
            refine zaa ?_
            refine zac (fun K hK r => ?_)
            simp only [zan, eX, ↓reduceIte, Nat.reduceEqDiff, Int.reduceToNat]
            first | refine zaN Try.underlying38 rfl sz38 hbA bdA ?_ | refine zaC Try.underlying38 rfl sz38 hbA bdA ?_
            try simp only [List.extract_toArray, List.extract_eq_take_drop, Nat.zero_add, Nat.reduceAdd, Nat.reduceSub, Nat.sub_zero, List.drop_succ_cons, List.drop_zero, List.take_succ_cons, List.take_zero, List.take_nil, List.drop_nil]
            try simp only [eX, ↓reduceIte, Nat.reduceEqDiff, Int.reduceToNat]
            refine hK _ _ ?_; clear hK K
            refine zac (fun K hK r => ?_)
            simp only [zah, fa48_6, zap, Nat.reduceAdd, Nat.zero_add, eX, ↓reduceIte, Nat.reduceEqDiff, Int.reduceToNat]
            refine hK _ _ ?_; clear hK K
            refine zac (fun K hK r => ?_)
            simp only [zan, eX, ↓reduceIte, Nat.reduceEqDiff, Int.reduceToNat]
            refine zak Try.underlying46 rfl hbA (Op6.keep' _) ?_
            refine hK _ _ ?_; clear hK K
            refine zac (fun K hK r => ?_)
            simp only [zaT _ bd19, List.map_toArray, List.map_cons, List.map_nil, eX, ↓reduceIte, Nat.reduceEqDiff, Int.reduceToNat]
            have x7 := hO133 b7 _ z7
            have x10 := hO133 b10 _ z10
            have f7 := hS133.ap b7 (by rw [z7]; simp)
            refine (CallH.use (rcrash_ok Q ma mc X hB.rx m hB.dv hl5 (50 * k) (by omega) (hB.pr.rg hB.dv) (l.getD k default).ka (l.getD k default).kc (l.getD k default).keep (hok.hk.le hB.old) (by omega)) (Le.trans lQ133 hO133)).mono ?_
            rintro v137 H137 ⟨G, ⟨a', cap', X', hXl, lG0, rfl, hXn, hdn⟩, lG, hkeep⟩
            obtain ⟨kk7, kg7⟩ := hkeep b7 _ x7 q7
            obtain ⟨kk10, kg10⟩ := hkeep b10 _ x10 q10
            have hSn := (hS133.less lQ133).side lG hkeep
            have lHn : Le H H137 := Le.trans hB.old (Le.trans lG0 lG)
            try simp only [eX, ↓reduceIte, Nat.reduceEqDiff, Int.reduceToNat]
            refine hK _ _ ?_; clear hK K
            refine zbq rfl (zaJ) (fun K hK r => ?_)
            simp only [zaL, eX, ↓reduceIte, Nat.reduceEqDiff, Int.reduceToNat]
            first | refine zaz sz38 bdA hbA bdA plA (by decide) ?_ | refine zaI sz38 bdA hbA bdA plA (by decide) ?_
            try simp only [eX, ↓reduceIte, Nat.reduceEqDiff, Int.reduceToNat]
            refine hK _ _ ?_; clear hK K
            refine zae ?_
            try simp only [Ex.thnH, Ex.inBlockH, ↓reduceIte, Nat.reduceEqDiff]
            first
            |exact ⟨G, F110, _, a', cap', X', _, _, B6.fin (Le.trans hB.old lG0) hSn hXn hdn ((hB.pr.save (l.getD k default).gen (l.getD k default).area (l.getD k default).b).1.up (by omega)) kg7 f7 (hB.bs.save _ _ hoB) (by rw [save_len]; exact hB.len) (by rw [← (hB.pr.save (l.getD k default).gen (l.getD k default).area (l.getD k default).b).1.sz0.1, save_szE, hsz1]; exact hB.sz), save_err _ _ _ _, rfl, rfl, rfl, rfl, rfl, rfl, rfl, trivial⟩
            |exact ⟨G, F133, _, a', cap', X', _, none, B6.fin (Le.trans hB.old lG0) hSn hXn hdn ((hB.pr.crash (l.getD k default).keep).up (by omega)) kg7 f7 (hB.bs.cr _ (by rw [hB.len]; omega)) (by simp [St.cr, hB.len]) (by rw [← (hB.pr.crash (l.getD k default).keep).sz0.1, cr_szE, hsz1]; exact hB.sz), (fun z hz => by cases hz), rfl, rfl, rfl, rfl, rfl, rfl, rfl, trivial⟩
            |exact ⟨Q, F147, _, ma, mc, X, { m with armed := true, left := (l.getD k default).n }, none, B6.fin (m := { m with armed := true, left := (l.getD k default).n }) hB.old (hS147.less lQ10) hB.rx hB.dv ((hB.pr.arm (show 0 ≤ (l.getD k default).n by omega) hok.n1).up (by omega)) hB.q f7 (hB.bs.congr rfl) hB.len hB.sz, (fun z hz => by cases hz), rfl, rfl, rfl, rfl, rfl, rfl, rfl, trivial⟩
            |exact ⟨G, F161, _, a', cap', X', _, _, B6.fin (Le.trans hB.old lG0) hSn hXn hdn ((hB.pr.put 0 (l.getD k default).n (l.getD k default).x).up (by omega)) kg7 f7 (hB.bs.wr _ hoX) (by rw [wr_lenE]; exact hB.len) (by rw [← (hB.pr.put 0 (l.getD k default).n (l.getD k default).x).sz0.1, wr_szE, hsz1]; exact hB.sz), wr_err _ _ _ _, rfl, rfl, rfl, rfl, rfl, rfl, rfl, trivial⟩
            |exact ⟨Q, F, s, ma, mc, X, m, _, ⟨hB.old, hB.st.more (Le.trans (le_upd _ _ _ hb10) (Le.trans l68 l79)), hB.rx, hB.dv, hB.pr.up (by omega), hB.q, hB.f, w7, hB.bs, hB.len, hB.sz⟩, load_err _ _ _ _, rfl, rfl, rfl, rfl, rfl, rfl, rfl, trivial⟩
            |exact ⟨Q, F, s, ma, mc, X, m, none, ⟨hB.old, hB.st.more (le_upd _ _ _ hb10), hB.rx, hB.dv, hB.pr.up (by omega), hB.q, hB.f, y7, hB.bs, hB.len, hB.sz⟩, (fun z hz => by cases hz), rfl, rfl, rfl, rfl, rfl, rfl, rfl, trivial⟩
          ·first
           |(exfalso; exact cnA c127; done)
           |skip
            (try simp only [decide_eq_true_eq, decide_eq_false_iff_not, Bool.not_eq_true, Bool.not_eq_false, Bool.and_eq_true, Bool.or_eq_true, Bool.or_eq_false_iff, Bool.not_eq_eq_eq_not, Bool.not_true, Bool.not_false] at c127)
            refine zad (fun K28 hK28 => ?_)
            refine zaa ?_
            refine zac (fun K hK r => ?_)
            simp (disch := (first | omega | decide)) only [zaF, zaH, b_eql, zaq, zar, zat, zau, zas, zav, Bool.not_true, Bool.not_false, eX, ↓reduceIte, Nat.reduceEqDiff, Int.reduceToNat]
            refine hK _ _ ?_; clear hK K
            refine zao rfl ?_
            refine zae ?_
            try simp only [Ex.thnH, Ex.inBlockH, ↓reduceIte, Nat.reduceEqDiff]
            refine hK28 _ _ ?_; try clear hK28 K28
            refine zaG (fun r => rfl) (fun c138 => ?_) (fun c138 => ?_)
            ·first
             |(exfalso; exact cnA c138; done)
             |skip
              (try simp only [decide_eq_true_eq, decide_eq_false_iff_not, Bool.not_eq_true, Bool.not_eq_false, Bool.and_eq_true, Bool.or_eq_true, Bool.or_eq_false_iff, Bool.not_eq_eq_eq_not, Bool.not_true, Bool.not_false] at c138)
              refine zad (fun K29 hK29 => ?_)
              refine zaa ?_
              refine zac (fun K hK r => ?_)
              simp only [zah, fa48_3, zap, Nat.reduceAdd, Nat.zero_add, eX, ↓reduceIte, Nat.reduceEqDiff, Int.reduceToNat]
              refine hK _ _ ?_; clear hK K
              refine zac (fun K hK r => ?_)
              simp only [zan, eX, ↓reduceIte, Nat.reduceEqDiff, Int.reduceToNat]
              refine zak Try.underlying3 rfl hbA ldA ?_
              try simp only [eX, ↓reduceIte, Nat.reduceEqDiff, Int.reduceToNat]
              refine hK _ _ ?_; clear hK K
              refine zac (fun K hK r => ?_)
              simp (disch := (first | omega | decide)) only [zaF, zaH, b_geq, zaq, zar, zat, zau, zas, zav, Bool.not_true, Bool.not_false, eX, ↓reduceIte, Nat.reduceEqDiff, Int.reduceToNat]
              refine hK _ _ ?_; clear hK K
              refine zam rfl ?_
              (first | refine zbc (d := 143) rfl (fun g143 => ?_) (fun g143 => ?_) | skip)
              all_goals try (exfalso; exact cnA g143)
              all_goals (try simp only [decide_eq_true_eq, decide_eq_false_iff_not, Bool.not_eq_true, Bool.not_eq_false, Bool.and_eq_true, Bool.or_eq_true, Bool.or_eq_false_iff, Bool.not_eq_eq_eq_not, Bool.not_true, Bool.not_false] at g143)
              all_goals
               try simp only [eX, ↓reduceIte, Nat.reduceEqDiff, Int.reduceToNat]
               first
               |refine zaf rfl (zab (by decide)) rfl (fun K hK r => ?_)
                simp only [zaU, eX, ↓reduceIte, Nat.reduceEqDiff, Int.reduceToNat]
                refine hK _ _ ?_; clear hK K
               |refine zag rfl (zab (by decide)) rfl ?_
                simp only [eX, ↓reduceIte, Nat.reduceEqDiff, Int.reduceToNat]
               first
               |refine zaf rfl (zab (by decide)) rfl (fun K hK r => ?_)
                simp only [zah, fa48_3, zap, Nat.reduceAdd, Nat.zero_add, eX, ↓reduceIte, Nat.reduceEqDiff, Int.reduceToNat]
                refine hK _ _ ?_; clear hK K
               |refine zag rfl (zab (by decide)) rfl ?_
                simp only [eX, ↓reduceIte, Nat.reduceEqDiff, Int.reduceToNat]
               first
               |refine zaf rfl (zab (by decide)) rfl (fun K hK r => ?_)
                simp only [zan, eX, ↓reduceIte, Nat.reduceEqDiff, Int.reduceToNat]
                refine zak Try.underlying3 rfl hbA ldA ?_
                try simp only [eX, ↓reduceIte, Nat.reduceEqDiff, Int.reduceToNat]
                refine hK _ _ ?_; clear hK K
               |refine zag rfl (zab (by decide)) rfl ?_
                simp only [eX, ↓reduceIte, Nat.reduceEqDiff, Int.reduceToNat]
               first
               |refine zaf rfl (zab (by decide)) rfl (fun K hK r => ?_)
                simp only [zaT _ bd20, List.map_toArray, List.map_cons, List.map_nil, eX, ↓reduceIte, Nat.reduceEqDiff, Int.reduceToNat]
                refine (armL hS10 (l.getD k default).n).mono ?_
                rintro v147 H147 ⟨rfl, F147, hS147⟩
                have hn0 : ¬ (l.getD k default).n < 0 := by omega
                rw [if_neg hn0] at hS147 ⊢
                have hO147 := hS147.old
                have x7 := hO147 b7 _ z7
                have x10 := hO147 b10 _ z10
                have f7 := hS147.ap b7 (by rw [z7]; simp)
                try simp only [eX, ↓reduceIte, Nat.reduceEqDiff, Int.reduceToNat]
                refine hK _ _ ?_; clear hK K
               |refine zag rfl (zab (by decide)) rfl ?_
                simp only [eX, ↓reduceIte, Nat.reduceEqDiff, Int.reduceToNat]
               first
               |refine zaf rfl (zab (by decide)) rfl (fun K hK r => ?_)
                simp only [zaF, zaH, g_bool, zbo, zbk, g_slice, g_map, g_func, zbl, g_err, g_iface, zbe, g_nil_r, g_nil_l, eX, ↓reduceIte, Nat.reduceEqDiff, Int.reduceToNat]
                first | rw [b_err_eql _ _ Try.underlying33] | (rw [e_eql _ _ _ _ (by simp), q_equal]; first | rw [q_iface_nil _ _ _ Try.underlying33] | rw [q_nil_iface _ _ _ Try.underlying33] | rw [q_nil_nil _ _ _ Try.underlying33])
                try simp only [eX, ↓reduceIte, Nat.reduceEqDiff, Int.reduceToNat]
                refine hK _ _ ?_; clear hK K
               |refine zag rfl (zab (by decide)) rfl ?_
                simp only [eX, ↓reduceIte, Nat.reduceEqDiff, Int.reduceToNat]
               refine zac (fun K hK r => ?_)
               simp only [zbp, zaZ, HL.ite_bool, if_true, if_false, Bool.false_eq_true, eX, ↓reduceIte, Nat.reduceEqDiff, Int.reduceToNat]
               refine hK _ _ ?_; clear hK K
               refine zae ?_
               try simp only [Ex.thnH, Ex.inBlockH, ↓reduceIte, Nat.reduceEqDiff]
               refine hK29 _ _ ?_; try clear hK29 K29
               refine zaG (fun r => rfl) (fun c149 => ?_) (fun c149 => ?_)
               ·first
                |(exfalso; exact cnA c149; done)
                |skip
                 skip
                 obtain ⟨R32, hR32⟩ : ∃ R : Hp, R = emptyHp.upd b10 (.cells (l.getD k default).c.toArray 48) := ⟨_, rfl⟩
                 refine CW_drawR [0, 1, 0, 2, 0, 3] [0, 1, 2, 3, 4, 5] R32 (by kernel_rfl) (by kernel_rfl) (by subst hR32; exact le_put (le_empty _) x10) (fun lR32 => ?_)
                 apply zay rfl (zab (by decide)) rfl
                 ·intro r
                  simp only [zah, fa48_3, zap, Nat.reduceAdd, Nat.zero_add, eX, ↓reduceIte, Nat.reduceEqDiff]
                  exact ⟨rfl, Le.refl _⟩
                 simp only [eX, ↓reduceIte, Nat.reduceEqDiff, Int.reduceToNat]
                 apply TW_look rfl (zab (by decide)) rfl
                 ·intro r
                  simp only [zan, eX, ↓reduceIte, Nat.reduceEqDiff]
                  refine zak Try.underlying3 rfl hbA ldA ?_
                  exact ⟨rfl, Le.refl _⟩
                 simp only [eX, ↓reduceIte, Nat.reduceEqDiff, Int.reduceToNat]
                 apply zay rfl (zab (by decide)) rfl
                 ·intro r
                  simp only [zah, fa38_3, zap, Nat.reduceAdd, Nat.zero_add, eX, ↓reduceIte, Nat.reduceEqDiff]
                  exact ⟨rfl, Le.refl _⟩
                 simp only [eX, ↓reduceIte, Nat.reduceEqDiff, Int.reduceToNat]
                 refine TW_chain rfl (zaJ) rfl (fun K hK r => ?_)
                 simp only [zaL, eX, ↓reduceIte, Nat.reduceEqDiff, Int.reduceToNat]
                 have r32n : R32 b7 = none := by rw [hR32]; exact zaA _ _ n107
                 refine zaY sz4 hbA bdA plA fzA ?_
                 try simp only [setL0, setL1, setL2, setL3, setL4, setL5, setL6, setL7, setL8, setL9]
                 refine hK _ _ leA ?_; clear hK K
                 apply zay rfl (zab (by decide)) rfl
                 ·intro r
                  simp only [zah, fa38_2, zap, Nat.reduceAdd, Nat.zero_add, eX, ↓reduceIte, Nat.reduceEqDiff]
                  exact ⟨rfl, Le.refl _⟩
                 simp only [eX, ↓reduceIte, Nat.reduceEqDiff, Int.reduceToNat]
                 refine TW_last rfl (zaJ) rfl (fun K hK r => ?_)
                 simp only [zaL, eX, ↓reduceIte, Nat.reduceEqDiff, Int.reduceToNat]
                 refine zaY sz3 hbA bdA plA fzA ?_
                 try simp only [setL0, setL1, setL2, setL3, setL4, setL5, setL6, setL7, setL8, setL9]
                 try simp only [eX, ↓reduceIte, Nat.reduceEqDiff, Int.reduceToNat]
                 refine hK _ _ ?_; clear hK K
                 refine TW_nil ?_
                 try simp only [Ex.thnH, Ex.inBlockH, ↓reduceIte, Nat.reduceEqDiff]
                 first
                 |exact ⟨G, F110, _, a', cap', X', _, _, B6.fin (Le.trans hB.old lG0) hSn hXn hdn ((hB.pr.save (l.getD k default).gen (l.getD k default).area (l.getD k default).b).1.up (by omega)) kg7 f7 (hB.bs.save _ _ hoB) (by rw [save_len]; exact hB.len) (by rw [← (hB.pr.save (l.getD k default).gen (l.getD k default).area (l.getD k default).b).1.sz0.1, save_szE, hsz1]; exact hB.sz), save_err _ _ _ _, rfl, rfl, rfl, rfl, rfl, rfl, rfl, trivial⟩
                 |exact ⟨G, F133, _, a', cap', X', _, none, B6.fin (Le.trans hB.old lG0) hSn hXn hdn ((hB.pr.crash (l.getD k default).keep).up (by omega)) kg7 f7 (hB.bs.cr _ (by rw [hB.len]; omega)) (by simp [St.cr, hB.len]) (by rw [← (hB.pr.crash (l.getD k default).keep).sz0.1, cr_szE, hsz1]; exact hB.sz), (fun z hz => by cases hz), rfl, rfl, rfl, rfl, rfl, rfl, rfl, trivial⟩
                 |exact ⟨Q, F147, _, ma, mc, X, { m with armed := true, left := (l.getD k default).n }, none, B6.fin (m := { m with armed := true, left := (l.getD k default).n }) hB.old (hS147.less lQ10) hB.rx hB.dv ((hB.pr.arm (show 0 ≤ (l.getD k default).n by omega) hok.n1).up (by omega)) hB.q f7 (hB.bs.congr rfl) hB.len hB.sz, (fun z hz => by cases hz), rfl, rfl, rfl, rfl, rfl, rfl, rfl, trivial⟩
                 |exact ⟨G, F161, _, a', cap', X', _, _, B6.fin (Le.trans hB.old lG0) hSn hXn hdn ((hB.pr.put 0 (l.getD k default).n (l.getD k default).x).up (by omega)) kg7 f7 (hB.bs.wr _ hoX) (by rw [wr_lenE]; exact hB.len) (by rw [← (hB.pr.put 0 (l.getD k default).n (l.getD k default).x).sz0.1, wr_szE, hsz1]; exact hB.sz), wr_err _ _ _ _, rfl, rfl, rfl, rfl, rfl, rfl, rfl, trivial⟩
                 |exact ⟨Q, F, s, ma, mc, X, m, _, ⟨hB.old, hB.st.more (Le.trans (le_upd _ _ _ hb10) (Le.trans l68 l79)), hB.rx, hB.dv, hB.pr.up (by omega), hB.q, hB.f, w7, hB.bs, hB.len, hB.sz⟩, load_err _ _ _ _, rfl, rfl, rfl, rfl, rfl, rfl, rfl, trivial⟩
                 |exact ⟨Q, F, s, ma, mc, X, m, none, ⟨hB.old, hB.st.more (le_upd _ _ _ hb10), hB.rx, hB.dv, hB.pr.up (by omega), hB.q, hB.f, y7, hB.bs, hB.len, hB.sz⟩, (fun z hz => by cases hz), rfl, rfl, rfl, rfl, rfl, rfl, rfl, trivial⟩
               ·first
                |(exfalso; exact cnA c149; done)
                |skip
                 skip
                 refine zaO ?_
                 try simp only [Ex.thnH, Ex.inBlockH, ↓reduceIte, Nat.reduceEqDiff]
                 first
                 |exact ⟨G, F110, _, a', cap', X', _, _, B6.fin (Le.trans hB.old lG0) hSn hXn hdn ((hB.pr.save (l.getD k default).gen (l.getD k default).area (l.getD k default).b).1.up (by omega)) kg7 f7 (hB.bs.save _ _ hoB) (by rw [save_len]; exact hB.len) (by rw [← (hB.pr.save (l.getD k default).gen (l.getD k default).area (l.getD k default).b).1.sz0.1, save_szE, hsz1]; exact hB.sz), save_err _ _ _ _, rfl, rfl, rfl, rfl, rfl, rfl, rfl, trivial⟩
                 |exact ⟨G, F133, _, a', cap', X', _, none, B6.fin (Le.trans hB.old lG0) hSn hXn hdn ((hB.pr.crash (l.getD k default).keep).up (by omega)) kg7 f7 (hB.bs.cr _ (by rw [hB.len]; omega)) (by simp [St.cr, hB.len]) (by rw [← (hB.pr.crash (l.getD k default).keep).sz0.1, cr_szE, hsz1]; exact hB.sz), (fun z hz => by cases hz), rfl, rfl, rfl, rfl, rfl, rfl, rfl, trivial⟩
                 |exact ⟨Q, F147, _, ma, mc, X, { m with armed := true, left := (l.getD k default).n }, none, B6.fin (m := { m with armed := true, left := (l.getD k default).n }) hB.old (hS147.less lQ10) hB.rx hB.dv ((hB.pr.arm (show 0 ≤ (l.getD k default).n by omega) hok.n1).up (by omega)) hB.q f7 (hB.bs.congr rfl) hB.len hB.sz, (fun z hz => by cases hz), rfl, rfl, rfl, rfl, rfl, rfl, rfl, trivial⟩
                 |exact ⟨G, F161, _, a', cap', X', _, _, B6.fin (Le.trans hB.old lG0) hSn hXn hdn ((hB.pr.put 0 (l.getD k default).n (l.getD k default).x).up (by omega)) kg7 f7 (hB.bs.wr _ hoX) (by rw [wr_lenE]; exact hB.len) (by rw [← (hB.pr.put 0 (l.getD k default).n (l.getD k default).x).sz0.1, wr_szE, hsz1]; exact hB.sz), wr_err _ _ _ _, rfl, rfl, rfl, rfl, rfl, rfl, rfl, trivial⟩
                 |exact ⟨Q, F, s, ma, mc, X, m, _, ⟨hB.old, hB.st.more (Le.trans (le_upd _ _ _ hb10) (Le.trans l68 l79)), hB.rx, hB.dv, hB.pr.up (by omega), hB.q, hB.f, w7, hB.bs, hB.len, hB.sz⟩, load_err _ _ _ _, rfl, rfl, rfl, rfl, rfl, rfl, rfl, trivial⟩
                 |exact ⟨Q, F, s, ma, mc, X, m, none, ⟨hB.old, hB.st.more (le_upd _ _ _ hb10), hB.rx, hB.dv, hB.pr.up (by omega), hB.q, hB.f, y7, hB.bs, hB.len, hB.sz⟩, (fun z hz => by cases hz), rfl, rfl, rfl, rfl, rfl, rfl, rfl, trivial⟩
            ·first
             |(exfalso; exact cnA c138; done)
             |skip
              (try simp only [decide_eq_true_eq, decide_eq_false_iff_not, Bool.not_eq_true, Bool.not_eq_false, Bool.and_eq_true, Bool.or_eq_true, Bool.or_eq_false_iff, Bool.not_eq_eq_eq_not, Bool.not_true, Bool.not_false] at c138)
              refine zad (fun K30 hK30 => ?_)
              refine zaa ?_
              refine zac (fun K hK r => ?_)
              simp (disch := (first | omega | decide)) only [zaF, zaH, b_eql, zaq, zar, zat, zau, zas, zav, Bool.not_true, Bool.not_false, eX, ↓reduceIte, Nat.reduceEqDiff, Int.reduceToNat]
              refine hK _ _ ?_; clear hK K
              refine zao rfl ?_
              refine zae ?_
              try simp only [Ex.thnH, Ex.inBlockH, ↓reduceIte, Nat.reduceEqDiff]
              refine hK30 _ _ ?_; try clear hK30 K30
              refine zaG (fun r => rfl) (fun c154 => ?_) (fun c154 => ?_)
              ·first
               |(exfalso; exact cnA c154; done)
               |skip
                (try simp only [decide_eq_true_eq, decide_eq_false_iff_not, Bool.not_eq_true, Bool.not_eq_false, Bool.and_eq_true, Bool.or_eq_true, Bool.or_eq_false_iff, Bool.not_eq_eq_eq_not, Bool.not_true, Bool.not_false] at c154)
                refine zad (fun K31 hK31 => ?_)
                refine zaa ?_
                refine zam rfl ?_
                refine zac (fun K hK r => ?_)
                simp only [zah, fa48_3, zap, Nat.reduceAdd, Nat.zero_add, eX, ↓reduceIte, Nat.reduceEqDiff, Int.reduceToNat]
                refine hK _ _ ?_; clear hK K
                refine zac (fun K hK r => ?_)
                simp only [zan, eX, ↓reduceIte, Nat.reduceEqDiff, Int.reduceToNat]
                refine zak Try.underlying3 rfl hbA ldA ?_
                try simp only [eX, ↓reduceIte, Nat.reduceEqDiff, Int.reduceToNat]
                refine hK _ _ ?_; clear hK K
                refine zac (fun K hK r => ?_)
                simp only [zah, fa48_5, zap, Nat.reduceAdd, Nat.zero_add, eX, ↓reduceIte, Nat.reduceEqDiff, Int.reduceToNat]
                refine hK _ _ ?_; clear hK K
                refine zac (fun K hK r => ?_)
                simp only [zan, eX, ↓reduceIte, Nat.reduceEqDiff, Int.reduceToNat]
                refine zaC Try.underlying45 rfl sz45 hbA (by rw [List.size_toArray, Op6.len]; omega) ?_
                rw [Op6.sec]
                refine hK _ _ ?_; clear hK K
                refine zac (fun K hK r => ?_)
                simp only [zaT _ bd21, List.map_toArray, List.map_cons, List.map_nil, eX, ↓reduceIte, Nat.reduceEqDiff, Int.reduceToNat]
                refine (writeL hS10 hSm (by omega) 0 (l.getD k default).n (l.getD k default).x).mono ?_
                rintro v161 H161 ⟨rfl, F161, hS161⟩
                have hO161 := hS161.old
                have lQ161 := lQ10
                have x7 := hO161 b7 _ z7
                have x10 := hO161 b10 _ z10
                try simp only [eX, ↓reduceIte, Nat.reduceEqDiff, Int.reduceToNat]
                refine hK _ _ ?_; clear hK K
                refine zao rfl ?_
                refine zae ?_
                try simp only [Ex.thnH, Ex.inBlockH, ↓reduceIte, Nat.reduceEqDiff]
                refine hK31 _ _ ?_; try clear hK31 K31
                refine zaa ?_
                refine zac (fun K hK r => ?_)
                simp only [zan, eX, ↓reduceIte, Nat.reduceEqDiff, Int.reduceToNat]
                first | refine zaN Try.underlying38 rfl sz38 hbA bdA ?_ | refine zaC Try.underlying38 rfl sz38 hbA bdA ?_
                try simp only [List.extract_toArray, List.extract_eq_take_drop, Nat.zero_add, Nat.reduceAdd, Nat.reduceSub, Nat.sub_zero, List.drop_succ_cons, List.drop_zero, List.take_succ_cons, List.take_zero, List.take_nil, List.drop_nil]
                try simp only [eX, ↓reduceIte, Nat.reduceEqDiff, Int.reduceToNat]
                refine hK _ _ ?_; clear hK K
                refine zac (fun K hK r => ?_)
                simp only [zah, fa48_3, zap, Nat.reduceAdd, Nat.zero_add, eX, ↓reduceIte, Nat.reduceEqDiff, Int.reduceToNat]
                refine hK _ _ ?_; clear hK K
                refine zac (fun K hK r => ?_)
                simp only [zan, eX, ↓reduceIte, Nat.reduceEqDiff, Int.reduceToNat]
                refine zak Try.underlying3 rfl hbA ldA ?_
                try simp only [eX, ↓reduceIte, Nat.reduceEqDiff, Int.reduceToNat]
                refine hK _ _ ?_; clear hK K
                refine zac (fun K hK r => ?_)
                simp only [zah, fa48_5, zap, Nat.reduceAdd, Nat.zero_add, eX, ↓reduceIte, Nat.reduceEqDiff, Int.reduceToNat]
                refine hK _ _ ?_; clear hK K
                refine zac (fun K hK r => ?_)
                simp only [zan, eX, ↓reduceIte, Nat.reduceEqDiff, Int.reduceToNat]
                refine zaC Try.underlying45 rfl sz45 hbA (by rw [List.size_toArray, Op6.len]; omega) ?_
                rw [Op6.sec]
                refine hK _ _ ?_; clear hK K
                refine zac (fun K hK r => ?_)
                simp only [zaT _ bd22, List.map_toArray, List.map_cons, List.map_nil, eX, ↓reduceIte, Nat.reduceEqDiff, Int.reduceToNat]
                have x7 := hO161 b7 _ z7
                have x10 := hO161 b10 _ z10
                have f7 := hS161.ap b7 (by rw [z7]; simp)
                refine (CallH.use (rput_ok Q ma mc X hB.rx m hB.dv hl5 (fun i => Nat.le_trans (hB.pr.wt i) (by omega)) 0 (l.getD k default).n (l.getD k default).x) (Le.trans lQ161 hO161)).mono ?_
                rintro v168 H168 ⟨G, ⟨a', cap', X', hXl, lG0, rfl, hXn, hdn⟩, lG, hkeep⟩
                obtain ⟨kk7, kg7⟩ := hkeep b7 _ x7 q7
                obtain ⟨kk10, kg10⟩ := hkeep b10 _ x10 q10
                have hSn := (hS161.less lQ161).side lG hkeep
                have lHn : Le H H168 := Le.trans hB.old (Le.trans lG0 lG)
                rw [hB.pr.put2 0 (l.getD k default).n (l.getD k default).x]
                try simp only [eX, ↓reduceIte, Nat.reduceEqDiff, Int.reduceToNat]
                refine hK _ _ ?_; clear hK K
                refine zam rfl ?_
                refine zac (fun K hK r => ?_)
                simp only [zaW, zaX, List.getElem?_toArray, List.getElem?_cons_zero, List.getElem?_cons_succ, zal, eX, ↓reduceIte, Nat.reduceEqDiff, Int.reduceToNat]
                refine hK _ _ ?_; clear hK K
                refine zac (fun K hK r => ?_)
                simp only [zaW, zaX, List.getElem?_toArray, List.getElem?_cons_zero, List.getElem?_cons_succ, zal, eX, ↓reduceIte, Nat.reduceEqDiff, Int.reduceToNat]
                refine hK _ _ ?_; clear hK K
                refine zbq rfl (zaJ) (fun K hK r => ?_)
                simp only [zaL, eX, ↓reduceIte, Nat.reduceEqDiff, Int.reduceToNat]
                first | refine zaz sz38 bdA hbA bdA plA (by decide) ?_ | refine zaI sz38 bdA hbA bdA plA (by decide) ?_
                try simp only [eX, ↓reduceIte, Nat.reduceEqDiff, Int.reduceToNat]
                refine hK _ _ ?_; clear hK K
                refine zao rfl ?_
                refine zae ?_
                try simp only [Ex.thnH, Ex.inBlockH, ↓reduceIte, Nat.reduceEqDiff]
                first
                |exact ⟨G, F110, _, a', cap', X', _, _, B6.fin (Le.trans hB.old lG0) hSn hXn hdn ((hB.pr.save (l.getD k default).gen (l.getD k default).area (l.getD k default).b).1.up (by omega)) kg7 f7 (hB.bs.save _ _ hoB) (by rw [save_len]; exact hB.len) (by rw [← (hB.pr.save (l.getD k default).gen (l.getD k default).area (l.getD k default).b).1.sz0.1, save_szE, hsz1]; exact hB.sz), save_err _ _ _ _, rfl, rfl, rfl, rfl, rfl, rfl, rfl, trivial⟩
                |exact ⟨G, F133, _, a', cap', X', _, none, B6.fin (Le.trans hB.old lG0) hSn hXn hdn ((hB.pr.crash (l.getD k default).keep).up (by omega)) kg7 f7 (hB.bs.cr _ (by rw [hB.len]; omega)) (by simp [St.cr, hB.len]) (by rw [← (hB.pr.crash (l.getD k default).keep).sz0.1, cr_szE, hsz1]; exact hB.sz), (fun z hz => by cases hz), rfl, rfl, rfl, rfl, rfl, rfl, rfl, trivial⟩
                |exact ⟨Q, F147, _, ma, mc, X, { m with armed := true, left := (l.getD k default).n }, none, B6.fin (m := { m with armed := true, left := (l.getD k default).n }) hB.old (hS147.less lQ10) hB.rx hB.dv ((hB.pr.arm (show 0 ≤ (l.getD k default).n by omega) hok.n1).up (by omega)) hB.q f7 (hB.bs.congr rfl) hB.len hB.sz, (fun z hz => by cases hz), rfl, rfl, rfl, rfl, rfl, rfl, rfl, trivial⟩
                |exact ⟨G, F161, _, a', cap', X', _, _, B6.fin (Le.trans hB.old lG0) hSn hXn hdn ((hB.pr.put 0 (l.getD k default).n (l.getD k default).x).up (by omega)) kg7 f7 (hB.bs.wr _ hoX) (by rw [wr_lenE]; exact hB.len) (by rw [← (hB.pr.put 0 (l.getD k default).n (l.getD k default).x).sz0.1, wr_szE, hsz1]; exact hB.sz), wr_err _ _ _ _, rfl, rfl, rfl, rfl, rfl, rfl, rfl, trivial⟩
                |exact ⟨Q, F, s, ma, mc, X, m, _, ⟨hB.old, hB.st.more (Le.trans (le_upd _ _ _ hb10) (Le.trans l68 l79)), hB.rx, hB.dv, hB.pr.up (by omega), hB.q, hB.f, w7, hB.bs, hB.len, hB.sz⟩, load_err _ _ _ _, rfl, rfl, rfl, rfl, rfl, rfl, rfl, trivial⟩
                |exact ⟨Q, F, s, ma, mc, X, m, none, ⟨hB.old, hB.st.more (le_upd _ _ _ hb10), hB.rx, hB.dv, hB.pr.up (by omega), hB.q, hB.f, y7, hB.bs, hB.len, hB.sz⟩, (fun z hz => by cases hz), rfl, rfl, rfl, rfl, rfl, rfl, rfl, trivial⟩
              ·first
               |(exfalso; exact cnA c154; done)
               |skip
                (try simp only [decide_eq_true_eq, decide_eq_false_iff_not, Bool.not_eq_true, Bool.not_eq_false, Bool.and_eq_true, Bool.or_eq_true, Bool.or_eq_false_iff, Bool.not_eq_eq_eq_not, Bool.not_true, Bool.not_false] at c154)
                refine zad (fun K32 hK32 => ?_)
                refine zaa ?_
                refine zam rfl ?_
                refine zac (fun K hK r => ?_)
                simp only [zah, fa48_1, zap, Nat.reduceAdd, Nat.zero_add, eX, ↓reduceIte, Nat.reduceEqDiff, Int.reduceToNat]
                refine hK _ _ ?_; clear hK K
                refine zac (fun K hK r => ?_)
                simp only [zan, eX, ↓reduceIte, Nat.reduceEqDiff, Int.reduceToNat]
                refine zak Try.underlying3 rfl hbA ldA ?_
                try simp only [eX, ↓reduceIte, Nat.reduceEqDiff, Int.reduceToNat]
                refine hK _ _ ?_; clear hK K
                refine zac (fun K hK r => ?_)
                simp only [zah, fa48_2, zap, Nat.reduceAdd, Nat.zero_add, eX, ↓reduceIte, Nat.reduceEqDiff, Int.reduceToNat]
                refine hK _ _ ?_; clear hK K
                refine zac (fun K hK r => ?_)
                simp only [zan, eX, ↓reduceIte, Nat.reduceEqDiff, Int.reduceToNat]
                refine zak Try.underlying3 rfl hbA ldA ?_
                try simp only [eX, ↓reduceIte, Nat.reduceEqDiff, Int.reduceToNat]
                refine hK _ _ ?_; clear hK K
                refine zac (fun K hK r => ?_)
                simp only [zah, fa48_3, zap, Nat.reduceAdd, Nat.zero_add, eX, ↓reduceIte, Nat.reduceEqDiff, Int.reduceToNat]
                refine hK _ _ ?_; clear hK K
                refine zac (fun K hK r => ?_)
                simp only [zan, eX, ↓reduceIte, Nat.reduceEqDiff, Int.reduceToNat]
                refine zak Try.underlying3 rfl hbA ldA ?_
                try simp only [eX, ↓reduceIte, Nat.reduceEqDiff, Int.reduceToNat]
                refine hK _ _ ?_; clear hK K
                refine zac (fun K hK r => ?_)
                simp only [zaT _ bd23, List.map_toArray, List.map_cons, List.map_nil, eX, ↓reduceIte, Nat.reduceEqDiff, Int.reduceToNat]
                refine (loadL hS10 hSm (by omega) (by omega) (by omega) (l.getD k default).gen (l.getD k default).area (l.getD k default).n (fun j _ => hB.bs.rd _) hn0 hok.n1).mono ?_
                rintro v68 H68 ⟨l68, x68, rs68, rfl, ho68, _⟩
                have x7 := l68 _ _ y7
                have x10 := l68 _ _ y10
                try simp only [eX, ↓reduceIte, Nat.reduceEqDiff, Int.reduceToNat]
                refine hK _ _ ?_; clear hK K
                refine zam rfl ?_
                refine zac (fun K hK r => ?_)
                simp only [zaW, zaX, List.getElem?_toArray, List.getElem?_cons_zero, List.getElem?_cons_succ, zal, eX, ↓reduceIte, Nat.reduceEqDiff, Int.reduceToNat]
                refine hK _ _ ?_; clear hK K
                refine zac (fun K hK r => ?_)
                simp only [zaW, zaX, List.getElem?_toArray, List.getElem?_cons_zero, List.getElem?_cons_succ, zal, eX, ↓reduceIte, Nat.reduceEqDiff, Int.reduceToNat]
                refine hK _ _ ?_; clear hK K
                refine zao rfl ?_
                refine zao rfl ?_
                refine zae ?_
                try simp only [Ex.thnH, Ex.inBlockH, ↓reduceIte, Nat.reduceEqDiff]
                refine hK32 _ _ ?_; try clear hK32 K32
                refine zad (fun K33 hK33 => ?_)
                refine zaa ?_
                refine zac (fun K hK r => ?_)
                simp only [zan, eX, ↓reduceIte, Nat.reduceEqDiff, Int.reduceToNat]
                first | refine zaN Try.underlying38 rfl sz38 hbA bdA ?_ | refine zaC Try.underlying38 rfl sz38 hbA bdA ?_
                try simp only [List.extract_toArray, List.extract_eq_take_drop, Nat.zero_add, Nat.reduceAdd, Nat.reduceSub, Nat.sub_zero, List.drop_succ_cons, List.drop_zero, List.take_succ_cons, List.take_zero, List.take_nil, List.drop_nil]
                try simp only [eX, ↓reduceIte, Nat.reduceEqDiff, Int.reduceToNat]
                refine hK _ _ ?_; clear hK K
                refine zac (fun K hK r => ?_)
                simp only [zah, fa48_1, zap, Nat.reduceAdd, Nat.zero_add, eX, ↓reduceIte, Nat.reduceEqDiff, Int.reduceToNat]
                refine hK _ _ ?_; clear hK K
                refine zac (fun K hK r => ?_)
                simp only [zan, eX, ↓reduceIte, Nat.reduceEqDiff, Int.reduceToNat]
                refine zak Try.underlying3 rfl hbA ldA ?_
                try simp only [eX, ↓reduceIte, Nat.reduceEqDiff, Int.reduceToNat]
                refine hK _ _ ?_; clear hK K
                refine zac (fun K hK r => ?_)
                simp only [zah, fa48_2, zap, Nat.reduceAdd, Nat.zero_add, eX, ↓reduceIte, Nat.reduceEqDiff, Int.reduceToNat]
                refine hK _ _ ?_; clear hK K
                refine zac (fun K hK r => ?_)
                simp only [zan, eX, ↓reduceIte, Nat.reduceEqDiff, Int.reduceToNat]
                refine zak Try.underlying3 rfl hbA ldA ?_
                try simp only [eX, ↓reduceIte, Nat.reduceEqDiff, Int.reduceToNat]
                refine hK _ _ ?_; clear hK K
                refine zac (fun K hK r => ?_)
                simp only [zah, fa48_3, zap, Nat.reduceAdd, Nat.zero_add, eX, ↓reduceIte, Nat.reduceEqDiff, Int.reduceToNat]
                refine hK _ _ ?_; clear hK K
                refine zac (fun K hK r => ?_)
                simp only [zan, eX, ↓reduceIte, Nat.reduceEqDiff, Int.reduceToNat]
                refine zak Try.underlying3 rfl hbA ldA ?_
                try simp only [eX, ↓reduceIte, Nat.reduceEqDiff, Int.reduceToNat]
                refine hK _ _ ?_; clear hK K
                refine zac (fun K hK r => ?_)
                simp only [zaT _ bd24, List.map_toArray, List.map_cons, List.map_nil, eX, ↓reduceIte, Nat.reduceEqDiff, Int.reduceToNat]
                refine (rloadL _ ma mc X (hB.rx.le (Le.trans hB.st.old (Le.trans (le_upd _ _ _ hb10) l68))) m hB.dv hB.pr (by omega) hB.sz (l.getD k default).gen (l.getD k default).area (l.getD k default).n (fun j _ => hB.bs.rd _) hn0 hok.n1).mono ?_
                rintro v79 H79 ⟨l79, x79, rs79, rfl, ho79, _⟩
                have w7 := l79 _ _ x7
                have w10 := l79 _ _ x10
                have hS79 := hS10.more (Le.trans l68 l79)
                try simp only [eX, ↓reduceIte, Nat.reduceEqDiff, Int.reduceToNat]
                refine hK _ _ ?_; clear hK K
                refine zam rfl ?_
                refine zac (fun K hK r => ?_)
                simp only [zaW, zaX, List.getElem?_toArray, List.getElem?_cons_zero, List.getElem?_cons_succ, zal, eX, ↓reduceIte, Nat.reduceEqDiff, Int.reduceToNat]
                refine hK _ _ ?_; clear hK K
                refine zac (fun K hK r => ?_)
                simp only [zaW, zaX, List.getElem?_toArray, List.getElem?_cons_zero, List.getElem?_cons_succ, zal, eX, ↓reduceIte, Nat.reduceEqDiff, Int.reduceToNat]
                refine hK _ _ ?_; clear hK K
                refine zao rfl ?_
                refine zao rfl ?_
                refine zae ?_
                try simp only [Ex.thnH, Ex.inBlockH, ↓reduceIte, Nat.reduceEqDiff]
                refine hK33 _ _ ?_; try clear hK33 K33
                refine zad (fun K34 hK34 => ?_)
                refine zad (fun K35 hK35 => ?_)
                obtain ⟨R18, hR18⟩ : ∃ R : Hp, R = (emptyHp.upd b10 (.cells (l.getD k default).c.toArray 48)).upd b7 (.cells (m.c (.slice ma X.length mc)).toArray 38) := ⟨_, rfl⟩
                refine CW_drawR [0, 0, 5, 0, 0, 0, 0, 1, 2, 1, 0, 1, 2, 0, 0] [0, 1, 2, 3, 4, 5, 6, 7, 8, 9, 10, 11, 12, 13, 14] R18 (by kernel_rfl) (by kernel_rfl) (by subst hR18; exact le_put (le_put (le_empty _) w10) w7) (fun lR18 => ?_)
                apply zay rfl (zab (by decide)) rfl
                ·intro r
                 simp only [zaU, eX, ↓reduceIte, Nat.reduceEqDiff]
                 exact ⟨rfl, Le.refl _⟩
                simp only [eX, ↓reduceIte, Nat.reduceEqDiff, Int.reduceToNat]
                apply zay rfl (zab (by decide)) rfl
                ·intro r
                 simp only [zaU, eX, ↓reduceIte, Nat.reduceEqDiff]
                 exact ⟨rfl, Le.refl _⟩
                simp only [eX, ↓reduceIte, Nat.reduceEqDiff, Int.reduceToNat]
                refine TW_fence rfl (zab (by decide)) rfl (fun K hK r => ?_)
                simp only [zaT _ bd25, List.map_toArray, List.map_cons, List.map_nil, eX, ↓reduceIte, Nat.reduceEqDiff, Int.reduceToNat]
                refine (num_Same _ _ _ _ _ (s.load (l.getD k default).gen (l.getD k default).area (l.getD k default).n).1 (s.load (l.getD k default).gen (l.getD k default).area (l.getD k default).n).1 (ho68.holds.le l79) ho79.holds (load_byte hB.bs _ _ _) (load_byte hB.bs _ _ _)).mono ?_
                rintro v H' ⟨rfl, hq⟩
                have hq := hq.symm
                subst hq
                try simp only [eX, ↓reduceIte, Nat.reduceEqDiff, Int.reduceToNat]
                refine hK _ _ (fun R84_ hR84_ => ?_); clear hK K
                apply zay rfl (zab (by decide)) rfl
                ·intro r
                 simp only [x_un, u_not, eX, ↓reduceIte, Nat.reduceEqDiff]
                 exact ⟨rfl, Le.refl _⟩
                simp only [eX, ↓reduceIte, Nat.reduceEqDiff, Int.reduceToNat]
                apply zay rfl (zab (by decide)) rfl
                ·intro r
                 simp only [zaU, eX, ↓reduceIte, Nat.reduceEqDiff]
                 exact ⟨rfl, Le.refl _⟩
                simp only [eX, ↓reduceIte, Nat.reduceEqDiff, Int.reduceToNat]
                (first | refine TW_split (d := 86) rfl (fun g86 => ?_) (fun g86 => ?_) | skip)
                all_goals try (exfalso; exact cnA g86)
                all_goals (try simp only [decide_eq_true_eq, decide_eq_false_iff_not, Bool.not_eq_true, Bool.not_eq_false, Bool.and_eq_true, Bool.or_eq_true, Bool.or_eq_false_iff, Bool.not_eq_eq_eq_not, Bool.not_true, Bool.not_false] at g86)
                all_goals
                 try simp only [eX, ↓reduceIte, Nat.reduceEqDiff, Int.reduceToNat]
                 first
                 |apply TW_pureG rfl (zab (by decide)) rfl rfl
                  ·intro r
                   simp only [zaU, eX, ↓reduceIte, Nat.reduceEqDiff]
                   exact ⟨rfl, Le.refl _⟩
                  simp only [eX, ↓reduceIte, Nat.reduceEqDiff, Int.reduceToNat]
                 |refine TW_guardF rfl (zab (by decide)) rfl ?_
                  simp only [eX, ↓reduceIte, Nat.reduceEqDiff, Int.reduceToNat]
                 first
                 |apply TW_pureG rfl (zab (by decide)) rfl rfl
                  ·intro r
                   simp only [zah, fa48_3, zap, Nat.reduceAdd, Nat.zero_add, eX, ↓reduceIte, Nat.reduceEqDiff]
                   exact ⟨rfl, Le.refl _⟩
                  simp only [eX, ↓reduceIte, Nat.reduceEqDiff, Int.reduceToNat]
                 |refine TW_guardF rfl (zab (by decide)) rfl ?_
                  simp only [eX, ↓reduceIte, Nat.reduceEqDiff, Int.reduceToNat]
                 first
                 |apply TW_lookG rfl (zab (by decide)) rfl rfl
                  ·intro r
                   simp only [zan, eX, ↓reduceIte, Nat.reduceEqDiff]
                   refine zak Try.underlying3 rfl hbA ldA ?_
                   exact ⟨rfl, Le.refl _⟩
                  simp only [eX, ↓reduceIte, Nat.reduceEqDiff, Int.reduceToNat]
                 |refine TW_guardF rfl (zab (by decide)) rfl ?_
                  simp only [eX, ↓reduceIte, Nat.reduceEqDiff, Int.reduceToNat]
                 first
                 |refine TW_chainG rfl (zab (by decide)) rfl rfl (fun K hK r => ?_)
                  simp only [zaT _ bd26, List.map_toArray, List.map_cons, List.map_nil, eX, ↓reduceIte, Nat.reduceEqDiff, Int.reduceToNat]
                  refine (fits_ok hS79 hSm (by omega) (by omega) (l.getD k default).n hn0 hok.n1).mono ?_
                  rintro v H' ⟨rfl, hq⟩
                  have hq := hq.symm
                  subst hq
                  rw [hsz1]
                  try simp only [eX, ↓reduceIte, Nat.reduceEqDiff, Int.reduceToNat]
                  refine hK _ _ leA ?_; clear hK K
                 |refine TW_guardF rfl (zab (by decide)) rfl ?_
                  simp only [eX, ↓reduceIte, Nat.reduceEqDiff, Int.reduceToNat]
                 first
                 |apply TW_lookG rfl (zab (by decide)) rfl rfl
                  ·intro r
                   simp only [zan, eX, ↓reduceIte, Nat.reduceEqDiff]
                   first | refine zaN Try.underlying38 rfl sz38 hbA bdA ?_ | refine zaC Try.underlying38 rfl sz38 hbA bdA ?_
                   try simp only [List.extract_toArray, List.extract_eq_take_drop, Nat.zero_add, Nat.reduceAdd, Nat.reduceSub, Nat.sub_zero, List.drop_succ_cons, List.drop_zero, List.take_succ_cons, List.take_zero, List.take_nil, List.drop_nil]
                   exact ⟨rfl, Le.refl _⟩
                  simp only [eX, ↓reduceIte, Nat.reduceEqDiff, Int.reduceToNat]
                 |refine TW_guardF rfl (zab (by decide)) rfl ?_
                  simp only [eX, ↓reduceIte, Nat.reduceEqDiff, Int.reduceToNat]
                 first
                 |apply TW_pureG rfl (zab (by decide)) rfl rfl
                  ·intro r
                   simp only [zah, fa48_3, zap, Nat.reduceAdd, Nat.zero_add, eX, ↓reduceIte, Nat.reduceEqDiff]
                   exact ⟨rfl, Le.refl _⟩
                  simp only [eX, ↓reduceIte, Nat.reduceEqDiff, Int.reduceToNat]
                 |refine TW_guardF rfl (zab (by decide)) rfl ?_
                  simp only [eX, ↓reduceIte, Nat.reduceEqDiff, Int.reduceToNat]
                 first
                 |apply TW_lookG rfl (zab (by decide)) rfl rfl
                  ·intro r
                   simp only [zan, eX, ↓reduceIte, Nat.reduceEqDiff]
                   refine zak Try.underlying3 rfl hbA ldA ?_
                   exact ⟨rfl, Le.refl _⟩
                  simp only [eX, ↓reduceIte, Nat.reduceEqDiff, Int.reduceToNat]
                 |refine TW_guardF rfl (zab (by decide)) rfl ?_
                  simp only [eX, ↓reduceIte, Nat.reduceEqDiff, Int.reduceToNat]
                 first
                 |refine TW_chainG rfl (zab (by decide)) rfl rfl (fun K hK r => ?_)
                  simp only [zaT _ bd27, List.map_toArray, List.map_cons, List.map_nil, eX, ↓reduceIte, Nat.reduceEqDiff, Int.reduceToNat]
                  refine (rfits_ok _ ma mc X (hB.rx.le (Le.trans hB.st.old (Le.trans (le_upd _ _ _ hb10) (Le.trans l68 l79)))) m hB.dv ⟨hsz2, hsz3⟩ (l.getD k default).n).mono ?_
                  rintro v H' ⟨rfl, hq⟩
                  have hq := hq.symm
                  subst hq
                  try simp only [eX, ↓reduceIte, Nat.reduceEqDiff, Int.reduceToNat]
                  refine hK _ _ leA ?_; clear hK K
                 |refine TW_guardF rfl (zab (by decide)) rfl ?_
                  simp only [eX, ↓reduceIte, Nat.reduceEqDiff, Int.reduceToNat]
                 first
                 |apply TW_pureG rfl (zab (by decide)) rfl rfl
                  ·intro r
                   simp only [zaF, zaH, g_bool, zbo, zbk, g_slice, g_map, g_func, zbl, g_iface, zbe, g_nil_r, g_nil_l, eX, ↓reduceIte, Nat.reduceEqDiff]
                   rw [e_neq _ _ _ _ (by simp)]
                   rw [q_equal, q_bool _ _ Try.underlying4]
                   exact ⟨rfl, Le.refl _⟩
                  simp only [eX, ↓reduceIte, Nat.reduceEqDiff, Int.reduceToNat]
                 |refine TW_guardF rfl (zab (by decide)) rfl ?_
                  simp only [eX, ↓reduceIte, Nat.reduceEqDiff, Int.reduceToNat]
                 apply zay rfl (zab (by decide)) rfl
                 ·intro r
                  simp only [zbp, zaZ, HL.ite_bool, if_true, if_false, Bool.false_eq_true, eX, ↓reduceIte, Nat.reduceEqDiff]
                  exact ⟨rfl, Le.refl _⟩
                 simp only [eX, ↓reduceIte, Nat.reduceEqDiff, Int.reduceToNat]
                 refine TW_nil ?_
                 try simp only [Ex.thnH, Ex.inBlockH, ↓reduceIte, Nat.reduceEqDiff]
                 refine hK35 _ _ ?_; try clear hK35 K35
                 refine zaG (fun r => rfl) (fun c96 => ?_) (fun c96 => ?_)
                 ·exfalso; first | (exact cnA c96; done) | (simp at c96; done)
                 refine zaO ?_
                 try simp only [Ex.thnH, Ex.inBlockH, ↓reduceIte, Nat.reduceEqDiff]
                 refine hK34 _ _ ?_; try clear hK34 K34
                 refine zaa ?_
                 refine zam rfl ?_
                 refine zam rfl ?_
                 refine zao rfl ?_
                 refine zao rfl ?_
                 refine zae ?_
                 try simp only [Ex.thnH, Ex.inBlockH, ↓reduceIte, Nat.reduceEqDiff]
                 first
                 |exact ⟨G, F110, _, a', cap', X', _, _, B6.fin (Le.trans hB.old lG0) hSn hXn hdn ((hB.pr.save (l.getD k default).gen (l.getD k default).area (l.getD k default).b).1.up (by omega)) kg7 f7 (hB.bs.save _ _ hoB) (by rw [save_len]; exact hB.len) (by rw [← (hB.pr.save (l.getD k default).gen (l.getD k default).area (l.getD k default).b).1.sz0.1, save_szE, hsz1]; exact hB.sz), save_err _ _ _ _, rfl, rfl, rfl, rfl, rfl, rfl, rfl, trivial⟩
                 |exact ⟨G, F133, _, a', cap', X', _, none, B6.fin (Le.trans hB.old lG0) hSn hXn hdn ((hB.pr.crash (l.getD k default).keep).up (by omega)) kg7 f7 (hB.bs.cr _ (by rw [hB.len]; omega)) (by simp [St.cr, hB.len]) (by rw [← (hB.pr.crash (l.getD k default).keep).sz0.1, cr_szE, hsz1]; exact hB.sz), (fun z hz => by cases hz), rfl, rfl, rfl, rfl, rfl, rfl, rfl, trivial⟩
                 |exact ⟨Q, F147, _, ma, mc, X, { m with armed := true, left := (l.getD k default).n }, none, B6.fin (m := { m with armed := true, left := (l.getD k default).n }) hB.old (hS147.less lQ10) hB.rx hB.dv ((hB.pr.arm (show 0 ≤ (l.getD k default).n by omega) hok.n1).up (by omega)) hB.q f7 (hB.bs.congr rfl) hB.len hB.sz, (fun z hz => by cases hz), rfl, rfl, rfl, rfl, rfl, rfl, rfl, trivial⟩
                 |exact ⟨G, F161, _, a', cap', X', _, _, B6.fin (Le.trans hB.old lG0) hSn hXn hdn ((hB.pr.put 0 (l.getD k default).n (l.getD k default).x).up (by omega)) kg7 f7 (hB.bs.wr _ hoX) (by rw [wr_lenE]; exact hB.len) (by rw [← (hB.pr.put 0 (l.getD k default).n (l.getD k default).x).sz0.1, wr_szE, hsz1]; exact hB.sz), wr_err _ _ _ _, rfl, rfl, rfl, rfl, rfl, rfl, rfl, trivial⟩
                 |exact ⟨Q, F, s, ma, mc, X, m, _, ⟨hB.old, hB.st.more (Le.trans (le_upd _ _ _ hb10) (Le.trans l68 l79)), hB.rx, hB.dv, hB.pr.up (by omega), hB.q, hB.f, w7, hB.bs, hB.len, hB.sz⟩, load_err _ _ _ _, rfl, rfl, rfl, rfl, rfl, rfl, rfl, trivial⟩
                 |exact ⟨Q, F, s, ma, mc, X, m, none, ⟨hB.old, hB.st.more (le_upd _ _ _ hb10), hB.rx, hB.dv, hB.pr.up (by omega), hB.q, hB.f, y7, hB.bs, hB.len, hB.sz⟩, (fun z hz => by cases hz), rfl, rfl, rfl, rfl, rfl, rfl, rfl, trivial⟩
       rintro e_ HE ⟨Q2, F2, s2, ma2, mc2, X2, m2, ev, hB2, hev, he⟩
       refine CW_env he.sub ?_; clear he e_
       have hHE : Le H HE := Le.trans hB2.old hB2.st.old
       refine zad (fun K36 hK36 => ?_)
       refine zaa ?_
       refine zam rfl ?_
       refine zac (fun K hK r => ?_)
       simp only [zaT _ bd28, List.map_toArray, List.map_cons, List.map_nil, eX, ↓reduceIte, Nat.reduceEqDiff, Int.reduceToNat]
       refine (num_Num _ ev hev).mono ?_
       rintro v H' ⟨rfl, hq⟩
       have hq := hq.symm
       subst hq
       try simp only [eX, ↓reduceIte, Nat.reduceEqDiff, Int.reduceToNat]
       refine hK _ _ ?_; clear hK K
       refine zam rfl ?_
       refine zac (fun K hK r => ?_)
       simp (disch := (first | omega | decide)) only [zaF, zaH, b_neq, zaq, zar, zat, zau, zas, zav, Bool.not_true, Bool.not_false, eX, ↓reduceIte, Nat.reduceEqDiff, Int.reduceToNat]
       refine hK _ _ ?_; clear hK K
       refine zae ?_
       try simp only [Ex.thnH, Ex.inBlockH, ↓reduceIte, Nat.reduceEqDiff]
       refine hK36 _ _ ?_; try clear hK36 K36
       refine zaG (fun r => rfl) (fun c174 => ?_) (fun c174 => ?_)
       ·exfalso; first | (exact cnA c174; done) | (simp at c174; done)
       refine zaO ?_
       try simp only [Ex.thnH, Ex.inBlockH, ↓reduceIte, Nat.reduceEqDiff]
       refine hK16 _ _ ?_; try clear hK16 K16
       refine zaa ?_
       refine zac (fun K hK r => ?_)
       simp (disch := (first | omega | decide)) only [zaF, zaH, b_add, zaw, zaE, zaD, zaQ, eX, ↓reduceIte, Nat.reduceEqDiff, Int.reduceToNat]
       refine hK _ _ ?_; clear hK K
       refine zam rfl ?_
       refine zae ?_
       try simp only [Ex.thnH, Ex.inBlockH, ↓reduceIte, Nat.reduceEqDiff]
       exact ⟨l.length - (k + 1), by omega, k + 1, _, _, _, _, _, _, _, by omega, rfl, hB2, rfl, rfl, rfl, rfl, rfl, trivial⟩
     ·first
      |(exfalso; exact cnA c55; done)
      |skip
       (try simp only [decide_eq_true_eq, decide_eq_false_iff_not, Bool.not_eq_true, Bool.not_eq_false, Bool.and_eq_true, Bool.or_eq_true, Bool.or_eq_false_iff, Bool.not_eq_eq_eq_not, Bool.not_true, Bool.not_false] at c55)
       refine CW_exit ?_
       try simp only [Ex.thnH, Ex.inBlockH, ↓reduceIte, Nat.reduceEqDiff]
       refine hK12 _ _ ?_; try clear hK12 K12
       refine zad (fun K37 hK37 => ?_)
       refine zaa ?_
       refine zao rfl ?_
       refine zae ?_
       try simp only [Ex.thnH, Ex.inBlockH, ↓reduceIte, Nat.reduceEqDiff]
       refine hK37 _ _ ?_; try clear hK37 K37
       refine zaR ?_
       try simp only [Ex.thnH, Ex.inBlockH, ↓reduceIte, Nat.reduceEqDiff]
       exact ⟨[_], ⟨rfl, trivial⟩, _, Le.refl _, rfl, hHH⟩
end Go.Proofs.Ytcjdkfhmlnfedaa.HL
end
