/- Parts of the proof, one behind the other: V62, V63, V64, V65, V66, V67, V69, V68, V70, V73, V75, V76, V74, V77, V78, VR30. -/
import Derived.Test.YtigofhhonnbkmaaX4
set_option linter.unusedSimpArgs false
set_option linter.unusedVariables false
section
namespace Go.Proofs.Ytigofhhonnbkmaa.HL
open Go Go.Proofs
set_option linter.unusedSimpArgs false
set_option linter.unusedVariables false
attribute [local irreducible] Lt Lq CW OW TW CallH
def KeepBut (H : Hp) (p : Nat) (H' : Hp) : Prop := ∀ b o, H b = some o → b ≠ p → H' b = some o
theorem KeepBut.refl (H : Hp) (p : Nat) : KeepBut H p H := fun _ _ h _ => h
theorem KeepBut.trans {H H1 H2 : Hp} {p : Nat} (h : KeepBut H p H1) (k : KeepBut H1 p H2) : KeepBut H p H2 := fun b o hb hn => k b o (h b o hb hn) hn
theorem KeepBut.upd (H : Hp) (p : Nat) (o : Obj) : KeepBut H p (H.upd p o) := fun b o' hb hn => by rw [zap _ _ hn]; exact hb
theorem KeepBut.of_le {H H' : Hp} (p : Nat) (h : Le H H') : KeepBut H p H' := fun b o hb _ => h b o hb
theorem KeepBut.le {H0 H H' : Hp} {p : Nat} (h : KeepBut H p H') (hl : Le H0 H) (hp : H0 p = none) : Le H0 H' := fun b o hb => h b o (hl b o hb) (fun e => by rw [e, hp] at hb; cases hb)
def RM (H0 H : Hp) (p : Nat) (l : List Int) (bad : Bool) : Prop := ∃ a cap, H p = some (.cells #[.slice a l.length cap, .bool bad] 107) ∧ l.length ≤ cap ∧ Holds H0 1 (.slice a l.length cap) l.length (u8s l) ∧ (bad = true → l = [])
theorem cut_take8 (l : List Int) (k : Nat) : ((u8s l).drop (0 * 1)).take ((k - 0) * 1) = u8s (l.take k) := by
  rw [Nat.zero_mul, List.drop_zero, Nat.mul_one, Nat.sub_zero]; simp only [List.map_take]
theorem RM.bad (H0 H : Hp) (p : Nat) : RM H0 (H.upd p (.cells #[.slice none 0 0, .bool true] 107)) p [] true := ⟨none, 0, zan _ _ _, Nat.le_refl _, ⟨rfl, .inl ⟨_, _, rfl, rfl⟩⟩, fun _ => rfl⟩
theorem RM.of {H0 H : Hp} {p : Nat} {a : Option Addr} {n cap : Nat} {l' : List Int} (hu : H p = some (.cells #[.slice a n cap, .bool false] 107)) (hn : n = l'.length) (hc : n ≤ cap) (hh : Holds H0 1 (.slice a n cap) n (u8s l')) : RM H0 H p l' false := by
  subst hn; exact ⟨a, cap, hu, hc, hh, fun h => by cases h⟩
theorem RM.keep {H0 H H' : Hp} {p : Nat} {l : List Int} {bad : Bool} (h : RM H0 H p l bad) (k : ∀ o, H p = some o → H' p = some o) : RM H0 H' p l bad := by
  obtain ⟨a, cap, h1, h2⟩ := h; exact ⟨a, cap, k _ h1, h2⟩
theorem ybY {p q : Prop} (h : q) (e : p = q := by simp only [zao, fa107_1, zaH, Nat.reduceAdd, Nat.zero_add, eX, ↓reduceIte, Nat.reduceEqDiff, Int.reduceToNat]; exact rfl) : p := e.mpr h
theorem ybZ {p q : Prop} (h : q) (e : p = q := by simp only [zao, fa107_0, zaH, Nat.reduceAdd, Nat.zero_add, eX, ↓reduceIte, Nat.reduceEqDiff, Int.reduceToNat]; exact rfl) : p := e.mpr h
set_option maxRecDepth 100000 in
set_option maxHeartbeats 1000000 in
theorem mFail_ok (H : Hp) (p : Nat) (x : Value) (b : Bool) (hp : H p = some (.cells #[x, .bool b] 107)) : CallH Try.prog 74 #[.pointer (some ⟨p, 0, none⟩)] H (fun _ H' => H' = H.upd p (.cells #[.slice none 0 0, .bool true] 107)) := by
 refine zam (l := [_]) (rl := []) (n := 8) Try.func74 rfl rfl rfl rfl rfl ?_
 refine yaa ?_
 refine zac (fun K1 hK1 => ?_)
 refine zaa ?_
 refine zah rfl ?_
 refine zab (fun K hK r => ?_)
 rw [zav _ _ rfl]
 refine yaj ?_
 refine hK _ _ ?_; clear hK K
 refine zab (fun K hK r => ?_)
 refine ybY ?_
 refine hK _ _ ?_; clear hK K
 refine zaI rfl (zas) (fun K hK r => ?_)
 refine yaD ?_
 refine zaE sz4 hbA bdA plA fzA ?_
 refine yaE ?_
 refine yaf ?_
 refine hK _ _ ?_; clear hK K
 refine zad ?_
 refine yab ?_
 refine hK1 _ _ ?_; try clear hK1 K1
 refine zaa ?_
 refine zah rfl ?_
 refine zab (fun K hK r => ?_)
 rw [zav _ _ rfl]
 refine yaj ?_
 refine hK _ _ ?_; clear hK K
 refine zab (fun K hK r => ?_)
 refine ybZ ?_
 refine hK _ _ ?_; clear hK K
 refine zaI rfl (zas) (fun K hK r => ?_)
 refine yaD ?_
 refine zaE sz80 hbA bdA plA fzA ?_
 refine yaE ?_
 refine yaf ?_
 refine hK _ _ ?_; clear hK K
 refine zad ?_
 refine yab ?_
 exact ⟨[], trivial, _, Le.refl _, rfl⟩
theorem yca {p q : Prop} (h : q) (e : p = q := by simp only [zaF _ bd74, List.map_toArray, List.map_cons, List.map_nil, eX, ↓reduceIte, Nat.reduceEqDiff, Int.reduceToNat]; exact rfl) : p := e.mpr h
theorem ycb {p q : Prop} (h : q) (e : p = q := by simp only [zaF _ bd46, List.map_toArray, List.map_cons, List.map_nil, eX, ↓reduceIte, Nat.reduceEqDiff, Int.reduceToNat]; exact rfl) : p := e.mpr h
set_option maxRecDepth 100000 in
set_option maxHeartbeats 8000000 in
theorem mCount_ok (H0 H : Hp) (p : Nat) (l : List Int) (bad : Bool) (hr : RM H0 H p l bad) (hle : Le H0 H) (hp0 : H0 p = none) (hB : ByteL l) (hl : l.length ≤ 100000) : CallH Try.prog 73 #[.pointer (some ⟨p, 0, none⟩)] H (fun v H' => ∃ res, RCb bad l res ∧ v = .int .u64 (rcN res) ∧ RM H0 H' p (rcL res) res.isNone ∧ KeepBut H p H') := by
 refine zam (l := [_]) (rl := [.tmp 2]) (n := 92) Try.func73 rfl rfl rfl rfl rfl ?_
 refine yaa ?_
 obtain ⟨a, cap, hp, hcap, hh, hbad⟩ := hr
 refine zac (fun K1 hK1 => ?_)
 refine zaa ?_
 refine zaj rfl ?_
 refine zad ?_
 refine yab ?_
 refine hK1 _ _ ?_; try clear hK1 K1
 refine zac (fun K2 hK2 => ?_)
 refine zaa ?_
 refine zaj rfl ?_
 refine zad ?_
 refine yab ?_
 refine hK2 _ _ ?_; try clear hK2 K2
 refine zac (fun K3 hK3 => ?_)
 refine zaB ?_
 refine CW_loop (fun m e H_ => ∃ n : Nat, n ≤ l.length ∧ n ≤ 10 ∧ m = 10 - n ∧ Big1 (l.take n) ∧ Env.has [(0, .pointer (some ⟨p, 0, none⟩)), (3, .int .i64 n)] e ∧ H_ = H) (10) ?_ ?_
 ·skip
  exact ⟨0, by omega, by omega, by omega, by simpa using Big1.nil, ⟨rfl, rfl, trivial⟩, rfl⟩
 intro m_ e_ H_ hI_
 obtain ⟨n, hn, hn10, rfl, hbg, he, hH_⟩ := hI_
 have hH_ := hH_.symm; subst hH_
 refine CW_env he.sub ?_; clear he e_
 have hcB := hB.at n
 refine zac (fun K4 hK4 => ?_)
 refine zac (fun K5 hK5 => ?_)
 refine zaa ?_
 refine zah rfl ?_
 refine zah rfl ?_
 refine zab (fun K hK r => ?_)
 rw [zav _ _ rfl]
 refine yaj ?_
 refine hK _ _ ?_; clear hK K
 refine zab (fun K hK r => ?_)
 refine ybZ ?_
 refine hK _ _ ?_; clear hK K
 refine zab (fun K hK r => ?_)
 refine yap ?_
 refine zae Try.underlying80 rfl hbA ldA ?_
 refine yaf ?_
 refine hK _ _ ?_; clear hK K
 refine zab (fun K hK r => ?_)
 refine yaO ?_
 refine hK _ _ ?_; clear hK K
 refine zab (fun K hK r => ?_)
 refine yac ?_
 refine hK _ _ ?_; clear hK K
 refine zah rfl ?_
 (first | refine zaA (d := 14) rfl (fun g14 => ?_) (fun g14 => ?_) | skip)
 all_goals try (exfalso; exact cnA g14)
 all_goals (try replace g14 := yad g14)
 all_goals
  refine yaf ?_
  first
  |refine yGT (fun K hK r => ?_)
   refine yai ?_
   refine hK _ _ ?_; clear hK K
  |refine yGF ?_
   refine yaj ?_
  first
  |refine yGT (fun K hK r => ?_)
   refine yac ?_
   refine hK _ _ ?_; clear hK K
  |refine yGF ?_
   refine yaj ?_
  refine zab (fun K hK r => ?_)
  refine yal ?_
  refine hK _ _ ?_; clear hK K
  refine zah rfl ?_
  (first | refine zaA (d := 18) rfl (fun g18 => ?_) (fun g18 => ?_) | skip)
  all_goals try (exfalso; exact cnA g18)
  all_goals (try replace g18 := yad g18)
  all_goals
   refine yaf ?_
   first
   |refine yGT (fun K hK r => ?_)
    refine yai ?_
    refine hK _ _ ?_; clear hK K
   |refine yGF ?_
    refine yaj ?_
   first
   |refine yGT (fun K hK r => ?_)
    rw [zav _ _ rfl]
    refine yaj ?_
    refine hK _ _ ?_; clear hK K
   |refine yGF ?_
    refine yaj ?_
   first
   |refine yGT (fun K hK r => ?_)
    refine ybZ ?_
    refine hK _ _ ?_; clear hK K
   |refine yGF ?_
    refine yaj ?_
   first
   |refine yGT (fun K hK r => ?_)
    refine yap ?_
    refine zae Try.underlying80 rfl hbA ldA ?_
    refine yaf ?_
    refine hK _ _ ?_; clear hK K
   |refine yGF ?_
    refine yaj ?_
   first
   |refine yGT (fun K hK r => ?_)
    refine yai ?_
    refine hK _ _ ?_; clear hK K
   |refine yGF ?_
    refine yaj ?_
   first
   |refine yGT (fun K hK r => ?_)
    refine yaw ?_
    obtain ⟨bI, oI, qI, TI, FI, rfl, hbI, hsI, atI⟩ := hh.at (by omega)
    have hbI_ := hle bI _ hbI
    refine Lt_indexS Try.underlying80 sz5 ixA ixA ?_
    refine yax ?_
    refine hK _ _ ?_; clear hK K
   |refine yGF ?_
    refine yaj ?_
   first
   |refine yGT (fun K hK r => ?_)
    refine yap ?_
    refine zae Try.underlying5 rfl hbA (v := .int .u8 (l.getD n 0)) (by first | exact ints_at atI rfl _ (by omega) | (simp only [Int.toNat_natCast, Nat.mul_one]; exact ints_at atI rfl _ (by omega))) ?_
    refine hK _ _ ?_; clear hK K
   |refine yGF ?_
    refine yaj ?_
   first
   |refine yGT (fun K hK r => ?_)
    refine yav ?_
    refine hK _ _ ?_; clear hK K
   |refine yGF ?_
    refine yaj ?_
   refine zab (fun K hK r => ?_)
   refine yal ?_
   refine hK _ _ ?_; clear hK K
   refine zad ?_
   refine yab ?_
   refine hK5 _ _ ?_; try clear hK5 K5
   refine zar (fun r => rfl) (fun c27 => ?_) (fun c27 => ?_)
   ·first
    |(exfalso; exact cnA c27; done)
    |skip
     (try replace c27 := yad c27)
     refine zau ?_
     refine yab ?_
     refine hK4 _ _ ?_; try clear hK4 K4
     refine zaB ?_
     refine zaa ?_
     refine zah rfl ?_
     refine zab (fun K hK r => ?_)
     refine yaq ?_
     refine hK _ _ ?_; clear hK K
     refine zaj rfl ?_
     refine zad ?_
     refine yab ?_
     refine ⟨10 - (n + 1), by omega, n + 1, by omega, by omega, rfl, big_step (by omega) hB hbg (by omega), ⟨rfl, rfl, trivial⟩, rfA⟩
   ·first
    |(exfalso; exact cnA c27; done)
    |skip
     (try replace c27 := yad c27)
     refine CW_exit ?_
     refine yab ?_
     refine hK3 _ _ ?_; try clear hK3 K3
     refine zac (fun K6 hK6 => ?_)
     refine zac (fun K7 hK7 => ?_)
     refine zaa ?_
     refine zah rfl ?_
     refine zab (fun K hK r => ?_)
     rw [zav _ _ rfl]
     refine yaj ?_
     refine hK _ _ ?_; clear hK K
     refine zab (fun K hK r => ?_)
     refine ybY ?_
     refine hK _ _ ?_; clear hK K
     refine zab (fun K hK r => ?_)
     refine yap ?_
     refine zae Try.underlying4 rfl hbA ldA ?_
     refine yaf ?_
     refine hK _ _ ?_; clear hK K
     refine zah rfl ?_
     (first | refine zaA (d := 34) rfl (fun g34 => ?_) (fun g34 => ?_) | skip)
     all_goals try (exfalso; exact cnA g34)
     all_goals (try replace g34 := yad g34)
     all_goals
      refine yaf ?_
      first
      |refine yGT (fun K hK r => ?_)
       refine yai ?_
       refine hK _ _ ?_; clear hK K
      |refine yGF ?_
       refine yaj ?_
      first
      |refine yGT (fun K hK r => ?_)
       refine yai ?_
       refine hK _ _ ?_; clear hK K
      |refine yGF ?_
       refine yaj ?_
      first
      |refine yGT (fun K hK r => ?_)
       rw [zav _ _ rfl]
       refine yaj ?_
       refine hK _ _ ?_; clear hK K
      |refine yGF ?_
       refine yaj ?_
      first
      |refine yGT (fun K hK r => ?_)
       refine ybZ ?_
       refine hK _ _ ?_; clear hK K
      |refine yGF ?_
       refine yaj ?_
      first
      |refine yGT (fun K hK r => ?_)
       refine yap ?_
       refine zae Try.underlying80 rfl hbA ldA ?_
       refine yaf ?_
       refine hK _ _ ?_; clear hK K
      |refine yGF ?_
       refine yaj ?_
      first
      |refine yGT (fun K hK r => ?_)
       refine yaO ?_
       refine hK _ _ ?_; clear hK K
      |refine yGF ?_
       refine yaj ?_
      first
      |refine yGT (fun K hK r => ?_)
       refine yav ?_
       refine hK _ _ ?_; clear hK K
      |refine yGF ?_
       refine yaj ?_
      refine zab (fun K hK r => ?_)
      refine yal ?_
      refine hK _ _ ?_; clear hK K
      refine zah rfl ?_
      (first | refine zaA (d := 43) rfl (fun g43 => ?_) (fun g43 => ?_) | skip)
      all_goals try (exfalso; exact cnA g43)
      all_goals (try replace g43 := yad g43)
      all_goals
       refine yaf ?_
       first
       |refine yGT (fun K hK r => ?_)
        refine yai ?_
        refine hK _ _ ?_; clear hK K
       |refine yGF ?_
        refine yaj ?_
       first
       |refine yGT (fun K hK r => ?_)
        refine yav ?_
        refine hK _ _ ?_; clear hK K
       |refine yGF ?_
        refine yaj ?_
       refine zab (fun K hK r => ?_)
       refine yal ?_
       refine hK _ _ ?_; clear hK K
       refine zad ?_
       refine yab ?_
       refine hK7 _ _ ?_; try clear hK7 K7
       refine zar (fun r => rfl) (fun c46 => ?_) (fun c46 => ?_)
       ·first
        |(exfalso; exact cnA c46; done)
        |skip
         (try replace c46 := yad c46)
         refine zac (fun K8 hK8 => ?_)
         refine zaa ?_
         refine zah rfl ?_
         refine zab (fun K hK r => ?_)
         refine yca ?_
         refine (mFail_ok _ p _ _ hp).mono ?_
         rintro v48 H48 rfl
         refine yaf ?_
         refine hK _ _ ?_; clear hK K
         refine zad ?_
         refine yab ?_
         refine hK8 _ _ ?_; try clear hK8 K8
         refine zac (fun K9 hK9 => ?_)
         refine zaa ?_
         refine zaj rfl ?_
         refine zad ?_
         refine yab ?_
         refine hK9 _ _ ?_; try clear hK9 K9
         refine zaz ?_
         refine yab ?_
         refine ⟨[_], ⟨rfl, trivial⟩, _, Le.refl _, none, ⟨fun _ => rfl, fun hb => ?_⟩, rfl, RM.bad _ _ _, KeepBut.upd _ _ _⟩
         rcases Nat.lt_or_ge n l.length with hnl | hnl
         ·have h10 : n = 10 := by first | omega | (exfalso; simp_all; done)
          subst h10; exact RC_ten (by omega) hbg
         ·rw [List.take_of_length_le hnl] at hbg; exact RC_end hbg
       ·first
        |(exfalso; exact cnA c46; done)
        |skip
         have hnl : n < l.length ∧ l.getD n 0 < 128 ∧ bad = false := by first | omega | (simp_all; done) | (simp_all; omega)
         obtain ⟨hnl, hc128, rfl⟩ := hnl
         clear c46
         refine zau ?_
         refine yab ?_
         refine hK6 _ _ ?_; try clear hK6 K6
         refine zac (fun K10 hK10 => ?_)
         refine zaa ?_
         refine zaj rfl ?_
         refine zad ?_
         refine yab ?_
         refine hK10 _ _ ?_; try clear hK10 K10
         refine zac (fun K11 hK11 => ?_)
         refine zac (fun K12 hK12 => ?_)
         refine zaa ?_
         refine zah rfl ?_
         refine zaj rfl ?_
         refine zad ?_
         refine yab ?_
         refine hK12 _ _ ?_; try clear hK12 K12
         refine zaB ?_
         refine CW_loop (fun m e H_ => ∃ k : Nat, k ≤ n + 1 ∧ m = k ∧ Env.has [(0, .pointer (some ⟨p, 0, none⟩)), (3, .int .i64 n), (4, .int .u64 ((valL ((l.take (n + 1)).drop k) % 18446744073709551616 : Nat))), (5, .int .i64 ((k : Int) - 1))] e ∧ H_ = H) (n + 1) ?_ ?_
         ·skip
          refine ⟨n + 1, by omega, rfl, ⟨rfl, rfl, ?_, ?_, trivial⟩, rfl⟩
          ·show some (Value.int _ _) = some (Value.int _ _)
           rw [List.drop_eq_nil_of_le (by simp; omega)]; rfl
          ·show some (Value.int _ _) = some (Value.int _ _)
           congr 2; omega
         intro m_ e_ H_ hI_
         obtain ⟨k, hk, hmk, he, hH_⟩ := hI_
         have hH_ := hH_.symm; subst hH_
         refine CW_env he.sub ?_; clear he e_
         refine zac (fun K13 hK13 => ?_)
         refine zac (fun K14 hK14 => ?_)
         refine zaa ?_
         refine zah rfl ?_
         refine zab (fun K hK r => ?_)
         refine yav ?_
         refine hK _ _ ?_; clear hK K
         refine zad ?_
         refine yab ?_
         refine hK14 _ _ ?_; try clear hK14 K14
         refine zar (fun r => rfl) (fun c51 => ?_) (fun c51 => ?_)
         ·first
          |(exfalso; exact cnA c51; done)
          |skip
           (try replace c51 := yad c51)
           obtain ⟨i, rfl⟩ : ∃ i, k = i + 1 := ⟨k - 1, by omega⟩
           have ei : (((i + 1 : Nat) : Int) - 1) = i := by omega
           simp only [ei] at c51 ⊢
           have hiB := hB.at i
           have hgi : l.getD i 0 = (l.take (n + 1)).getD i 0 := by rw [List.getD_eq_getElem?_getD, List.getD_eq_getElem?_getD, List.getElem?_take_of_lt (by omega)]
           refine zau ?_
           refine yab ?_
           refine hK13 _ _ ?_; try clear hK13 K13
           refine zac (fun K15 hK15 => ?_)
           refine zaB ?_
           refine zaa ?_
           refine zah rfl ?_
           refine zab (fun K hK r => ?_)
           refine yaQ ?_
           refine hK _ _ ?_; clear hK K
           refine zah rfl ?_
           refine zab (fun K hK r => ?_)
           rw [zav _ _ rfl]
           refine yaj ?_
           refine hK _ _ ?_; clear hK K
           refine zab (fun K hK r => ?_)
           refine ybZ ?_
           refine hK _ _ ?_; clear hK K
           refine zab (fun K hK r => ?_)
           refine yap ?_
           refine zae Try.underlying80 rfl hbA ldA ?_
           refine yaf ?_
           refine hK _ _ ?_; clear hK K
           refine zah rfl ?_
           refine zab (fun K hK r => ?_)
           refine yaw ?_
           refine Lt_indexS Try.underlying80 sz5 ixA ixA ?_
           refine yax ?_
           refine yaf ?_
           refine hK _ _ ?_; clear hK K
           refine zab (fun K hK r => ?_)
           refine yap ?_
           refine zae Try.underlying5 rfl hbA (v := .int .u8 (l.getD i 0)) (by first | exact ints_at atI rfl _ (by omega) | (simp only [Int.toNat_natCast, Nat.mul_one]; exact ints_at atI rfl _ (by omega))) ?_
           refine hK _ _ ?_; clear hK K
           refine zab (fun K hK r => ?_)
           refine ybP ?_
           rw [Int.tmod_eq_emod_of_nonneg (by omega)]
           refine hK _ _ ?_; clear hK K
           refine zab (fun K hK r => ?_)
           refine ybr ?_
           refine hK _ _ ?_; clear hK K
           refine zab (fun K hK r => ?_)
           refine yaq ?_
           rw [acc_wrap _ _ hiB.1]
           refine hK _ _ ?_; clear hK K
           refine zaj rfl ?_
           refine zad ?_
           refine yab ?_
           refine hK15 _ _ ?_; try clear hK15 K15
           refine zaa ?_
           refine zah rfl ?_
           refine zab (fun K hK r => ?_)
           refine yaG ?_
           refine hK _ _ ?_; clear hK K
           refine zaj rfl ?_
           refine zad ?_
           refine yab ?_
           refine ⟨i, by omega, i, by omega, rfl, ⟨rfl, rfl, ?_, rfl, trivial⟩, rfA⟩
           show some (Value.int _ _) = some (Value.int _ _)
           have hvd := valL_drop (l := l.take (n + 1)) (i := i) (by simp; omega)
           rw [hvd, ← hgi]
         ·first
          |(exfalso; exact cnA c51; done)
          |skip
           (try replace c51 := yad c51)
           obtain rfl : k = 0 := by omega
           simp only [List.drop_zero]
           refine CW_exit ?_
           refine yab ?_
           refine hK11 _ _ ?_; try clear hK11 K11
           refine zac (fun K16 hK16 => ?_)
           refine zac (fun K17 hK17 => ?_)
           refine zaa ?_
           refine zah rfl ?_
           refine zab (fun K hK r => ?_)
           refine ycb ?_
           have hu64 : valL (l.take (n + 1)) % 18446744073709551616 < 18446744073709551616 := Nat.mod_lt _ (by decide)
           refine (rfCount_ok _ _ hu64).mono ?_
           rintro v67 H67 ⟨hl67, rs67, ho67, hr67⟩
           have k67_p := hl67 p _ hp
           have lH67_H0 : Le H0 H67 := Le.trans hle hl67
           have hx67 := ho67.holds
           refine yaf ?_
           refine hK _ _ ?_; clear hK K
           refine zaj rfl ?_
           refine zad ?_
           refine yab ?_
           refine hK17 _ _ ?_; try clear hK17 K17
           refine zac (fun K18 hK18 => ?_)
           refine CW_drawE [0, 1, 0, 0, 0, 1, 0, 0, 0, 1, 0] [0, 1, 2, 3, 4, 5, 6, 7, 8, 9, 10] (by kernel_rfl) (by kernel_rfl) (fun R13 hR13 => ?_)
           apply zat rfl (zai (by decide)) rfl
           ·intro r
            refine yaI ?_
            exact ⟨rfl, Le.refl _⟩
           refine yaj ?_
           apply zaO rfl (zai (by decide)) rfl
           ·intro r
            simp only [x_convert, eX, ↓reduceIte, Nat.reduceEqDiff]
            refine Lt_convBS Try.underlying80 Try.underlying5 Try.underlying9 (by rw [hR13]; exact hx67) ?_
            exact ⟨rfl, Le.refl _⟩
           refine yaj ?_
           apply zat rfl (zai (by decide)) rfl
           ·intro r
            refine yaI ?_
            exact ⟨rfl, Le.refl _⟩
           refine yaj ?_
           apply zat rfl (zai (by decide)) rfl
           ·intro r
            rw [zav _ _ rfl]
            exact ⟨rfl, Le.refl _⟩
           refine yaj ?_
           apply zat rfl (zai (by decide)) rfl
           ·intro r
            simp only [zao, fa107_0, zaH, Nat.reduceAdd, Nat.zero_add, eX, ↓reduceIte, Nat.reduceEqDiff]
            exact ⟨rfl, Le.refl _⟩
           refine yaj ?_
           apply zaO rfl (zai (by decide)) rfl
           ·intro r
            refine yba ?_
            refine zae Try.underlying80 rfl hbA ldA ?_
            exact ⟨rfl, Le.refl _⟩
           refine yaj ?_
           apply zat rfl (zai (by decide)) rfl
           ·intro r
            refine yaI ?_
            exact ⟨rfl, Le.refl _⟩
           refine yaj ?_
           apply zat rfl (zai (by decide)) rfl
           ·intro r
            refine yaJ ?_
            exact ⟨rfl, Le.refl _⟩
           refine yaj ?_
           apply zat rfl (zai (by decide)) rfl
           ·intro r
            refine ybb ?_
            refine Lt_sliceS Try.underlying80 sz5 bound_none (bound_some ixA) bound_none bxA bxA bxA (by simp) ?_
            refine yaN ?_
            exact ⟨rfl, Le.refl _⟩
           refine yaj ?_
           apply zaO rfl (zai (by decide)) rfl
           ·intro r
            simp only [x_convert, eX, ↓reduceIte, Nat.reduceEqDiff]
            have e1 : ((n : Int) + 1).toNat = n + 1 := by omega
            have hs76 := Holds.slice (l := 0) (h := n + 1) (m := cap) hh (by omega) (by omega) (by omega)
            rw [cut_take8] at hs76
            simp only [Nat.mul_one] at hs76
            simp only [e1]
            refine Lt_convBS Try.underlying80 Try.underlying5 Try.underlying9 (l := l.take (n + 1)) (by rw [hR13]; exact hs76.le lH67_H0) ?_
            exact ⟨rfl, Le.refl _⟩
           refine yaj ?_
           apply zat rfl (zai (by decide)) rfl
           ·intro r
            simp only [x_bin, g_string, b_sneq, eX, ↓reduceIte, Nat.reduceEqDiff]
            exact ⟨rfl, Le.refl _⟩
           refine yaj ?_
           refine TW_nil ?_
           refine yab ?_
           refine hK18 _ _ ?_; try clear hK18 K18
           refine zar (fun r => rfl) (fun c78 => ?_) (fun c78 => ?_)
           ·first
            |(exfalso; exact cnA c78; done)
            |skip
             rw [Bool.not_eq_true', strOf_beq (cnt_bytes _) (hB.take _)] at c78
             have hun := of_decide_eq_false c78
             refine zac (fun K19 hK19 => ?_)
             refine zaa ?_
             refine zah rfl ?_
             refine zab (fun K hK r => ?_)
             refine yca ?_
             refine (mFail_ok _ p _ _ k67_p).mono ?_
             rintro v80 H80 rfl
             refine yaf ?_
             refine hK _ _ ?_; clear hK K
             refine zad ?_
             refine yab ?_
             refine hK19 _ _ ?_; try clear hK19 K19
             refine zac (fun K20 hK20 => ?_)
             refine zaa ?_
             refine zaj rfl ?_
             refine zad ?_
             refine yab ?_
             refine hK20 _ _ ?_; try clear hK20 K20
             refine zaz ?_
             refine yab ?_
             refine ⟨[_], ⟨rfl, trivial⟩, _, Le.refl _, none, ⟨(fun hb => by cases hb), fun _ => RC_unlike hnl hbg hc128 hun⟩, rfl, RM.bad _ _ _, (KeepBut.of_le p hl67).trans (KeepBut.upd _ _ _)⟩
           ·first
            |(exfalso; exact cnA c78; done)
            |skip
             rw [Bool.not_eq_false', strOf_beq (cnt_bytes _) (hB.take _)] at c78
             have heq := of_decide_eq_true c78
             refine zau ?_
             refine yab ?_
             refine hK16 _ _ ?_; try clear hK16 K16
             refine zac (fun K21 hK21 => ?_)
             refine zaa ?_
             refine zah rfl ?_
             refine zah rfl ?_
             refine zab (fun K hK r => ?_)
             rw [zav _ _ rfl]
             refine yaj ?_
             refine hK _ _ ?_; clear hK K
             refine zab (fun K hK r => ?_)
             refine ybZ ?_
             refine hK _ _ ?_; clear hK K
             refine zab (fun K hK r => ?_)
             refine yap ?_
             refine zae Try.underlying80 rfl hbA ldA ?_
             refine yaf ?_
             refine hK _ _ ?_; clear hK K
             refine zah rfl ?_
             refine zab (fun K hK r => ?_)
             refine yaq ?_
             refine hK _ _ ?_; clear hK K
             refine zab (fun K hK r => ?_)
             refine yaM ?_
             refine Lt_sliceS Try.underlying80 sz5 bound_none bound_none (bound_some ixA) bxA bxA bxA (by simp) ?_
             refine yaN ?_
             have e1 : ((n : Int) + 1).toNat = n + 1 := by omega
             simp only [e1]
             refine yaf ?_
             refine hK _ _ ?_; clear hK K
             refine zab (fun K hK r => ?_)
             rw [zav _ _ rfl]
             refine yaj ?_
             refine hK _ _ ?_; clear hK K
             refine zab (fun K hK r => ?_)
             refine ybZ ?_
             refine hK _ _ ?_; clear hK K
             refine zaI rfl (zas) (fun K hK r => ?_)
             refine yaD ?_
             refine zaE sz80 hbA bdA plA fzA ?_
             refine yaE ?_
             refine yaf ?_
             refine hK _ _ ?_; clear hK K
             refine zad ?_
             refine yab ?_
             refine hK21 _ _ ?_; try clear hK21 K21
             refine zac (fun K22 hK22 => ?_)
             refine zaa ?_
             refine zah rfl ?_
             refine zaj rfl ?_
             refine zad ?_
             refine yab ?_
             refine hK22 _ _ ?_; try clear hK22 K22
             refine zaz ?_
             refine yab ?_
             refine ⟨[_], ⟨rfl, trivial⟩, _, Le.refl _, some (_, l.drop (n + 1)), ⟨(fun hb => by cases hb), fun _ => RC_same hnl hu64 heq⟩, rfl, RM.of (l' := l.drop (n + 1)) (zan _ _ _) (by simp) (by omega) (hold_drop hh (by omega) hcap), (KeepBut.of_le p hl67).trans (KeepBut.upd _ _ _)⟩
end Go.Proofs.Ytigofhhonnbkmaa.HL
end
section
namespace Go.Proofs.Ytigofhhonnbkmaa.HL
open Go Go.Proofs
set_option linter.unusedSimpArgs false
set_option linter.unusedVariables false
attribute [local irreducible] Lt Lq CW OW TW CallH
def byV (l : List Int) : Int := l.getD 0 0
def byL (l : List Int) : List Int := l.drop 1
def byB (l : List Int) : Bool := decide (l = [])
def flV (l : List Int) : Bool := decide (l.getD 0 0 = 1)
def flL (l : List Int) : List Int := if l.getD 0 0 > 1 then [] else l.drop 1
def flB (l : List Int) : Bool := decide (l = []) || decide (l.getD 0 0 > 1)
def bsV (r : Option (Nat × List Int)) : List Int := match r with | some (u, l) => if u ≤ l.length then l.take u else [] | none => []
def bsL (r : Option (Nat × List Int)) : List Int := match r with | some (u, l) => if u ≤ l.length then l.drop u else [] | none => []
def bsB (r : Option (Nat × List Int)) : Bool := match r with | some (u, l) => !decide (u ≤ l.length) | none => true
set_option maxRecDepth 100000 in
set_option maxHeartbeats 1000000 in
theorem mByte_ok (H0 H : Hp) (p : Nat) (l : List Int) (bad : Bool) (hr : RM H0 H p l bad) (hle : Le H0 H) (hp0 : H0 p = none) (hB : ByteL l) (hl : l.length ≤ 100000) : CallH Try.prog 50 #[.pointer (some ⟨p, 0, none⟩)] H (fun v H' => v = .int .u8 (byV l) ∧ RM H0 H' p (byL l) (byB l) ∧ KeepBut H p H') := by
 refine zam (l := [_]) (rl := [.tmp 2]) (n := 33) Try.func50 rfl rfl rfl rfl rfl ?_
 refine yaa ?_
 obtain ⟨a, cap, hp, hcap, hh, hbad⟩ := hr
 refine zac (fun K1 hK1 => ?_)
 refine zaa ?_
 refine zaj rfl ?_
 refine zad ?_
 refine yab ?_
 refine hK1 _ _ ?_; try clear hK1 K1
 refine zac (fun K2 hK2 => ?_)
 refine zac (fun K3 hK3 => ?_)
 refine zaa ?_
 refine zah rfl ?_
 refine zab (fun K hK r => ?_)
 rw [zav _ _ rfl]
 refine yaj ?_
 refine hK _ _ ?_; clear hK K
 refine zab (fun K hK r => ?_)
 refine ybY ?_
 refine hK _ _ ?_; clear hK K
 refine zab (fun K hK r => ?_)
 refine yap ?_
 refine zae Try.underlying4 rfl hbA ldA ?_
 refine yaf ?_
 refine hK _ _ ?_; clear hK K
 refine zah rfl ?_
 (first | refine zaA (d := 8) rfl (fun g8 => ?_) (fun g8 => ?_) | skip)
 all_goals try (exfalso; exact cnA g8)
 all_goals (try replace g8 := yad g8)
 all_goals
  refine yaf ?_
  first
  |refine yGT (fun K hK r => ?_)
   refine yai ?_
   refine hK _ _ ?_; clear hK K
  |refine yGF ?_
   refine yaj ?_
  first
  |refine yGT (fun K hK r => ?_)
   rw [zav _ _ rfl]
   refine yaj ?_
   refine hK _ _ ?_; clear hK K
  |refine yGF ?_
   refine yaj ?_
  first
  |refine yGT (fun K hK r => ?_)
   refine ybZ ?_
   refine hK _ _ ?_; clear hK K
  |refine yGF ?_
   refine yaj ?_
  first
  |refine yGT (fun K hK r => ?_)
   refine yap ?_
   refine zae Try.underlying80 rfl hbA ldA ?_
   refine yaf ?_
   refine hK _ _ ?_; clear hK K
  |refine yGF ?_
   refine yaj ?_
  first
  |refine yGT (fun K hK r => ?_)
   refine yaO ?_
   refine hK _ _ ?_; clear hK K
  |refine yGF ?_
   refine yaj ?_
  first
  |refine yGT (fun K hK r => ?_)
   refine yas ?_
   refine hK _ _ ?_; clear hK K
  |refine yGF ?_
   refine yaj ?_
  refine zab (fun K hK r => ?_)
  refine yal ?_
  refine hK _ _ ?_; clear hK K
  refine zad ?_
  refine yab ?_
  refine hK3 _ _ ?_; try clear hK3 K3
  refine zar (fun r => rfl) (fun c15 => ?_) (fun c15 => ?_)
  ·first
   |(exfalso; exact cnA c15; done)
   |skip
    have hl0 : l = [] := by first | (exact hbad (by assumption)) | (exact List.eq_nil_of_length_eq_zero (by first | omega | (simp_all; done) | (simp_all; omega)))
    subst hl0
    refine zac (fun K4 hK4 => ?_)
    refine zaa ?_
    refine zah rfl ?_
    refine zab (fun K hK r => ?_)
    refine yca ?_
    refine (mFail_ok _ p _ _ hp).mono ?_
    rintro v17 H17 rfl
    refine yaf ?_
    refine hK _ _ ?_; clear hK K
    refine zad ?_
    refine yab ?_
    refine hK4 _ _ ?_; try clear hK4 K4
    refine zac (fun K5 hK5 => ?_)
    refine zaa ?_
    refine zaj rfl ?_
    refine zad ?_
    refine yab ?_
    refine hK5 _ _ ?_; try clear hK5 K5
    refine zaz ?_
    refine yab ?_
    exact ⟨[_], ⟨rfl, trivial⟩, _, Le.refl _, rfl, RM.bad _ _ _, KeepBut.upd _ _ _⟩
  ·first
   |(exfalso; exact cnA c15; done)
   |skip
    (try replace c15 := yad c15)
    have hb0 : bad = false := by first | assumption | (simp_all; done)
    subst hb0
    have hne : 0 < l.length := by first | omega | (simp_all; done) | (simp_all; omega)
    obtain ⟨c, t, rfl⟩ : ∃ c t, l = c :: t := by
     cases l with
     |nil => simp at hne
     |cons c t => exact ⟨c, t, rfl⟩
    obtain ⟨bI, oI, qI, TI, FI, rfl, hbI, hsI, atI⟩ := hh.at (by simp)
    have hbI_ := hle bI _ hbI
    refine zau ?_
    refine yab ?_
    refine hK2 _ _ ?_; try clear hK2 K2
    refine zac (fun K6 hK6 => ?_)
    refine zaa ?_
    refine zah rfl ?_
    refine zab (fun K hK r => ?_)
    rw [zav _ _ rfl]
    refine yaj ?_
    refine hK _ _ ?_; clear hK K
    refine zab (fun K hK r => ?_)
    refine ybZ ?_
    refine hK _ _ ?_; clear hK K
    refine zab (fun K hK r => ?_)
    refine yap ?_
    refine zae Try.underlying80 rfl hbA ldA ?_
    refine yaf ?_
    refine hK _ _ ?_; clear hK K
    refine zab (fun K hK r => ?_)
    refine yaw ?_
    refine Lt_indexS Try.underlying80 sz5 ixA ixA ?_
    refine yax ?_
    refine yaf ?_
    refine hK _ _ ?_; clear hK K
    refine zab (fun K hK r => ?_)
    refine yap ?_
    refine zae Try.underlying5 rfl hbA (v := .int .u8 c) (by have := atI 0 (by simp); simpa using this) ?_
    refine hK _ _ ?_; clear hK K
    refine zaj rfl ?_
    refine zad ?_
    refine yab ?_
    refine hK6 _ _ ?_; try clear hK6 K6
    refine zac (fun K7 hK7 => ?_)
    refine zaa ?_
    refine zah rfl ?_
    refine zah rfl ?_
    refine zab (fun K hK r => ?_)
    rw [zav _ _ rfl]
    refine yaj ?_
    refine hK _ _ ?_; clear hK K
    refine zab (fun K hK r => ?_)
    refine ybZ ?_
    refine hK _ _ ?_; clear hK K
    refine zab (fun K hK r => ?_)
    refine yap ?_
    refine zae Try.underlying80 rfl hbA ldA ?_
    refine yaf ?_
    refine hK _ _ ?_; clear hK K
    refine zab (fun K hK r => ?_)
    refine yaM ?_
    refine Lt_sliceS Try.underlying80 sz5 bound_none bound_none (bound_some ixA) bxA bxA bxA (by simp) ?_
    refine yaN ?_
    refine yaf ?_
    refine hK _ _ ?_; clear hK K
    refine zab (fun K hK r => ?_)
    rw [zav _ _ rfl]
    refine yaj ?_
    refine hK _ _ ?_; clear hK K
    refine zab (fun K hK r => ?_)
    refine ybZ ?_
    refine hK _ _ ?_; clear hK K
    refine zaI rfl (zas) (fun K hK r => ?_)
    refine yaD ?_
    refine zaE sz80 hbA bdA plA fzA ?_
    refine yaE ?_
    refine yaf ?_
    refine hK _ _ ?_; clear hK K
    refine zad ?_
    refine yab ?_
    refine hK7 _ _ ?_; try clear hK7 K7
    refine zac (fun K8 hK8 => ?_)
    refine zaa ?_
    refine zah rfl ?_
    refine zaj rfl ?_
    refine zad ?_
    refine yab ?_
    refine hK8 _ _ ?_; try clear hK8 K8
    refine zaz ?_
    refine yab ?_
    have hd := hold_drop (n := 1) hh (by simp) hcap
    refine ⟨[_], ⟨rfl, trivial⟩, _, Le.refl _, rfl, RM.of (l' := t) (zan _ _ _) (by simp) (by have hq := hcap; simp only [List.length_cons] at hq ⊢; omega) (by simpa using hd), KeepBut.upd _ _ _⟩
set_option maxRecDepth 100000 in
set_option maxHeartbeats 1000000 in
theorem mDone_ok (H0 H : Hp) (p : Nat) (l : List Int) (bad : Bool) (hr : RM H0 H p l bad) : CallH Try.prog 51 #[.pointer (some ⟨p, 0, none⟩)] H (fun v H' => v = .bool (!bad && decide (l = [])) ∧ H' = H) := by
 refine zam (l := [_]) (rl := [.tmp 2]) (n := 16) Try.func51 rfl rfl rfl rfl rfl ?_
 refine yaa ?_
 obtain ⟨a, cap, hp, hcap, hh, hbad⟩ := hr
 refine zac (fun K1 hK1 => ?_)
 refine zaa ?_
 refine zaj rfl ?_
 refine zad ?_
 refine yab ?_
 refine hK1 _ _ ?_; try clear hK1 K1
 refine zac (fun K2 hK2 => ?_)
 refine zaa ?_
 refine zah rfl ?_
 refine zab (fun K hK r => ?_)
 rw [zav _ _ rfl]
 refine yaj ?_
 refine hK _ _ ?_; clear hK K
 refine zab (fun K hK r => ?_)
 refine ybY ?_
 refine hK _ _ ?_; clear hK K
 refine zab (fun K hK r => ?_)
 refine yap ?_
 refine zae Try.underlying4 rfl hbA ldA ?_
 refine yaf ?_
 refine hK _ _ ?_; clear hK K
 refine zab (fun K hK r => ?_)
 refine yam ?_
 refine hK _ _ ?_; clear hK K
 refine zah rfl ?_
 (first | refine zaA (d := 8) rfl (fun g8 => ?_) (fun g8 => ?_) | skip)
 all_goals try (exfalso; exact cnA g8)
 all_goals (try replace g8 := yad g8)
 all_goals
  refine yaf ?_
  first
  |refine yGT (fun K hK r => ?_)
   refine yai ?_
   refine hK _ _ ?_; clear hK K
  |refine yGF ?_
   refine yaj ?_
  first
  |refine yGT (fun K hK r => ?_)
   rw [zav _ _ rfl]
   refine yaj ?_
   refine hK _ _ ?_; clear hK K
  |refine yGF ?_
   refine yaj ?_
  first
  |refine yGT (fun K hK r => ?_)
   refine ybZ ?_
   refine hK _ _ ?_; clear hK K
  |refine yGF ?_
   refine yaj ?_
  first
  |refine yGT (fun K hK r => ?_)
   refine yap ?_
   refine zae Try.underlying80 rfl hbA ldA ?_
   refine yaf ?_
   refine hK _ _ ?_; clear hK K
  |refine yGF ?_
   refine yaj ?_
  first
  |refine yGT (fun K hK r => ?_)
   refine yaO ?_
   refine hK _ _ ?_; clear hK K
  |refine yGF ?_
   refine yaj ?_
  first
  |refine yGT (fun K hK r => ?_)
   refine yas ?_
   refine hK _ _ ?_; clear hK K
  |refine yGF ?_
   refine yaj ?_
  refine zab (fun K hK r => ?_)
  refine yal ?_
  refine hK _ _ ?_; clear hK K
  refine zaj rfl ?_
  refine zad ?_
  refine yab ?_
  refine hK2 _ _ ?_; try clear hK2 K2
  refine zaz ?_
  refine yab ?_
  refine ⟨[_], ⟨rfl, trivial⟩, _, Le.refl _, ?_, rfl⟩
  show Value.bool _ = _
  refine congrArg Value.bool ?_
  have hz : decide (l = []) = decide ((l.length : Int) = 0) := by
   cases l with
   |nil => rfl
   |cons x t => simp; omega
  cases bad <;> simp_all
end Go.Proofs.Ytigofhhonnbkmaa.HL
end
section
namespace Go.Proofs.Ytigofhhonnbkmaa.HL
open Go Go.Proofs
set_option linter.unusedSimpArgs false
set_option linter.unusedVariables false
attribute [local irreducible] Lt Lq CW OW TW CallH
theorem ycc {p q : Prop} (h : q) (e : p = q := by simp only [zao, fa102_0, zaH, Nat.reduceAdd, Nat.zero_add, eX, ↓reduceIte, Nat.reduceEqDiff, Int.reduceToNat]; exact rfl) : p := e.mpr h
theorem ycd {p q : Prop} (h : q) (e : p = q := by simp only [zao, fa102_1, zaH, Nat.reduceAdd, Nat.zero_add, eX, ↓reduceIte, Nat.reduceEqDiff, Int.reduceToNat]; exact rfl) : p := e.mpr h
theorem yce {p q : Prop} (h : q) (e : p = q := by simp only [zao, fa102_2, zaH, Nat.reduceAdd, Nat.zero_add, eX, ↓reduceIte, Nat.reduceEqDiff, Int.reduceToNat]; exact rfl) : p := e.mpr h
theorem ycf {p q : Prop} (h : q) (e : p = q := by simp (disch := (first | omega | decide)) only [x_convert, c_int _ _ _ _ Try.underlying3 Try.underlying5, wrap_i64, wrap_u64, wrap_u32, wrap_u8, eX, ↓reduceIte, Nat.reduceEqDiff, Int.reduceToNat]; exact rfl) : p := e.mpr h
set_option maxRecDepth 100000 in
set_option maxHeartbeats 1000000 in
theorem rSeal_ok (H : Hp) (st kd : Int) (data : Value) (l : List Int) (hd : Holds H 1 data l.length (u8s l)) :
  CallH Try.prog 47 #[.agg #[.int .i64 st, .int .i64 kd, data]] H (fun v H' => v = .tuple #[.agg (u8s (sealI st kd l)).toArray, .int .i64 ((badI st kd l).getD 0)] ∧ H' = H) := by
 refine zam (l := [_]) (rl := [.cell 2 30, .tmp 3]) (n := 77) Try.func47 rfl rfl rfl rfl rfl ?_
 refine yaa ?_
 obtain ⟨a, cap, rfl⟩ := hd.form
 refine zac (fun K1 hK1 => ?_)
 refine zaa ?_
 refine zab (fun K hK r => ?_)
 refine yaW ?_
 intro b1 hb1
 have f1_H : H b1 = none := zag lhA hb1
 refine yaf ?_
 refine hK _ _ ?_; clear hK K
 refine zab (fun K hK r => ?_)
 refine yaX ?_
 intro b2 hb2
 try have n2_b1 : b1 ≠ b2 := zaf hbA hb2
 have f2_H : H b2 = none := zag lhA hb2
 refine yaf ?_
 refine hK _ _ ?_; clear hK K
 refine zaj rfl ?_
 refine zad ?_
 refine yab ?_
 refine hK1 _ _ ?_; try clear hK1 K1
 refine zac (fun K2 hK2 => ?_)
 refine zaa ?_
 refine zab (fun K hK r => ?_)
 refine ybB ?_
 rw [l_buildArr Try.underlying30 sz5 zr30]
 simp only [Value.cells]
 refine ybe ?_
 refine yaf ?_
 refine hK _ _ ?_; clear hK K
 refine zab (fun K hK r => ?_)
 refine yaX ?_
 intro b4 hb4
 try have n4_b1 : b1 ≠ b4 := zaf hbA hb4
 try have n4_b2 : b2 ≠ b4 := zaf hbA hb4
 have f4_H : H b4 = none := zag lhA hb4
 refine yaf ?_
 refine hK _ _ ?_; clear hK K
 refine zaI rfl (zas) (fun K hK r => ?_)
 refine yaD ?_
 first | refine zak sz30 bdA hbA bdA plA (by decide) ?_ | refine zal sz30 bdA hbA bdA plA (by decide) ?_
 refine yaf ?_
 refine hK _ _ ?_; clear hK K
 refine zad ?_
 refine yab ?_
 refine hK2 _ _ ?_; try clear hK2 K2
 refine zac (fun K3 hK3 => ?_)
 refine zac (fun K4 hK4 => ?_)
 refine zaa ?_
 refine zab (fun K hK r => ?_)
 refine ycc ?_
 refine hK _ _ ?_; clear hK K
 refine zab (fun K hK r => ?_)
 refine yap ?_
 refine zae Try.underlying3 rfl hbA ldA ?_
 refine yaf ?_
 refine hK _ _ ?_; clear hK K
 refine zab (fun K hK r => ?_)
 refine yac ?_
 refine hK _ _ ?_; clear hK K
 refine zah rfl ?_
 (first | refine zaA (d := 12) rfl (fun g12 => ?_) (fun g12 => ?_) | skip)
 all_goals try (exfalso; exact cnA g12)
 all_goals (try replace g12 := yad g12)
 all_goals
  refine yaf ?_
  first
  |refine yGT (fun K hK r => ?_)
   refine ycc ?_
   refine hK _ _ ?_; clear hK K
  |refine yGF ?_
   refine yaj ?_
  first
  |refine yGT (fun K hK r => ?_)
   refine yap ?_
   refine zae Try.underlying3 rfl hbA ldA ?_
   refine yaf ?_
   refine hK _ _ ?_; clear hK K
  |refine yGF ?_
   refine yaj ?_
  first
  |refine yGT (fun K hK r => ?_)
   refine yaZ ?_
   refine hK _ _ ?_; clear hK K
  |refine yGF ?_
   refine yaj ?_
  refine zab (fun K hK r => ?_)
  refine yal ?_
  refine hK _ _ ?_; clear hK K
  refine zah rfl ?_
  (first | refine zaA (d := 17) rfl (fun g17 => ?_) (fun g17 => ?_) | skip)
  all_goals try (exfalso; exact cnA g17)
  all_goals (try replace g17 := yad g17)
  all_goals
   refine yaf ?_
   first
   |refine yGT (fun K hK r => ?_)
    refine ycd ?_
    refine hK _ _ ?_; clear hK K
   |refine yGF ?_
    refine yaj ?_
   first
   |refine yGT (fun K hK r => ?_)
    refine yap ?_
    refine zae Try.underlying3 rfl hbA ldA ?_
    refine yaf ?_
    refine hK _ _ ?_; clear hK K
   |refine yGF ?_
    refine yaj ?_
   first
   |refine yGT (fun K hK r => ?_)
    refine yac ?_
    refine hK _ _ ?_; clear hK K
   |refine yGF ?_
    refine yaj ?_
   refine zab (fun K hK r => ?_)
   refine yal ?_
   refine hK _ _ ?_; clear hK K
   refine zah rfl ?_
   (first | refine zaA (d := 22) rfl (fun g22 => ?_) (fun g22 => ?_) | skip)
   all_goals try (exfalso; exact cnA g22)
   all_goals (try replace g22 := yad g22)
   all_goals
    refine yaf ?_
    first
    |refine yGT (fun K hK r => ?_)
     refine ycd ?_
     refine hK _ _ ?_; clear hK K
    |refine yGF ?_
     refine yaj ?_
    first
    |refine yGT (fun K hK r => ?_)
     refine yap ?_
     refine zae Try.underlying3 rfl hbA ldA ?_
     refine yaf ?_
     refine hK _ _ ?_; clear hK K
    |refine yGF ?_
     refine yaj ?_
    first
    |refine yGT (fun K hK r => ?_)
     refine yaZ ?_
     refine hK _ _ ?_; clear hK K
    |refine yGF ?_
     refine yaj ?_
    refine zab (fun K hK r => ?_)
    refine yal ?_
    refine hK _ _ ?_; clear hK K
    refine zad ?_
    refine yab ?_
    refine hK4 _ _ ?_; try clear hK4 K4
    refine zar (fun r => rfl) (fun c26 => ?_) (fun c26 => ?_)
    ·first
     |(exfalso; exact cnA c26; done)
     |skip
      (try replace c26 := yad c26)
      refine zac (fun K5 hK5 => ?_)
      refine zaa ?_
      refine zab (fun K hK r => ?_)
      refine yap ?_
      first | refine zax Try.underlying30 rfl sz30 hbA bdA ?_ | refine zaq Try.underlying30 rfl sz30 hbA bdA ?_
      refine yaf ?_
      refine hK _ _ ?_; clear hK K
      refine zaI rfl (zas) (fun K hK r => ?_)
      refine yaD ?_
      first | refine zak sz30 bdA hbA bdA plA (by decide) ?_ | refine zal sz30 bdA hbA bdA plA (by decide) ?_
      refine yaf ?_
      refine hK _ _ ?_; clear hK K
      refine zaj rfl ?_
      refine zad ?_
      refine yab ?_
      refine hK5 _ _ ?_; try clear hK5 K5
      refine zaz ?_
      refine yab ?_
      have hb : badI st kd l = some 1 := by simp only [badI]; rw [if_pos (by omega)]
      refine ⟨[_, _], ⟨⟨_, rfl, zaC Try.underlying30 rfl sz30 hbA bdA⟩, rfl, trivial⟩, H, lhA, ?_, rfl⟩
      show Value.tuple #[_, _] = _
      rw [sealI, hb]; simp only [zero_cells]; rfl
    ·first
     |(exfalso; exact cnA c26; done)
     |skip
      (try replace c26 := yad c26)
      refine zau ?_
      refine yab ?_
      refine hK3 _ _ ?_; try clear hK3 K3
      refine zac (fun K6 hK6 => ?_)
      refine zac (fun K7 hK7 => ?_)
      refine zaa ?_
      refine zab (fun K hK r => ?_)
      refine yce ?_
      refine hK _ _ ?_; clear hK K
      refine zab (fun K hK r => ?_)
      refine yap ?_
      refine zae Try.underlying80 rfl hbA ldA ?_
      refine yaf ?_
      refine hK _ _ ?_; clear hK K
      refine zab (fun K hK r => ?_)
      refine yaO ?_
      refine hK _ _ ?_; clear hK K
      refine zab (fun K hK r => ?_)
      refine yaZ ?_
      refine hK _ _ ?_; clear hK K
      refine zad ?_
      refine yab ?_
      refine hK7 _ _ ?_; try clear hK7 K7
      refine zar (fun r => rfl) (fun c31 => ?_) (fun c31 => ?_)
      ·first
       |(exfalso; exact cnA c31; done)
       |skip
        (try replace c31 := yad c31)
        refine zac (fun K8 hK8 => ?_)
        refine zaa ?_
        refine zab (fun K hK r => ?_)
        refine yap ?_
        first | refine zax Try.underlying30 rfl sz30 hbA bdA ?_ | refine zaq Try.underlying30 rfl sz30 hbA bdA ?_
        refine yaf ?_
        refine hK _ _ ?_; clear hK K
        refine zaI rfl (zas) (fun K hK r => ?_)
        refine yaD ?_
        first | refine zak sz30 bdA hbA bdA plA (by decide) ?_ | refine zal sz30 bdA hbA bdA plA (by decide) ?_
        refine yaf ?_
        refine hK _ _ ?_; clear hK K
        refine zaj rfl ?_
        refine zad ?_
        refine yab ?_
        refine hK8 _ _ ?_; try clear hK8 K8
        refine zaz ?_
        refine yab ?_
        have hb : badI st kd l = some 2 := by simp only [badI]; rw [if_neg (by omega), if_pos (by omega)]
        refine ⟨[_, _], ⟨⟨_, rfl, zaC Try.underlying30 rfl sz30 hbA bdA⟩, rfl, trivial⟩, H, lhA, ?_, rfl⟩
        show Value.tuple #[_, _] = _
        rw [sealI, hb]; simp only [zero_cells]; rfl
      ·first
       |(exfalso; exact cnA c31; done)
       |skip
        (try replace c31 := yad c31)
        refine zau ?_
        refine yab ?_
        refine hK6 _ _ ?_; try clear hK6 K6
        refine zac (fun K9 hK9 => ?_)
        refine zaa ?_
        refine zab (fun K hK r => ?_)
        refine ycc ?_
        refine hK _ _ ?_; clear hK K
        refine zab (fun K hK r => ?_)
        refine yap ?_
        refine zae Try.underlying3 rfl hbA ldA ?_
        refine yaf ?_
        refine hK _ _ ?_; clear hK K
        refine zaj rfl ?_
        refine zad ?_
        refine yab ?_
        refine hK9 _ _ ?_; try clear hK9 K9
        refine zac (fun K10 hK10 => ?_)
        refine zac (fun K11 hK11 => ?_)
        refine zaa ?_
        refine zaj rfl ?_
        refine zad ?_
        refine yab ?_
        refine hK11 _ _ ?_; try clear hK11 K11
        refine zaB ?_
        refine CW_loop (fun m e H_ => ∃ k : Nat, k ≤ 6 ∧ m = 6 - k ∧ Env.has [(1, .pointer (some ⟨b1, 0, none⟩)), (2, .pointer (some ⟨b2, 0, none⟩)), (4, .pointer (some ⟨b4, 0, none⟩)), (5, .int .i64 (dvK k st)), (6, .int .i64 k)] e ∧ H_ = ((H.upd b1 (.cells #[.int .i64 st, .int .i64 kd, .slice a l.length cap] 102)).upd b2 (.cells (Array.replicate 64 (.int .u8 0)) 30)).upd b4 (.cells (u8s (refS st k)).toArray 30)) (6) ?_ ?_
        ·skip
         exact ⟨0, by omega, rfl, ⟨rfl, rfl, rfl, rfl, rfl, trivial⟩, rfl⟩
        intro m_ e_ H_ hI_
        obtain ⟨k, hk6, rfl, he, rfl⟩ := hI_
        refine CW_env he.sub ?_; clear he e_
        have hr := dvK_range k st (by omega) (by omega)
        have hsz := refS_size st k hk6
        have e1 : (dvK k st).tmod 256 = dvK k st % 256 := Int.tmod_eq_emod_of_nonneg hr.1
        have e2 : (dvK k st).tdiv 256 = dvK k st / 256 := Int.tdiv_eq_ediv_of_nonneg hr.1
        refine zac (fun K12 hK12 => ?_)
        refine zac (fun K13 hK13 => ?_)
        refine zaa ?_
        refine zah rfl ?_
        refine zab (fun K hK r => ?_)
        refine yac ?_
        refine hK _ _ ?_; clear hK K
        refine zad ?_
        refine yab ?_
        refine hK13 _ _ ?_; try clear hK13 K13
        refine zar (fun r => rfl) (fun c36 => ?_) (fun c36 => ?_)
        ·first
         |(exfalso; exact cnA c36; done)
         |skip
          (try replace c36 := yad c36)
          refine zau ?_
          refine yab ?_
          refine hK12 _ _ ?_; try clear hK12 K12
          refine zac (fun K14 hK14 => ?_)
          refine zaB ?_
          refine zac (fun K15 hK15 => ?_)
          refine zaa ?_
          refine zah rfl ?_
          refine zah rfl ?_
          refine zab (fun K hK r => ?_)
          refine ybP ?_
          refine hK _ _ ?_; clear hK K
          refine zab (fun K hK r => ?_)
          refine ycf ?_
          refine hK _ _ ?_; clear hK K
          refine zab (fun K hK r => ?_)
          refine yaw ?_
          refine Lt_indexA Try.underlying30 sz5 ixA ixA ?_
          refine yax ?_
          refine yaf ?_
          refine hK _ _ ?_; clear hK K
          refine zaI rfl (zas) (fun K hK r => ?_)
          refine yaD ?_
          refine zaE sz5 hbA bdA plA fzA ?_
          refine yaE ?_
          refine yaf ?_
          refine hK _ _ ?_; clear hK K
          refine zad ?_
          refine yab ?_
          refine hK15 _ _ ?_; try clear hK15 K15
          refine zac (fun K16 hK16 => ?_)
          refine zaa ?_
          refine zah rfl ?_
          refine zab (fun K hK r => ?_)
          refine yaq ?_
          refine hK _ _ ?_; clear hK K
          refine zah rfl ?_
          refine zab (fun K hK r => ?_)
          refine ybP ?_
          refine hK _ _ ?_; clear hK K
          refine zab (fun K hK r => ?_)
          refine ycf ?_
          refine hK _ _ ?_; clear hK K
          refine zab (fun K hK r => ?_)
          refine yaw ?_
          refine Lt_indexA Try.underlying30 sz5 ixA ixA ?_
          refine yax ?_
          refine yaf ?_
          refine hK _ _ ?_; clear hK K
          refine zaI rfl (zas) (fun K hK r => ?_)
          refine yaD ?_
          refine zaE sz5 hbA bdA plA fzA ?_
          refine yaE ?_
          refine yaf ?_
          refine hK _ _ ?_; clear hK K
          refine zad ?_
          refine yab ?_
          refine hK16 _ _ ?_; try clear hK16 K16
          refine zaa ?_
          refine zah rfl ?_
          refine zab (fun K hK r => ?_)
          simp (disch := (first | omega | decide)) only [x_bin, g_int, b_quo, wrap_i64, wrap_u64, wrap_u32, wrap_u8, eX, ↓reduceIte, Nat.reduceEqDiff, Int.reduceToNat]
          refine hK _ _ ?_; clear hK K
          refine zaj rfl ?_
          refine zad ?_
          refine yab ?_
          refine hK14 _ _ ?_; try clear hK14 K14
          refine zaa ?_
          refine zah rfl ?_
          refine zab (fun K hK r => ?_)
          refine yaq ?_
          refine hK _ _ ?_; clear hK K
          refine zaj rfl ?_
          refine zad ?_
          refine yab ?_
          refine ⟨6 - (k + 1), by omega, k + 1, by omega, rfl, ⟨rfl, rfl, rfl, ?_, rfl, trivial⟩, ?_⟩
          ·show some (Value.int _ _) = _
           rw [dvK_succ, e2]
          ·have e3 : (58 + (k : Int)).toNat = 58 + k := by omega
           rw [Int.toNat_natCast, e3, e1, u8s_set, u8s_set, refS_step st k (by omega)]
        ·first
         |(exfalso; exact cnA c36; done)
         |skip
          (try replace c36 := yad c36)
          refine CW_exit ?_
          refine yab ?_
          refine hK10 _ _ ?_; try clear hK10 K10
          refine zac (fun K17 hK17 => ?_)
          refine zaa ?_
          refine zab (fun K hK r => ?_)
          refine ycd ?_
          refine hK _ _ ?_; clear hK K
          refine zab (fun K hK r => ?_)
          refine yap ?_
          refine zae Try.underlying3 rfl hbA ldA ?_
          refine yaf ?_
          refine hK _ _ ?_; clear hK K
          refine zab (fun K hK r => ?_)
          refine ycf ?_
          refine hK _ _ ?_; clear hK K
          refine zab (fun K hK r => ?_)
          refine yaw ?_
          refine Lt_indexA Try.underlying30 sz5 ixA ixA ?_
          refine yax ?_
          refine yaf ?_
          refine hK _ _ ?_; clear hK K
          refine zaI rfl (zas) (fun K hK r => ?_)
          refine yaD ?_
          refine zaE sz5 hbA bdA plA fzA ?_
          refine yaE ?_
          refine yaf ?_
          refine hK _ _ ?_; clear hK K
          refine zad ?_
          refine yab ?_
          refine hK17 _ _ ?_; try clear hK17 K17
          refine zac (fun K18 hK18 => ?_)
          refine zaa ?_
          refine zab (fun K hK r => ?_)
          refine yce ?_
          refine hK _ _ ?_; clear hK K
          refine zab (fun K hK r => ?_)
          refine yap ?_
          refine zae Try.underlying80 rfl hbA ldA ?_
          refine yaf ?_
          refine hK _ _ ?_; clear hK K
          refine zab (fun K hK r => ?_)
          refine yaO ?_
          refine hK _ _ ?_; clear hK K
          refine zab (fun K hK r => ?_)
          refine ycf ?_
          refine hK _ _ ?_; clear hK K
          refine zab (fun K hK r => ?_)
          refine yaw ?_
          refine Lt_indexA Try.underlying30 sz5 ixA ixA ?_
          refine yax ?_
          refine yaf ?_
          refine hK _ _ ?_; clear hK K
          refine zaI rfl (zas) (fun K hK r => ?_)
          refine yaD ?_
          refine zaE sz5 hbA bdA plA fzA ?_
          refine yaE ?_
          refine yaf ?_
          refine hK _ _ ?_; clear hK K
          refine zad ?_
          refine yab ?_
          refine hK18 _ _ ?_; try clear hK18 K18
          refine zac (fun K19 hK19 => ?_)
          refine zac (fun K20 hK20 => ?_)
          refine zaa ?_
          refine zaj rfl ?_
          refine zad ?_
          refine yab ?_
          refine hK20 _ _ ?_; try clear hK20 K20
          refine zaB ?_
          refine CW_loop (fun m e H_ => ∃ k : Nat, k ≤ l.length ∧ m = l.length - k ∧ Env.has [(1, .pointer (some ⟨b1, 0, none⟩)), (2, .pointer (some ⟨b2, 0, none⟩)), (4, .pointer (some ⟨b4, 0, none⟩)), (7, .int .i64 k)] e ∧ H_ = ((H.upd b1 (.cells #[.int .i64 st, .int .i64 kd, .slice a l.length cap] 102)).upd b2 (.cells (Array.replicate 64 (.int .u8 0)) 30)).upd b4 (.cells (u8s (refD st kd l k)).toArray 30)) (l.length) ?_ ?_
          ·skip
           obtain rfl : k = 6 := by omega
           exact ⟨0, by omega, rfl, ⟨rfl, rfl, rfl, rfl, trivial⟩, by rw [u8s_set, u8s_set, refD_zero]⟩
          intro m_ e_ H_ hI_
          obtain ⟨k, hk6, rfl, he, rfl⟩ := hI_
          refine CW_env he.sub ?_; clear he e_
          have hsz := refD_size st kd l k (by omega) hk6
          refine zac (fun K21 hK21 => ?_)
          refine zac (fun K22 hK22 => ?_)
          refine zaa ?_
          refine zah rfl ?_
          refine zab (fun K hK r => ?_)
          refine yce ?_
          refine hK _ _ ?_; clear hK K
          refine zab (fun K hK r => ?_)
          refine yap ?_
          refine zae Try.underlying80 rfl hbA ldA ?_
          refine yaf ?_
          refine hK _ _ ?_; clear hK K
          refine zab (fun K hK r => ?_)
          refine yaO ?_
          refine hK _ _ ?_; clear hK K
          refine zab (fun K hK r => ?_)
          refine yac ?_
          refine hK _ _ ?_; clear hK K
          refine zad ?_
          refine yab ?_
          refine hK22 _ _ ?_; try clear hK22 K22
          refine zar (fun r => rfl) (fun c65 => ?_) (fun c65 => ?_)
          ·first
           |(exfalso; exact cnA c65; done)
           |skip
            (try replace c65 := yad c65)
            obtain ⟨b0, o0, c0, T0, f0, rfl, hb0, hs0, hc0⟩ := hd.at (by omega)
            have n0_b1 : b0 ≠ b1 := zaf hb0 f1_H
            have n0_b2 : b0 ≠ b2 := zaf hb0 f2_H
            have n0_b4 : b0 ≠ b4 := zaf hb0 f4_H
            refine zau ?_
            refine yab ?_
            refine hK21 _ _ ?_; try clear hK21 K21
            refine zac (fun K23 hK23 => ?_)
            refine zaB ?_
            refine zaa ?_
            refine zah rfl ?_
            refine zab (fun K hK r => ?_)
            refine yaq ?_
            refine hK _ _ ?_; clear hK K
            refine zab (fun K hK r => ?_)
            refine yce ?_
            refine hK _ _ ?_; clear hK K
            refine zab (fun K hK r => ?_)
            refine yap ?_
            refine zae Try.underlying80 rfl hbA ldA ?_
            refine yaf ?_
            refine hK _ _ ?_; clear hK K
            refine zah rfl ?_
            refine zab (fun K hK r => ?_)
            refine yaw ?_
            refine Lt_indexS Try.underlying80 sz5 ixA ixA ?_
            refine yax ?_
            refine yaf ?_
            refine hK _ _ ?_; clear hK K
            refine zab (fun K hK r => ?_)
            refine yap ?_
            refine zae Try.underlying5 rfl hbA (v := .int .u8 (l.getD k 0)) ?_ ?_
            ·simp only [Int.toNat_natCast, Nat.mul_one]
             rw [hc0 k (by omega), List.getElem?_map, getD_of_lt l k (by omega)]; rfl
            refine hK _ _ ?_; clear hK K
            refine zab (fun K hK r => ?_)
            refine yaw ?_
            refine Lt_indexA Try.underlying30 sz5 ixA ixA ?_
            refine yax ?_
            refine yaf ?_
            refine hK _ _ ?_; clear hK K
            refine zaI rfl (zas) (fun K hK r => ?_)
            refine yaD ?_
            refine zaE sz5 hbA bdA plA fzA ?_
            refine yaE ?_
            refine yaf ?_
            refine hK _ _ ?_; clear hK K
            refine zad ?_
            refine yab ?_
            refine hK23 _ _ ?_; try clear hK23 K23
            refine zaa ?_
            refine zah rfl ?_
            refine zab (fun K hK r => ?_)
            refine yaq ?_
            refine hK _ _ ?_; clear hK K
            refine zaj rfl ?_
            refine zad ?_
            refine yab ?_
            refine ⟨l.length - (k + 1), by omega, k + 1, by omega, rfl, ⟨rfl, rfl, rfl, rfl, trivial⟩, ?_⟩
            have e3 : (8 + (k : Int)).toNat = 8 + k := by omega
            rw [e3, u8s_set, refD_step st kd l k (by omega) (by omega)]
          ·first
           |(exfalso; exact cnA c65; done)
           |skip
            (try replace c65 := yad c65)
            refine CW_exit ?_
            refine yab ?_
            refine hK19 _ _ ?_; try clear hK19 K19
            refine zac (fun K24 hK24 => ?_)
            refine zaa ?_
            refine zab (fun K hK r => ?_)
            refine yap ?_
            first | refine zax Try.underlying30 rfl sz30 hbA bdA ?_ | refine zaq Try.underlying30 rfl sz30 hbA bdA ?_
            refine yaf ?_
            refine hK _ _ ?_; clear hK K
            refine zaI rfl (zas) (fun K hK r => ?_)
            refine yaD ?_
            first | refine zak sz30 bdA hbA bdA plA (by decide) ?_ | refine zal sz30 bdA hbA bdA plA (by decide) ?_
            refine yaf ?_
            refine hK _ _ ?_; clear hK K
            refine zaj rfl ?_
            refine zad ?_
            refine yab ?_
            refine hK24 _ _ ?_; try clear hK24 K24
            refine zaz ?_
            refine yab ?_
            have hb : badI st kd l = none := by simp only [badI]; rw [if_neg (by omega), if_neg (by omega)]
            obtain rfl : k = l.length := by omega
            refine ⟨[_, _], ⟨⟨_, rfl, zaC Try.underlying30 rfl sz30 hbA bdA⟩, rfl, trivial⟩, H, lhA, ?_, rfl⟩
            show Value.tuple #[_, _] = _
            rw [← refD_full st kd l hb, hb]; rfl
end Go.Proofs.Ytigofhhonnbkmaa.HL
end
section
namespace Go.Proofs.Ytigofhhonnbkmaa.HL
open Go Go.Proofs
set_option linter.unusedSimpArgs false
set_option linter.unusedVariables false
attribute [local irreducible] Lt Lq CW OW TW CallH
theorem ycg {p q : Prop} (h : q) (e : p = q := by simp only [x_alloc, zr102, zay, Value.cells, eX, ↓reduceIte, Nat.reduceEqDiff, Int.reduceToNat]; exact rfl) : p := e.mpr h
theorem ych {p q : Prop} (h : q) (e : p = q := by simp only [zao, fa102_0, zaH, Nat.reduceAdd, Nat.zero_add, eX, ↓reduceIte, Nat.reduceEqDiff]; exact rfl) : p := e.mpr h
set_option maxRecDepth 100000 in
set_option maxHeartbeats 1000000 in
theorem rOpen_R (H : Hp) (L : List Int) (hc : L.length = 64) (hB : ByteL L) :
  CallH Try.prog 48 #[.agg (u8s L).toArray] H (fun v H' => ∃ x, SlabR H H' (opD L) x ∧ v = .tuple #[.agg #[.int .i64 (opS L), .int .i64 (opK L), x], .bool (opE L).isNone]) := by
 refine zam (l := [_]) (rl := [.cell 2 102, .tmp 3]) (n := 60) Try.func48 rfl rfl rfl rfl rfl ?_
 refine yaa ?_
 have h6 : 0 ≤ L.getD 6 0 ∧ L.getD 6 0 ≤ 255 := getD_byte hB 6
 have h7 : 0 ≤ L.getD 7 0 ∧ L.getD 7 0 ≤ 255 := getD_byte hB 7
 refine zac (fun K1 hK1 => ?_)
 refine zaa ?_
 refine zab (fun K hK r => ?_)
 refine yaW ?_
 intro b1 hb1
 have f1_H : H b1 = none := zag lhA hb1
 refine yaf ?_
 refine hK _ _ ?_; clear hK K
 refine zab (fun K hK r => ?_)
 refine ycg ?_
 intro b2 hb2
 try have n2_b1 : b1 ≠ b2 := zaf hbA hb2
 have f2_H : H b2 = none := zag lhA hb2
 refine yaf ?_
 refine hK _ _ ?_; clear hK K
 refine zaj rfl ?_
 refine zad ?_
 refine yab ?_
 refine hK1 _ _ ?_; try clear hK1 K1
 refine zac (fun K2 hK2 => ?_)
 refine zaa ?_
 refine zab (fun K hK r => ?_)
 refine yaw ?_
 refine Lt_indexA Try.underlying30 sz5 ixA ixA ?_
 refine yax ?_
 refine yaf ?_
 refine hK _ _ ?_; clear hK K
 refine zab (fun K hK r => ?_)
 refine yap ?_
 refine zae Try.underlying5 rfl hbA (v := .int .u8 (L.getD 6 0)) (u8s_at L 6 (by omega)) ?_
 refine hK _ _ ?_; clear hK K
 refine zab (fun K hK r => ?_)
 refine yaP ?_
 refine hK _ _ ?_; clear hK K
 refine zab (fun K hK r => ?_)
 simp only [x_build, bp102, List.map_toArray, List.map_cons, List.map_nil, eX, ↓reduceIte, Nat.reduceEqDiff, Int.reduceToNat]
 rw [fill_one rfl clA bdA]
 refine ybe ?_
 refine yaf ?_
 refine hK _ _ ?_; clear hK K
 refine zab (fun K hK r => ?_)
 refine ycg ?_
 intro b4 hb4
 try have n4_b1 : b1 ≠ b4 := zaf hbA hb4
 try have n4_b2 : b2 ≠ b4 := zaf hbA hb4
 have f4_H : H b4 = none := zag lhA hb4
 refine yaf ?_
 refine hK _ _ ?_; clear hK K
 refine zaI rfl (zas) (fun K hK r => ?_)
 refine yaD ?_
 first | refine zak sz102 bdA hbA bdA plA (by decide) ?_ | refine zal sz102 bdA hbA bdA plA (by decide) ?_
 refine yaf ?_
 refine hK _ _ ?_; clear hK K
 refine zad ?_
 refine yab ?_
 refine hK2 _ _ ?_; try clear hK2 K2
 refine zac (fun K3 hK3 => ?_)
 refine zac (fun K4 hK4 => ?_)
 refine zaa ?_
 refine zaj rfl ?_
 refine zad ?_
 refine yab ?_
 refine hK4 _ _ ?_; try clear hK4 K4
 refine zaB ?_
 refine CW_loop (fun m e H_ => ∃ k : Nat, k ≤ 6 ∧ m = 6 - k ∧ Env.has [(1, .pointer (some ⟨b1, 0, none⟩)), (2, .pointer (some ⟨b2, 0, none⟩)), (4, .pointer (some ⟨b4, 0, none⟩)), (5, .int .i64 (5 - k))] e ∧ H_ = ((H.upd b1 (.cells (u8s L).toArray 30)).upd b2 (.cells #[.int .i64 0, .int .i64 0, .slice none 0 0] 102)).upd b4 (.cells #[.int .i64 (leI ((L.take 6).drop (6 - k))), .int .i64 (L.getD 6 0), .slice none 0 0] 102)) (6) ?_ ?_
 ·skip
  refine ⟨0, by omega, rfl, ⟨rfl, rfl, rfl, rfl, trivial⟩, ?_⟩
  rw [show (L.take 6).drop (6 - 0) = [] from List.drop_eq_nil_of_le (by simp; omega)]; rfl
 intro m_ e_ H_ hI_
 obtain ⟨k, hk6, rfl, he, rfl⟩ := hI_
 refine CW_env he.sub ?_; clear he e_
 refine zac (fun K5 hK5 => ?_)
 refine zac (fun K6 hK6 => ?_)
 refine zaa ?_
 refine zah rfl ?_
 refine zab (fun K hK r => ?_)
 refine yav ?_
 refine hK _ _ ?_; clear hK K
 refine zad ?_
 refine yab ?_
 refine hK6 _ _ ?_; try clear hK6 K6
 refine zar (fun r => rfl) (fun c14 => ?_) (fun c14 => ?_)
 ·first
  |(exfalso; exact cnA c14; done)
  |skip
   (try replace c14 := yad c14)
   refine zau ?_
   refine yab ?_
   refine hK5 _ _ ?_; try clear hK5 K5
   refine zac (fun K7 hK7 => ?_)
   refine zaB ?_
   refine CW_drawE [0, 1, 0, 0, 0, 1, 0, 0, 0, 3] [0, 1, 2, 3, 4, 5, 6, 7, 8, 9] (by kernel_rfl) (by kernel_rfl) (fun R5 hR5 => ?_)
   apply zat rfl (zai (by decide)) rfl
   ·intro r
    refine ych ?_
    exact ⟨rfl, Le.refl _⟩
   refine yaj ?_
   apply zaO rfl (zai (by decide)) rfl
   ·intro r
    refine yba ?_
    refine zae Try.underlying3 rfl hbA ldA ?_
    exact ⟨rfl, Le.refl _⟩
   refine yaj ?_
   apply zat rfl (zai (by decide)) rfl
   ·intro r
    simp (disch := (first | omega | decide)) only [x_bin, g_int, b_mul, wrap_i64, wrap_u64, wrap_u32, wrap_u8, eX, ↓reduceIte, Nat.reduceEqDiff]
    exact ⟨rfl, Le.refl _⟩
   refine yaj ?_
   apply zat rfl (zai (by decide)) rfl
   ·intro r
    refine yaI ?_
    exact ⟨rfl, Le.refl _⟩
   refine yaj ?_
   apply zat rfl (zai (by decide)) rfl
   ·intro r
    refine yaL ?_
    refine Lt_indexA Try.underlying30 sz5 ixA ixA ?_
    refine yax ?_
    exact ⟨rfl, Le.refl _⟩
   refine yaj ?_
   apply zaO rfl (zai (by decide)) rfl
   ·intro r
    refine yba ?_
    refine zae Try.underlying5 rfl hbA (v := .int .u8 (L.getD (5 - k) 0)) ?_ ?_
    ·rw [← u8s_at L (5 - k) (by omega)]; congr 1 <;> omega
    exact ⟨rfl, Le.refl _⟩
   refine yaj ?_
   apply zat rfl (zai (by decide)) rfl
   ·intro r
    simp (disch := (first | omega | decide)) only [x_convert, c_int _ _ _ _ Try.underlying5 Try.underlying3, wrap_i64, wrap_u64, wrap_u32, wrap_u8, eX, ↓reduceIte, Nat.reduceEqDiff]
    exact ⟨rfl, Le.refl _⟩
   refine yaj ?_
   apply zat rfl (zai (by decide)) rfl
   ·intro r
    refine yaJ ?_
    exact ⟨rfl, Le.refl _⟩
   refine yaj ?_
   apply zat rfl (zai (by decide)) rfl
   ·intro r
    refine ych ?_
    exact ⟨rfl, Le.refl _⟩
   refine yaj ?_
   refine TW_last rfl (zas) rfl (fun K hK r => ?_)
   refine yaD ?_
   refine zaE sz3 hbA bdA plA fzA ?_
   refine yaE ?_
   refine yaf ?_
   refine hK _ _ ?_; clear hK K
   refine TW_nil ?_
   refine yab ?_
   refine hK7 _ _ ?_; try clear hK7 K7
   refine zaa ?_
   refine zah rfl ?_
   refine zab (fun K hK r => ?_)
   refine yaG ?_
   refine hK _ _ ?_; clear hK K
   refine zaj rfl ?_
   refine zad ?_
   refine yab ?_
   have hs := leI_small hc hB k (by omega)
   have hx := getD_byte hB (5 - k)
   refine ⟨6 - (k + 1), by omega, k + 1, by omega, rfl, ⟨rfl, rfl, rfl, ?_, trivial⟩, ?_⟩
   ·show some (Value.int _ _) = _
    congr 2; omega
   ·have e := leI_drop hc (5 - k) (by omega)
    rw [show 5 - k + 1 = 6 - k by omega] at e
    rw [show 6 - (k + 1) = 5 - k by omega, e, wrap_i64 (256 * leI ((L.take 6).drop (6 - k))) (by omega) (by omega), wrap_i64 (L.getD (5 - k) 0) (by omega) (by omega), wrap_i64 _ (by omega) (by omega), Int.add_comm]
 ·first
  |(exfalso; exact cnA c14; done)
  |skip
   (try replace c14 := yad c14)
   refine CW_exit ?_
   refine yab ?_
   refine hK3 _ _ ?_; try clear hK3 K3
   refine zac (fun K8 hK8 => ?_)
   refine zac (fun K9 hK9 => ?_)
   refine zaa ?_
   refine zaj rfl ?_
   refine zad ?_
   refine yab ?_
   refine hK9 _ _ ?_; try clear hK9 K9
   refine zaB ?_
   refine CW_loop (fun m e H_ => ∃ (k : Nat) (x : Value) (rs : Option Nat), k ≤ (rdOf L).length ∧ m = (rdOf L).length - k ∧ Env.has [(1, .pointer (some ⟨b1, 0, none⟩)), (2, .pointer (some ⟨b2, 0, none⟩)), (4, .pointer (some ⟨b4, 0, none⟩)), (6, .int .i64 k)] e ∧ Le ((H.upd b1 (.cells (u8s L).toArray 30)).upd b2 (.cells #[.int .i64 0, .int .i64 0, .slice none 0 0] 102)) H_ ∧ H_ b4 = some (.cells #[.int .i64 (stOf L), .int .i64 (L.getD 6 0), x] 102) ∧ OwnS H_ 5 1 x k (u8s ((L.drop 8).take k)) rs ∧ (∀ r, rs = some r → ((H.upd b1 (.cells (u8s L).toArray 30)).upd b2 (.cells #[.int .i64 0, .int .i64 0, .slice none 0 0] 102)) r = none) ∧ rs ≠ some b4) ((rdOf L).length) ?_ ?_
   ·skip
    obtain rfl : k = 6 := by omega
    simp only [show leI ((L.take 6).drop (6 - 6)) = stOf L from rfl]
    exact ⟨0, _, none, by omega, rfl, ⟨rfl, rfl, rfl, rfl, trivial⟩, lhA, hbA, OwnS.nil _ _ _, (fun r hr => by cases hr), (by simp)⟩
   intro m_ e_ H_ hI_
   obtain ⟨k, x, rs, hkl, rfl, he, hl1, hx4, hox, hrs, hr4⟩ := hI_
   refine CW_env he.sub ?_; clear he e_
   have hlen := rdOf_len hc
   have kb1 := hl1 b1 _ hbA
   have kb2 := hl1 b2 _ hbA
   have lH : Le H H_ := Le.trans lhA hl1
   have px : plainCell x = true := by obtain ⟨_, _, rfl⟩ := hox.holds.form; rfl
   have hszS : szS L = L.getD 7 0 := rfl
   have hsl : (sealI (stOf L) (kdOf L) (rdOf L)).length = 64 := sealI_len _ _ _
   refine zac (fun K10 hK10 => ?_)
   refine zac (fun K11 hK11 => ?_)
   refine zaa ?_
   refine zah rfl ?_
   refine zab (fun K hK r => ?_)
   refine yaw ?_
   refine Lt_indexA Try.underlying30 sz5 ixA ixA ?_
   refine yax ?_
   refine yaf ?_
   refine hK _ _ ?_; clear hK K
   refine zab (fun K hK r => ?_)
   refine yap ?_
   refine zae Try.underlying5 rfl hbA (v := .int .u8 (L.getD 7 0)) (u8s_at L 7 (by omega)) ?_
   refine hK _ _ ?_; clear hK K
   refine zab (fun K hK r => ?_)
   refine yaP ?_
   refine hK _ _ ?_; clear hK K
   refine zab (fun K hK r => ?_)
   refine yac ?_
   refine hK _ _ ?_; clear hK K
   refine zah rfl ?_
   (first | refine zaA (d := 31) rfl (fun g31 => ?_) (fun g31 => ?_) | skip)
   all_goals try (exfalso; exact cnA g31)
   all_goals (try replace g31 := yad g31)
   all_goals
    refine yaf ?_
    first
    |refine yGT (fun K hK r => ?_)
     refine yai ?_
     refine hK _ _ ?_; clear hK K
    |refine yGF ?_
     refine yaj ?_
    first
    |refine yGT (fun K hK r => ?_)
     refine yac ?_
     refine hK _ _ ?_; clear hK K
    |refine yGF ?_
     refine yaj ?_
    refine zab (fun K hK r => ?_)
    refine yal ?_
    refine hK _ _ ?_; clear hK K
    refine zad ?_
    refine yab ?_
    refine hK11 _ _ ?_; try clear hK11 K11
    refine zar (fun r => rfl) (fun c34 => ?_) (fun c34 => ?_)
    ·first
     |(exfalso; exact cnA c34; done)
     |skip
      (try replace c34 := yad c34)
      refine zau ?_
      refine yab ?_
      refine hK10 _ _ ?_; try clear hK10 K10
      refine zac (fun K12 hK12 => ?_)
      refine zaB ?_
      obtain ⟨R9, hR9⟩ : ∃ R : Hp, R = (emptyHp.upd b1 (.cells (u8s L).toArray 30)).upd b4 (.cells #[.int .i64 (stOf L), .int .i64 (L.getD 6 0), x] 102) := ⟨_, rfl⟩
      refine CW_drawR [0, 1, 0, 0, 0, 1, 2, 2, 0, 3] [0, 1, 2, 3, 4, 5, 6, 7, 8, 9] R9 (by kernel_rfl) (by kernel_rfl) (by subst hR9; exact le_put (le_put (zaN _) kb1) hx4) (fun lR9 => ?_)
      apply zat rfl (zai (by decide)) rfl
      ·intro r
       simp only [zao, fa102_2, zaH, Nat.reduceAdd, Nat.zero_add, eX, ↓reduceIte, Nat.reduceEqDiff]
       exact ⟨rfl, Le.refl _⟩
      refine yaj ?_
      apply zaO rfl (zai (by decide)) rfl
      ·intro r
       refine yba ?_
       refine zae Try.underlying80 rfl hbA ldA ?_
       exact ⟨rfl, Le.refl _⟩
      refine yaj ?_
      apply zat rfl (zai (by decide)) rfl
      ·intro r
       refine yaI ?_
       exact ⟨rfl, Le.refl _⟩
      refine yaj ?_
      apply zat rfl (zai (by decide)) rfl
      ·intro r
       refine yaJ ?_
       exact ⟨rfl, Le.refl _⟩
      refine yaj ?_
      apply zat rfl (zai (by decide)) rfl
      ·intro r
       refine yaL ?_
       refine Lt_indexA Try.underlying30 sz5 ixA ixA ?_
       refine yax ?_
       exact ⟨rfl, Le.refl _⟩
      refine yaj ?_
      apply zaO rfl (zai (by decide)) rfl
      ·intro r
       refine yba ?_
       refine zae Try.underlying5 rfl hbA (v := .int .u8 (L.getD (8 + k) 0)) ?_ ?_
       ·rw [← u8s_at L (8 + k) (by omega)]; congr 1 <;> omega
       exact ⟨rfl, Le.refl _⟩
      refine yaj ?_
      refine TW_chain rfl (zai (by decide)) rfl (fun K hK r => ?_)
      refine yaT ?_
      refine zaJ (vs := [_]) Try.underlying80 sz5 zr5 rfl bsA (by first | decide | (simp; done)) ?_
      refine yaU ?_
      intro b43 hb43
      try have n43_b1 : b1 ≠ b43 := zaf hbA hb43
      try have n43_b2 : b2 ≠ b43 := zaf hbA hb43
      try have n43_b4 : b4 ≠ b43 := zaf hbA hb43
      have f43_H : H b43 = none := zag lhA hb43
      have f43_R9 : R9 b43 = none := zag lhA hb43
      refine yaf ?_
      refine hK _ _ leA ?_; clear hK K
      refine TW_chain rfl (zai (by decide)) rfl (fun K hK r => ?_)
      refine yaV ?_
      refine Lt_append Try.underlying80 Try.underlying80 (by simp) sz5 by5 (by decide) zr5 rfl _ (n := k) (m := 1) (ds := [.int .u8 (L.getD (8 + k) 0)]) (hox.make hb43) (len_slice _ _ _) (fun K => ?_) (by simp) plA (by omega) ?_
      ·refine (first_holds (w := 1) (n := 1) (cs := [.int .u8 (L.getD (8 + k) 0)]) ⟨rfl, .inr ⟨b43, 0, 1, _, _, _, rfl, hbA, by simp, by simp⟩⟩ (Nat.le_refl _) K).trans ?_
       rfl
      intro v44 H44 rs44 hg44 ho44 hr44
      obtain ⟨a44, c44, rfl⟩ := ho44.holds.form
      have lH44 := hg44.le (H0 := ((H.upd b1 (.cells (u8s L).toArray 30)).upd b2 (.cells #[.int .i64 0, .int .i64 0, .slice none 0 0] 102))) (zaw hl1 (zag hl1 hb43)) (fun r hr => hrs r hr)
      have k44_b1 := lH44 b1 _ hbA
      have k44_b2 := lH44 b2 _ hbA
      have k44_b4 := hg44.keep (b := b4) hbA hr4
      have lR44 : Le R9 H44 := by rw [hR9]; exact le_put (le_put (zaN _) k44_b1) k44_b4
      refine hK _ _ leA ?_; clear hK K
      apply zat rfl (zai (by decide)) rfl
      ·intro r
       simp only [zao, fa102_2, zaH, Nat.reduceAdd, Nat.zero_add, eX, ↓reduceIte, Nat.reduceEqDiff]
       exact ⟨rfl, Le.refl _⟩
      refine yaj ?_
      refine TW_last rfl (zas) rfl (fun K hK r => ?_)
      refine yaD ?_
      refine zaE sz80 hbA bdA plA fzA ?_
      refine yaE ?_
      refine yaf ?_
      refine hK _ _ ?_; clear hK K
      refine TW_nil ?_
      refine yab ?_
      refine hK12 _ _ ?_; try clear hK12 K12
      refine zaa ?_
      refine zah rfl ?_
      refine zab (fun K hK r => ?_)
      refine yaq ?_
      refine hK _ _ ?_; clear hK K
      refine zaj rfl ?_
      refine zad ?_
      refine yab ?_
      have n44 : rs44 ≠ some b4 := fun e => by
       rcases hr44 b4 e with h | h
       ·exact hr4 h
       ·rw [zap _ _ n43_b4] at h; rw [hx4] at h; cases h
      refine ⟨(rdOf L).length - (k + 1), by omega, k + 1, _, rs44, by omega, rfl, ⟨rfl, rfl, rfl, rfl, trivial⟩, zaw lH44 hb4, hbA, ?_, fun r hr => ?_, n44⟩
      ·rw [rdOf_step hc k (by omega)]; simpa using ho44.upd n44
      ·rcases hr44 r hr with h | h
       ·exact hrs r h
       ·exact zag hl1 (zag (zaw (Le.refl _) hb43) h)
    ·first
     |(exfalso; exact cnA c34; done)
     |skip
      (try replace c34 := yad c34)
      refine CW_exit ?_
      refine yab ?_
      refine hK8 _ _ ?_; try clear hK8 K8
      refine zac (fun K13 hK13 => ?_)
      refine zaa ?_
      refine zab (fun K hK r => ?_)
      refine yap ?_
      first | refine zax Try.underlying102 rfl sz102 hbA bdA ?_ | refine zaq Try.underlying102 rfl sz102 hbA bdA ?_
      refine ybg ?_
      refine yaf ?_
      refine hK _ _ ?_; clear hK K
      refine zab (fun K hK r => ?_)
      simp only [zaF _ bd47, List.map_toArray, List.map_cons, List.map_nil, eX, ↓reduceIte, Nat.reduceEqDiff, Int.reduceToNat]
      have hk : k = (rdOf L).length := by omega
      have ek : (L.drop 8).take k = rdOf L := by rw [hk, rdOf_len hc]; rfl
      rw [ek, hk] at hox
      refine (rSeal_ok _ (stOf L) (kdOf L) _ (rdOf L) hox.holds).mono ?_
      rintro v H' ⟨rfl, rfl⟩
      refine yaf ?_
      refine hK _ _ ?_; clear hK K
      refine zah rfl ?_
      refine zab (fun K hK r => ?_)
      refine yah ?_
      refine hK _ _ ?_; clear hK K
      refine zab (fun K hK r => ?_)
      refine yah ?_
      refine hK _ _ ?_; clear hK K
      refine zab (fun K hK r => ?_)
      refine yaX ?_
      intro b7 hb7
      try have n7_b1 : b1 ≠ b7 := zaf hbA hb7
      try have n7_b2 : b2 ≠ b7 := zaf hbA hb7
      try have n7_b4 : b4 ≠ b7 := zaf hbA hb7
      have f7_H : H b7 = none := zag lhA hb7
      refine yaf ?_
      refine hK _ _ ?_; clear hK K
      refine zaI rfl (zas) (fun K hK r => ?_)
      refine yaD ?_
      first | refine zak sz30 bdA hbA bdA plA (by decide) ?_ | refine zal sz30 bdA hbA bdA plA (by decide) ?_
      refine yaf ?_
      refine hK _ _ ?_; clear hK K
      refine zaj rfl ?_
      refine zad ?_
      refine yab ?_
      refine hK13 _ _ ?_; try clear hK13 K13
      refine zac (fun K14 hK14 => ?_)
      refine zac (fun K15 hK15 => ?_)
      refine zaa ?_
      refine zah rfl ?_
      refine zab (fun K hK r => ?_)
      refine yak ?_
      refine hK _ _ ?_; clear hK K
      refine zah rfl ?_
      (first | refine zaA (d := 53) rfl (fun g53 => ?_) (fun g53 => ?_) | skip)
      all_goals try (exfalso; exact cnA g53)
      all_goals (try replace g53 := yad g53)
      all_goals
       refine yaf ?_
       first
       |refine yGT (fun K hK r => ?_)
        refine yap ?_
        first | refine zax Try.underlying30 rfl sz30 hbA bdA ?_ | refine zaq Try.underlying30 rfl sz30 hbA bdA ?_
        refine yaf ?_
        refine hK _ _ ?_; clear hK K
       |refine yGF ?_
        refine yaj ?_
       first
       |refine yGT (fun K hK r => ?_)
        refine yap ?_
        first | refine zax Try.underlying30 rfl sz30 hbA bdA ?_ | refine zaq Try.underlying30 rfl sz30 hbA bdA ?_
        refine yaf ?_
        refine hK _ _ ?_; clear hK K
       |refine yGF ?_
        refine yaj ?_
       first
       |refine yGT (fun K hK r => ?_)
        refine ybh ?_
        rw [e_neq _ _ _ _ (by simp)]
        rw [zaM, q_array 9999 30 5 64 Try.underlying30 _ Try.underlying5 sz5 (fun x y K => q_int 9998 5 _ Try.underlying5 _ x y K) _ _ bdA bdA]
        refine yaf ?_
        refine hK _ _ ?_; clear hK K
       |refine yGF ?_
        refine yaj ?_
       refine zab (fun K hK r => ?_)
       refine yal ?_
       refine hK _ _ ?_; clear hK K
       refine zad ?_
       refine yab ?_
       refine hK15 _ _ ?_; try clear hK15 K15
       refine zar (fun r => rfl) (fun c57 => ?_) (fun c57 => ?_)
       ·first
        |(exfalso; exact cnA c57; done)
        |skip
         (try replace c57 := yad c57)
         refine zac (fun K16 hK16 => ?_)
         refine zaa ?_
         refine zab (fun K hK r => ?_)
         simp only [x_build, bp102, List.map_toArray, List.map_cons, List.map_nil, eX, ↓reduceIte, Nat.reduceEqDiff, Int.reduceToNat]
         refine ybe ?_
         refine yaf ?_
         refine hK _ _ ?_; clear hK K
         refine zaI rfl (zas) (fun K hK r => ?_)
         refine yaD ?_
         first | refine zak sz102 bdA hbA bdA plA (by decide) ?_ | refine zal sz102 bdA hbA bdA plA (by decide) ?_
         refine yaf ?_
         refine hK _ _ ?_; clear hK K
         refine zaj rfl ?_
         refine zad ?_
         refine yab ?_
         refine hK16 _ _ ?_; try clear hK16 K16
         refine zaz ?_
         refine yab ?_
         have hn := ref_none hc hB (by rintro ⟨h1, h2⟩; first | exact absurd h2 (by assumption) | exact g53 (by rw [h1]; rfl))
         obtain ⟨o1, o2, o3, o4⟩ := open_nones hn
         refine ⟨[_, _], ⟨⟨_, rfl, zaC Try.underlying102 rfl sz102 hbA bdA⟩, rfl, trivial⟩, H, lhA, .slice none 0 0, ⟨Le.refl _, none, ?_, fun r hr => by cases hr⟩, ?_⟩
         ·rw [o3]; exact OwnS.nil _ _ _
         ·rw [o1, o2, o4]; rfl
       ·first
        |(exfalso; exact cnA c57; done)
        |skip
         (try replace c57 := yad c57)
         refine zau ?_
         refine yab ?_
         refine hK14 _ _ ?_; try clear hK14 K14
         refine zac (fun K17 hK17 => ?_)
         refine zaa ?_
         refine zab (fun K hK r => ?_)
         refine yap ?_
         first | refine zax Try.underlying102 rfl sz102 hbA bdA ?_ | refine zaq Try.underlying102 rfl sz102 hbA bdA ?_
         refine ybg ?_
         refine yaf ?_
         refine hK _ _ ?_; clear hK K
         refine zaI rfl (zas) (fun K hK r => ?_)
         refine yaD ?_
         first | refine zak sz102 bdA hbA bdA plA (by decide) ?_ | refine zal sz102 bdA hbA bdA plA (by decide) ?_
         refine yaf ?_
         refine hK _ _ ?_; clear hK K
         refine zaj rfl ?_
         refine zad ?_
         refine yab ?_
         refine hK17 _ _ ?_; try clear hK17 K17
         refine zaz ?_
         refine yab ?_
         have hs := ref_some hB (badI_zero (by assumption)) (by assumption)
         obtain ⟨o1, o2, o3, o4⟩ := open_vals hs
         refine ⟨[_, _], ⟨⟨_, rfl, zaC Try.underlying102 rfl sz102 hbA bdA⟩, rfl, trivial⟩, _, Le.refl _, x, ⟨lhA, rs, ?_, fun r hr => zag lhA (hrs r hr)⟩, ?_⟩
         ·rw [o3]; exact (hox.make hb7).upd (fresh_ne hrs (b := b2) hbA)
         ·rw [o1, o2, o4]; rfl
end Go.Proofs.Ytigofhhonnbkmaa.HL
end
section
namespace Go.Proofs.Ytigofhhonnbkmaa.HL
open Go Go.Proofs
set_option linter.unusedSimpArgs false
set_option linter.unusedVariables false
attribute [local irreducible] Lt Lq CW OW TW CallH
def cvN (u : Nat) : Int := if u > 1125899906842624 then -1 else (u : Int)
theorem cN_some (u : Nat) (l : List Int) : cN (some (u, l)) = cvN u := rfl
theorem cvN_pos {u : Nat} (h : 0 ≤ cvN u) : cvN u = u := by unfold cvN at *; split at h <;> simp_all
theorem cvN_small {u : Nat} (h : u ≤ 1125899906842624) : cvN u = u := by unfold cvN; rw [if_neg (by omega)]
theorem cn_step {u : Nat} {rest l : List Int} {bad : Bool} {res : Option (Nat × List Int)} (hb : bad = false) (hl : l = cnt u ++ rest) (hu : u ≤ 1125899906842624) (h : RCb bad l res) : cN res = u ∧ rcL res = rest ∧ res.isNone = false := by
  subst hb hl
  have e : res = some (u, rest) := (h.2 rfl).uniq (RC.cnt rest (by omega))
  subst e
  exact ⟨(cN_some u rest).trans (cvN_small hu), rfl, rfl⟩
theorem QH.nextC {L l : List Int} {bad : Bool} {x : Mf} {n : Int} (q : QH L l bad x n) (hx : (x.hd.length : Int) < n) {r : Option (Nat × List Int)} (h : RCb bad l r) : QH L (rcL r) r.isNone { x with hd := x.hd ++ [cN r] } n := fun m hm hL => by
  obtain ⟨h1, h2, h3, h4, h5⟩ := q m hm hL
  have hlt : x.hd.length < m.hd.length := by omega
  have hmem : m.hd.getD x.hd.length 0 ∈ m.hd := by
    rw [List.getD_eq_getElem?_getD, List.getElem?_eq_getElem hlt]; exact List.getElem_mem hlt
  have hd : m.hd.drop x.hd.length = m.hd.getD x.hd.length 0 :: m.hd.drop (x.hd.length + 1) := by
    rw [List.getD_eq_getElem?_getD, List.getElem?_eq_getElem hlt]
    exact List.drop_eq_getElem_cons hlt
  have hr := hm.h _ hmem
  have h5' := h5
  rw [hd, cnts_cons, List.append_assoc] at h5
  obtain ⟨a1, a2, a3⟩ := cn_step h1 h5 (by omega) h
  obtain ⟨c1, c2, c3⟩ := sm_step h1 h5 (by omega) h
  have e : cN r = smN r := by rw [a1, c1]
  rw [e]
  exact q.next hx h m hm hL
theorem Q0.fourC {L l : List Int} {st : Int} (q : Q0 L l false st) {r1 r2 r3 r4 : Option (Nat × List Int)} (h1 : RCb false l r1) (h2 : RCb r1.isNone (rcL r1) r2) (h3 : RCb r2.isNone (rcL r2) r3) (h4 : RCb r3.isNone (rcL r3) r4) : Q4 L (rcL r4) r4.isNone st (cN r1) (cN r2) (cN r3) (cN r4) := fun m hm e => by
  obtain ⟨_, hl, hs⟩ := q m hm e
  rw [m.by_eq] at hl
  obtain ⟨he, hb, ha, hn⟩ := And.intro hm.e (And.intro hm.b (And.intro hm.a hm.l))
  obtain ⟨a1, a2, a3⟩ := cn_step rfl hl (by omega) h1
  obtain ⟨b1, b2, b3⟩ := cn_step a3 a2 (by omega) h2
  obtain ⟨c1, c2, c3⟩ := cn_step b3 b2 (by omega) h3
  obtain ⟨d1, d2, d3⟩ := cn_step c3 c2 (by omega) h4
  exact ⟨d3, hs, by omega, by omega, by omega, by omega, d2⟩
theorem Q4.headsC {L l : List Int} {bad : Bool} {st e b a n : Int} (q : Q4 L l bad st e b a n) {r : Option (Nat × List Int)} (h : RCb bad l r) : QH L (rcL r) r.isNone ⟨st, e, b, a, n, []⟩ (cN r) := fun m hm hL => by
  obtain ⟨h1, h2, h3, h4, h5, h6, h7⟩ := q m hm hL
  have := hm.n
  obtain ⟨a1, a2, a3⟩ := cn_step h1 h7 (by omega) h
  refine ⟨a3, ?_, a1, Nat.zero_le _, by rw [a2]; rfl⟩
  subst h2 h3 h4 h5 h6
  rfl
def FH (d l : List Int) (bad : Bool) (x : Mf) (n : Int) : Prop := bad = false → ∃ (u1 u2 u3 u4 u5 : Nat) (us : List Nat), x.ep = cvN u1 ∧ x.ba = cvN u2 ∧ x.ar = cvN u3 ∧ x.ln = cvN u4 ∧ n = cvN u5 ∧ x.hd = us.map cvN ∧ d = cnt u1 ++ (cnt u2 ++ (cnt u3 ++ (cnt u4 ++ (cnt u5 ++ (us.flatMap cnt ++ l)))))
theorem RCb.val {bad : Bool} {l : List Int} {r : Option (Nat × List Int)} (h : RCb bad l r) (hn : r.isNone = false) : ∃ u, bad = false ∧ cN r = cvN u ∧ l = cnt u ++ rcL r := by
  cases r with
  | none => cases hn
  | some x =>
    obtain ⟨u, l'⟩ := x
    cases bad with
    | true => have := h.1 rfl; cases this
    | false => exact ⟨u, rfl, rfl, (h.2 rfl).1⟩
theorem FH.start {d : List Int} {st : Int} {r1 r2 r3 r4 r5 : Option (Nat × List Int)} (h1 : RCb false d r1) (h2 : RCb r1.isNone (rcL r1) r2) (h3 : RCb r2.isNone (rcL r2) r3) (h4 : RCb r3.isNone (rcL r3) r4) (h5 : RCb r4.isNone (rcL r4) r5) : FH d (rcL r5) r5.isNone ⟨st, cN r1, cN r2, cN r3, cN r4, []⟩ (cN r5) := fun hb => by
  obtain ⟨u5, b4, e5, l5⟩ := h5.val hb
  obtain ⟨u4, b3, e4, l4⟩ := h4.val b4
  obtain ⟨u3, b2, e3, l3⟩ := h3.val b3
  obtain ⟨u2, b1, e2, l2⟩ := h2.val b2
  obtain ⟨u1, _, e1, l1⟩ := h1.val b1
  exact ⟨u1, u2, u3, u4, u5, [], e1, e2, e3, e4, e5, rfl, by rw [l1, l2, l3, l4, l5]; simp⟩
theorem FH.next {d l : List Int} {bad : Bool} {x : Mf} {n : Int} (h : FH d l bad x n) {r : Option (Nat × List Int)} (hr : RCb bad l r) : FH d (rcL r) r.isNone { x with hd := x.hd ++ [cN r] } n := fun hb => by
  obtain ⟨u, b0, e, el⟩ := hr.val hb
  obtain ⟨u1, u2, u3, u4, u5, us, h1, h2, h3, h4, h5, h6, h7⟩ := h b0
  exact ⟨u1, u2, u3, u4, u5, us ++ [u], h1, h2, h3, h4, h5, by simp [h6, e], by rw [h7, el]; simp⟩
theorem FH.end {L l : List Int} {bad : Bool} {x : Mf} {n : Int} (h : FH (opD L) l bad x n) (ho : (opE L).isNone = true) (hk : opK L = 3) (hs : x.gen = opS L) (hb : bad = false) (hl : l = [77]) (hx : ¬ (x.hd.length : Int) < n) (hle : (x.hd.length : Int) ≤ max n 0) (hg : x.good = true) : opM L = some x := by
  have hok := Mf.good_iff.1 hg
  obtain ⟨u1, u2, u3, u4, u5, us, h1, h2, h3, h4, h5, h6, h7⟩ := h hb
  have he := hok.e; have hbb := hok.b; have ha := hok.a; have hln := hok.l; have hn := hok.n
  have e1 := cvN_pos (u := u1) (by omega)
  have e2 := cvN_pos (u := u2) (by omega)
  have e3 := cvN_pos (u := u3) (by omega)
  have e4 := cvN_pos (u := u4) (by omega)
  have e5 := cvN_pos (u := u5) (by omega)
  have eus : us.flatMap cnt = cnts x.hd := by
    rw [h6]
    unfold cnts
    rw [List.flatMap_map]
    have : ∀ u ∈ us, cnt u = cnt (cvN u).toNat := fun u hu => by
      have hm : cvN u ∈ x.hd := by rw [h6]; exact List.mem_map_of_mem hu
      rw [cvN_pos (hok.h _ hm).1]; rfl
    clear h6 h7
    induction us with
    | nil => rfl
    | cons u us ih => simp only [List.flatMap_cons]; rw [ih (fun v hv => this v (by simp [hv])), this u (by simp)]
  have hd : opD L = x.by_ := by
    rw [x.by_eq, h7, hl, eus]
    rw [show u1 = x.ep.toNat by omega, show u2 = x.ba.toNat by omega, show u3 = x.ar.toNat by omega, show u4 = x.ln.toNat by omega, show u5 = x.hd.length by omega]
  obtain ⟨q1, q2⟩ := open_again ho
  refine opM_some hok ?_
  rw [← q2, hk, ← hs, hd]
  unfold Mf.sealB
  rw [if_pos hg]
theorem RCb.lessB {bad : Bool} {l : List Int} {r : Option (Nat × List Int)} (h : RCb bad l r) (hb : bad = false) : (if r.isNone = true then 0 else (rcL r).length + 1) < l.length + 1 := by
  subst hb
  cases r with
  | none => simp
  | some x =>
    have e := (h.2 rfl).1
    have hc : 0 < (cnt x.1).length := List.length_pos_iff.2 (cnt_ne x.1)
    have h2 : l.length = (cnt x.1).length + x.2.length := by rw [e, List.length_append]
    show x.2.length + 1 < _
    omega
end Go.Proofs.Ytigofhhonnbkmaa.HL
end
section
namespace Go.Proofs.Ytigofhhonnbkmaa.HL
open Go Go.Proofs
set_option linter.unusedSimpArgs false
set_option linter.unusedVariables false
attribute [local irreducible] Lt Lq CW OW TW CallH
set_option maxRecDepth 100000 in
set_option maxHeartbeats 4000000 in
theorem rGood_ok (H : Hp) (m : Mf) (ma : Option Addr) (mc : Nat) (hm : Holds H 1 (.slice ma m.hd.length mc) m.hd.length (i64s m.hd)) (hm0 : m.hd.length ≤ 9223372036854775807) : CallH Try.prog 11 #[.agg #[.int .i64 m.gen, .int .i64 m.ep, .int .i64 m.ba, .int .i64 m.ar, .int .i64 m.ln, .slice ma m.hd.length mc]] H (fun v H' => v = .bool m.good ∧ H' = H) := by
 refine zam (l := [_]) (rl := [.tmp 2]) (n := 85) Try.func11 rfl rfl rfl rfl rfl ?_
 refine yaa ?_
 refine zac (fun K1 hK1 => ?_)
 refine zaa ?_
 refine zab (fun K hK r => ?_)
 refine yaW ?_
 intro b1 hb1
 have f1_H : H b1 = none := zag lhA hb1
 refine yaf ?_
 refine hK _ _ ?_; clear hK K
 refine zaj rfl ?_
 refine zad ?_
 refine yab ?_
 refine hK1 _ _ ?_; try clear hK1 K1
 refine zac (fun K2 hK2 => ?_)
 refine zac (fun K3 hK3 => ?_)
 refine zaa ?_
 refine zab (fun K hK r => ?_)
 refine ybT ?_
 refine hK _ _ ?_; clear hK K
 refine zab (fun K hK r => ?_)
 refine yap ?_
 refine zae Try.underlying3 rfl hbA ldA ?_
 refine yaf ?_
 refine hK _ _ ?_; clear hK K
 refine zab (fun K hK r => ?_)
 refine yac ?_
 refine hK _ _ ?_; clear hK K
 refine zah rfl ?_
 (first | refine zaA (d := 7) rfl (fun g7 => ?_) (fun g7 => ?_) | skip)
 all_goals try (exfalso; exact cnA g7)
 all_goals (try replace g7 := yad g7)
 all_goals
  refine yaf ?_
  first
  |refine yGT (fun K hK r => ?_)
   refine ybT ?_
   refine hK _ _ ?_; clear hK K
  |refine yGF ?_
   refine yaj ?_
  first
  |refine yGT (fun K hK r => ?_)
   refine yap ?_
   refine zae Try.underlying3 rfl hbA ldA ?_
   refine yaf ?_
   refine hK _ _ ?_; clear hK K
  |refine yGF ?_
   refine yaj ?_
  first
  |refine yGT (fun K hK r => ?_)
   refine yaZ ?_
   refine hK _ _ ?_; clear hK K
  |refine yGF ?_
   refine yaj ?_
  refine zab (fun K hK r => ?_)
  refine yal ?_
  refine hK _ _ ?_; clear hK K
  refine zah rfl ?_
  (first | refine zaA (d := 12) rfl (fun g12 => ?_) (fun g12 => ?_) | skip)
  all_goals try (exfalso; exact cnA g12)
  all_goals (try replace g12 := yad g12)
  all_goals
   refine yaf ?_
   first
   |refine yGT (fun K hK r => ?_)
    refine ybU ?_
    refine hK _ _ ?_; clear hK K
   |refine yGF ?_
    refine yaj ?_
   first
   |refine yGT (fun K hK r => ?_)
    refine yap ?_
    refine zae Try.underlying3 rfl hbA ldA ?_
    refine yaf ?_
    refine hK _ _ ?_; clear hK K
   |refine yGF ?_
    refine yaj ?_
   first
   |refine yGT (fun K hK r => ?_)
    refine yac ?_
    refine hK _ _ ?_; clear hK K
   |refine yGF ?_
    refine yaj ?_
   refine zab (fun K hK r => ?_)
   refine yal ?_
   refine hK _ _ ?_; clear hK K
   refine zah rfl ?_
   (first | refine zaA (d := 17) rfl (fun g17 => ?_) (fun g17 => ?_) | skip)
   all_goals try (exfalso; exact cnA g17)
   all_goals (try replace g17 := yad g17)
   all_goals
    refine yaf ?_
    first
    |refine yGT (fun K hK r => ?_)
     refine ybU ?_
     refine hK _ _ ?_; clear hK K
    |refine yGF ?_
     refine yaj ?_
    first
    |refine yGT (fun K hK r => ?_)
     refine yap ?_
     refine zae Try.underlying3 rfl hbA ldA ?_
     refine yaf ?_
     refine hK _ _ ?_; clear hK K
    |refine yGF ?_
     refine yaj ?_
    first
    |refine yGT (fun K hK r => ?_)
     refine yaZ ?_
     refine hK _ _ ?_; clear hK K
    |refine yGF ?_
     refine yaj ?_
    refine zab (fun K hK r => ?_)
    refine yal ?_
    refine hK _ _ ?_; clear hK K
    refine zah rfl ?_
    (first | refine zaA (d := 22) rfl (fun g22 => ?_) (fun g22 => ?_) | skip)
    all_goals try (exfalso; exact cnA g22)
    all_goals (try replace g22 := yad g22)
    all_goals
     refine yaf ?_
     first
     |refine yGT (fun K hK r => ?_)
      refine ybV ?_
      refine hK _ _ ?_; clear hK K
     |refine yGF ?_
      refine yaj ?_
     first
     |refine yGT (fun K hK r => ?_)
      refine yap ?_
      refine zae Try.underlying3 rfl hbA ldA ?_
      refine yaf ?_
      refine hK _ _ ?_; clear hK K
     |refine yGF ?_
      refine yaj ?_
     first
     |refine yGT (fun K hK r => ?_)
      refine yac ?_
      refine hK _ _ ?_; clear hK K
     |refine yGF ?_
      refine yaj ?_
     refine zab (fun K hK r => ?_)
     refine yal ?_
     refine hK _ _ ?_; clear hK K
     refine zah rfl ?_
     (first | refine zaA (d := 27) rfl (fun g27 => ?_) (fun g27 => ?_) | skip)
     all_goals try (exfalso; exact cnA g27)
     all_goals (try replace g27 := yad g27)
     all_goals
      refine yaf ?_
      first
      |refine yGT (fun K hK r => ?_)
       refine ybV ?_
       refine hK _ _ ?_; clear hK K
      |refine yGF ?_
       refine yaj ?_
      first
      |refine yGT (fun K hK r => ?_)
       refine yap ?_
       refine zae Try.underlying3 rfl hbA ldA ?_
       refine yaf ?_
       refine hK _ _ ?_; clear hK K
      |refine yGF ?_
       refine yaj ?_
      first
      |refine yGT (fun K hK r => ?_)
       refine yaZ ?_
       refine hK _ _ ?_; clear hK K
      |refine yGF ?_
       refine yaj ?_
      refine zab (fun K hK r => ?_)
      refine yal ?_
      refine hK _ _ ?_; clear hK K
      refine zah rfl ?_
      (first | refine zaA (d := 32) rfl (fun g32 => ?_) (fun g32 => ?_) | skip)
      all_goals try (exfalso; exact cnA g32)
      all_goals (try replace g32 := yad g32)
      all_goals
       refine yaf ?_
       first
       |refine yGT (fun K hK r => ?_)
        refine ybW ?_
        refine hK _ _ ?_; clear hK K
       |refine yGF ?_
        refine yaj ?_
       first
       |refine yGT (fun K hK r => ?_)
        refine yap ?_
        refine zae Try.underlying3 rfl hbA ldA ?_
        refine yaf ?_
        refine hK _ _ ?_; clear hK K
       |refine yGF ?_
        refine yaj ?_
       first
       |refine yGT (fun K hK r => ?_)
        refine yac ?_
        refine hK _ _ ?_; clear hK K
       |refine yGF ?_
        refine yaj ?_
       refine zab (fun K hK r => ?_)
       refine yal ?_
       refine hK _ _ ?_; clear hK K
       refine zah rfl ?_
       (first | refine zaA (d := 37) rfl (fun g37 => ?_) (fun g37 => ?_) | skip)
       all_goals try (exfalso; exact cnA g37)
       all_goals (try replace g37 := yad g37)
       all_goals
        refine yaf ?_
        first
        |refine yGT (fun K hK r => ?_)
         refine ybW ?_
         refine hK _ _ ?_; clear hK K
        |refine yGF ?_
         refine yaj ?_
        first
        |refine yGT (fun K hK r => ?_)
         refine yap ?_
         refine zae Try.underlying3 rfl hbA ldA ?_
         refine yaf ?_
         refine hK _ _ ?_; clear hK K
        |refine yGF ?_
         refine yaj ?_
        first
        |refine yGT (fun K hK r => ?_)
         refine yaZ ?_
         refine hK _ _ ?_; clear hK K
        |refine yGF ?_
         refine yaj ?_
        refine zab (fun K hK r => ?_)
        refine yal ?_
        refine hK _ _ ?_; clear hK K
        refine zah rfl ?_
        (first | refine zaA (d := 42) rfl (fun g42 => ?_) (fun g42 => ?_) | skip)
        all_goals try (exfalso; exact cnA g42)
        all_goals (try replace g42 := yad g42)
        all_goals
         refine yaf ?_
         first
         |refine yGT (fun K hK r => ?_)
          refine ybX ?_
          refine hK _ _ ?_; clear hK K
         |refine yGF ?_
          refine yaj ?_
         first
         |refine yGT (fun K hK r => ?_)
          refine yap ?_
          refine zae Try.underlying3 rfl hbA ldA ?_
          refine yaf ?_
          refine hK _ _ ?_; clear hK K
         |refine yGF ?_
          refine yaj ?_
         first
         |refine yGT (fun K hK r => ?_)
          refine yac ?_
          refine hK _ _ ?_; clear hK K
         |refine yGF ?_
          refine yaj ?_
         refine zab (fun K hK r => ?_)
         refine yal ?_
         refine hK _ _ ?_; clear hK K
         refine zah rfl ?_
         (first | refine zaA (d := 47) rfl (fun g47 => ?_) (fun g47 => ?_) | skip)
         all_goals try (exfalso; exact cnA g47)
         all_goals (try replace g47 := yad g47)
         all_goals
          refine yaf ?_
          first
          |refine yGT (fun K hK r => ?_)
           refine ybX ?_
           refine hK _ _ ?_; clear hK K
          |refine yGF ?_
           refine yaj ?_
          first
          |refine yGT (fun K hK r => ?_)
           refine yap ?_
           refine zae Try.underlying3 rfl hbA ldA ?_
           refine yaf ?_
           refine hK _ _ ?_; clear hK K
          |refine yGF ?_
           refine yaj ?_
          first
          |refine yGT (fun K hK r => ?_)
           refine yaZ ?_
           refine hK _ _ ?_; clear hK K
          |refine yGF ?_
           refine yaj ?_
          refine zab (fun K hK r => ?_)
          refine yal ?_
          refine hK _ _ ?_; clear hK K
          refine zah rfl ?_
          (first | refine zaA (d := 52) rfl (fun g52 => ?_) (fun g52 => ?_) | skip)
          all_goals try (exfalso; exact cnA g52)
          all_goals (try replace g52 := yad g52)
          all_goals
           refine yaf ?_
           first
           |refine yGT (fun K hK r => ?_)
            refine ybS ?_
            refine hK _ _ ?_; clear hK K
           |refine yGF ?_
            refine yaj ?_
           first
           |refine yGT (fun K hK r => ?_)
            refine yap ?_
            refine zae Try.underlying22 rfl hbA ldA ?_
            refine yaf ?_
            refine hK _ _ ?_; clear hK K
           |refine yGF ?_
            refine yaj ?_
           first
           |refine yGT (fun K hK r => ?_)
            refine ybt ?_
            refine hK _ _ ?_; clear hK K
           |refine yGF ?_
            refine yaj ?_
           first
           |refine yGT (fun K hK r => ?_)
            refine yac ?_
            refine hK _ _ ?_; clear hK K
           |refine yGF ?_
            refine yaj ?_
           refine zab (fun K hK r => ?_)
           refine yal ?_
           refine hK _ _ ?_; clear hK K
           refine zah rfl ?_
           (first | refine zaA (d := 58) rfl (fun g58 => ?_) (fun g58 => ?_) | skip)
           all_goals try (exfalso; exact cnA g58)
           all_goals (try replace g58 := yad g58)
           all_goals
            refine yaf ?_
            first
            |refine yGT (fun K hK r => ?_)
             refine ybS ?_
             refine hK _ _ ?_; clear hK K
            |refine yGF ?_
             refine yaj ?_
            first
            |refine yGT (fun K hK r => ?_)
             refine yap ?_
             refine zae Try.underlying22 rfl hbA ldA ?_
             refine yaf ?_
             refine hK _ _ ?_; clear hK K
            |refine yGF ?_
             refine yaj ?_
            first
            |refine yGT (fun K hK r => ?_)
             refine ybt ?_
             refine hK _ _ ?_; clear hK K
            |refine yGF ?_
             refine yaj ?_
            first
            |refine yGT (fun K hK r => ?_)
             refine yaZ ?_
             refine hK _ _ ?_; clear hK K
            |refine yGF ?_
             refine yaj ?_
            refine zab (fun K hK r => ?_)
            refine yal ?_
            refine hK _ _ ?_; clear hK K
            refine zad ?_
            refine yab ?_
            refine hK3 _ _ ?_; try clear hK3 K3
            refine zar (fun r => rfl) (fun c63 => ?_) (fun c63 => ?_)
            ·first
             |(exfalso; exact cnA c63; done)
             |skip
              skip
              refine zac (fun K4 hK4 => ?_)
              refine zaa ?_
              refine zaj rfl ?_
              refine zad ?_
              refine yab ?_
              refine hK4 _ _ ?_; try clear hK4 K4
              refine zaz ?_
              refine yab ?_
              have hb : m.good = false := by
               cases hg : m.good with
               |false => rfl
               |true =>
                exfalso
                obtain ⟨h1, h2, h3, h4, h5, h6, _⟩ := Mf.good_iff.1 hg
                first
                |omega
                |(simp only [decide_eq_true_eq] at c63; omega)
              rw [hb]
              exact ⟨[_], ⟨rfl, trivial⟩, H, lhA, rfl, rfl⟩
            ·first
             |(exfalso; exact cnA c63; done)
             |skip
              have hrg : (1 ≤ m.gen ∧ m.gen ≤ 17179869183) ∧ (1 ≤ m.ep ∧ m.ep ≤ 65535) ∧ (0 ≤ m.ba ∧ m.ba ≤ 281474976710655) ∧ (0 ≤ m.ar ∧ m.ar ≤ 1) ∧ (0 ≤ m.ln ∧ m.ln ≤ 1048576) ∧ 1 ≤ m.hd.length ∧ m.hd.length ≤ 4 := by first | omega | (cases c63; done) | (simp only [decide_eq_false_iff_not] at c63; omega)
              clear c63
              refine zau ?_
              refine yab ?_
              refine hK2 _ _ ?_; try clear hK2 K2
              refine zac (fun K5 hK5 => ?_)
              refine zac (fun K6 hK6 => ?_)
              refine zaa ?_
              refine zaj rfl ?_
              refine zad ?_
              refine yab ?_
              refine hK6 _ _ ?_; try clear hK6 K6
              refine zaB ?_
              refine CW_loop (fun m_ e H_ => ∃ k : Nat, k ≤ m.hd.length ∧ m_ = m.hd.length - k ∧ (∀ x ∈ m.hd.take k, 0 ≤ x ∧ x ≤ 4294967294) ∧ Le (H.upd b1 (.cells #[.int .i64 m.gen, .int .i64 m.ep, .int .i64 m.ba, .int .i64 m.ar, .int .i64 m.ln, .slice ma m.hd.length mc] 24)) H_ ∧ Env.has [(1, .pointer (some ⟨b1, 0, none⟩)), (3, .int .i64 k)] e) (m.hd.length) ?_ ?_
              ·skip
               exact ⟨0, by omega, by omega, (fun x hx => by simp at hx), Le.refl _, rfl, rfl, trivial⟩
              intro m_ e_ H_ hI_
              obtain ⟨k, hk, rfl, hall, hlH, he⟩ := hI_
              refine CW_env he.sub ?_; clear he e_
              have k1 := hlH b1 _ (zan _ _ _)
              have hHH : Le H H_ := Le.trans (le_upd _ _ _ hb1) hlH
              refine zac (fun K7 hK7 => ?_)
              refine zac (fun K8 hK8 => ?_)
              refine zaa ?_
              refine zah rfl ?_
              refine zab (fun K hK r => ?_)
              refine ybS ?_
              refine hK _ _ ?_; clear hK K
              refine zab (fun K hK r => ?_)
              refine yap ?_
              refine zae Try.underlying22 rfl hbA ldA ?_
              refine yaf ?_
              refine hK _ _ ?_; clear hK K
              refine zab (fun K hK r => ?_)
              refine ybt ?_
              refine hK _ _ ?_; clear hK K
              refine zab (fun K hK r => ?_)
              refine yac ?_
              refine hK _ _ ?_; clear hK K
              refine zad ?_
              refine yab ?_
              refine hK8 _ _ ?_; try clear hK8 K8
              refine zar (fun r => rfl) (fun c68 => ?_) (fun c68 => ?_)
              ·first
               |(exfalso; exact cnA c68; done)
               |skip
                (try replace c68 := yad c68)
                obtain ⟨bw, ow, qw, Tw, Fw, rfl, hbw, hsw, atw⟩ := (hm.le (Le.trans (le_upd _ _ _ hb1) hlH)).at (by omega)
                try have n_bw_b1 : bw ≠ b1 := zaf hbw f1_H
                refine zau ?_
                refine yab ?_
                refine hK7 _ _ ?_; try clear hK7 K7
                refine zac (fun K9 hK9 => ?_)
                refine zaB ?_
                refine zac (fun K10 hK10 => ?_)
                refine zaa ?_
                refine zab (fun K hK r => ?_)
                refine ybS ?_
                refine hK _ _ ?_; clear hK K
                refine zab (fun K hK r => ?_)
                refine yap ?_
                refine zae Try.underlying22 rfl hbA ldA ?_
                refine yaf ?_
                refine hK _ _ ?_; clear hK K
                refine zah rfl ?_
                refine zab (fun K hK r => ?_)
                refine yaw ?_
                refine Lt_indexS Try.underlying22 sz3 ixA ixA ?_
                refine yax ?_
                refine yaf ?_
                refine hK _ _ ?_; clear hK K
                refine zab (fun K hK r => ?_)
                refine yap ?_
                refine zae Try.underlying3 rfl hbA (v := .int .i64 (m.hd.getD k 0)) (by first | exact ints_at atw rfl _ (by omega) | (simp only [Int.toNat_natCast, Nat.mul_one]; exact ints_at atw rfl _ (by omega))) ?_
                refine hK _ _ ?_; clear hK K
                refine zab (fun K hK r => ?_)
                refine yac ?_
                refine hK _ _ ?_; clear hK K
                refine zah rfl ?_
                (first | refine zaA (d := 77) rfl (fun g77 => ?_) (fun g77 => ?_) | skip)
                all_goals try (exfalso; exact cnA g77)
                all_goals (try replace g77 := yad g77)
                all_goals
                 refine yaf ?_
                 first
                 |refine yGT (fun K hK r => ?_)
                  refine ybS ?_
                  refine hK _ _ ?_; clear hK K
                 |refine yGF ?_
                  refine yaj ?_
                 first
                 |refine yGT (fun K hK r => ?_)
                  refine yap ?_
                  refine zae Try.underlying22 rfl hbA ldA ?_
                  refine yaf ?_
                  refine hK _ _ ?_; clear hK K
                 |refine yGF ?_
                  refine yaj ?_
                 first
                 |refine yGT (fun K hK r => ?_)
                  refine yai ?_
                  refine hK _ _ ?_; clear hK K
                 |refine yGF ?_
                  refine yaj ?_
                 first
                 |refine yGT (fun K hK r => ?_)
                  refine yaw ?_
                  refine Lt_indexS Try.underlying22 sz3 ixA ixA ?_
                  refine yax ?_
                  refine yaf ?_
                  refine hK _ _ ?_; clear hK K
                 |refine yGF ?_
                  refine yaj ?_
                 first
                 |refine yGT (fun K hK r => ?_)
                  refine yap ?_
                  refine zae Try.underlying3 rfl hbA (v := .int .i64 (m.hd.getD k 0)) (by first | exact ints_at atw rfl _ (by omega) | (simp only [Int.toNat_natCast, Nat.mul_one]; exact ints_at atw rfl _ (by omega))) ?_
                  refine hK _ _ ?_; clear hK K
                 |refine yGF ?_
                  refine yaj ?_
                 first
                 |refine yGT (fun K hK r => ?_)
                  refine yaZ ?_
                  refine hK _ _ ?_; clear hK K
                 |refine yGF ?_
                  refine yaj ?_
                 refine zab (fun K hK r => ?_)
                 refine yal ?_
                 refine hK _ _ ?_; clear hK K
                 refine zad ?_
                 refine yab ?_
                 refine hK10 _ _ ?_; try clear hK10 K10
                 refine zar (fun r => rfl) (fun c84 => ?_) (fun c84 => ?_)
                 ·first
                  |(exfalso; exact cnA c84; done)
                  |skip
                   have hex : ¬ (0 ≤ m.hd.getD k 0 ∧ m.hd.getD k 0 ≤ 4294967294) := by first | omega | (simp only [decide_eq_true_eq] at c84; omega)
                   refine zac (fun K11 hK11 => ?_)
                   refine zaa ?_
                   refine zaj rfl ?_
                   refine zad ?_
                   refine yab ?_
                   refine hK11 _ _ ?_; try clear hK11 K11
                   refine zaz ?_
                   refine yab ?_
                   have hb : m.good = false := by
                    cases hg : m.good with
                    |false => rfl
                    |true =>
                     exfalso
                     have hh := (Mf.good_iff.1 hg).h (m.hd.getD k 0) (by rw [List.getD_eq_getElem?_getD, List.getElem?_eq_getElem (by omega)]; exact List.getElem_mem _)
                     exact hex hh
                   rw [hb]
                   exact ⟨[_], ⟨rfl, trivial⟩, H, lhA, rfl, rfl⟩
                 ·first
                  |(exfalso; exact cnA c84; done)
                  |skip
                   have hin : 0 ≤ m.hd.getD k 0 ∧ m.hd.getD k 0 ≤ 4294967294 := by first | omega | (cases c84; done) | (simp only [decide_eq_false_iff_not] at c84; omega)
                   refine zau ?_
                   refine yab ?_
                   refine hK9 _ _ ?_; try clear hK9 K9
                   refine zaa ?_
                   refine zah rfl ?_
                   refine zab (fun K hK r => ?_)
                   refine yaq ?_
                   refine hK _ _ ?_; clear hK K
                   refine zaj rfl ?_
                   refine zad ?_
                   refine yab ?_
                   refine ⟨m.hd.length - (k + 1), by omega, k + 1, by omega, rfl, ?_, hlH, rfl, rfl, trivial⟩
                   intro x hx
                   rw [take_snoc (by omega)] at hx
                   rcases List.mem_append.1 hx with h | h
                   ·exact hall x h
                   ·simp only [List.mem_singleton] at h
                    subst h
                    omega
              ·first
               |(exfalso; exact cnA c68; done)
               |skip
                (try replace c68 := yad c68)
                obtain rfl : k = m.hd.length := by omega
                rw [List.take_length] at hall
                refine CW_exit ?_
                refine yab ?_
                refine hK5 _ _ ?_; try clear hK5 K5
                refine zac (fun K12 hK12 => ?_)
                refine zaa ?_
                refine zaj rfl ?_
                refine zad ?_
                refine yab ?_
                refine hK12 _ _ ?_; try clear hK12 K12
                refine zaz ?_
                refine yab ?_
                have hg : m.good = true := Mf.good_iff.2 ⟨hrg.1, hrg.2.1, hrg.2.2.1, hrg.2.2.2.1, hrg.2.2.2.2.1, hrg.2.2.2.2.2, hall⟩
                rw [hg]
                exact ⟨[_], ⟨rfl, trivial⟩, H, lhA, rfl, rfl⟩
set_option maxRecDepth 100000 in
set_option maxHeartbeats 1000000 in
theorem rcnt_ok (H0 H : Hp) (p : Nat) (l : List Int) (bad : Bool) (hr : RM H0 H p l bad) (hle : Le H0 H) (hp0 : H0 p = none) (hB : ByteL l) (hl : l.length ≤ 100000) : CallH Try.prog 49 #[.pointer (some ⟨p, 0, none⟩)] H (fun v H' => ∃ res, RCb bad l res ∧ v = .int .i64 (cN res) ∧ RM H0 H' p (rcL res) res.isNone ∧ KeepBut H p H') := by
 refine zam (l := [_]) (rl := [.tmp 2]) (n := 10) Try.func49 rfl rfl rfl rfl rfl ?_
 refine yaa ?_
 refine zac (fun K1 hK1 => ?_)
 refine zaa ?_
 refine zaj rfl ?_
 refine zad ?_
 refine yab ?_
 refine hK1 _ _ ?_; try clear hK1 K1
 refine zac (fun K2 hK2 => ?_)
 refine zaa ?_
 refine zah rfl ?_
 refine zab (fun K hK r => ?_)
 simp only [zaF _ bd73, List.map_toArray, List.map_cons, List.map_nil, eX, ↓reduceIte, Nat.reduceEqDiff, Int.reduceToNat]
 refine (mCount_ok H0 _ p l bad hr hle hp0 hB hl).mono ?_
 rintro v5 H5 ⟨res, hres, rfl, hr5, hk5⟩
 have hlt := hres.lt
 refine yaf ?_
 refine hK _ _ ?_; clear hK K
 refine zaj rfl ?_
 refine zad ?_
 refine yab ?_
 refine hK2 _ _ ?_; try clear hK2 K2
 refine zac (fun K3 hK3 => ?_)
 refine zac (fun K4 hK4 => ?_)
 refine zaa ?_
 refine zah rfl ?_
 refine zab (fun K hK r => ?_)
 refine yaZ ?_
 refine hK _ _ ?_; clear hK K
 refine zad ?_
 refine yab ?_
 refine hK4 _ _ ?_; try clear hK4 K4
 refine zar (fun r => rfl) (fun c7 => ?_) (fun c7 => ?_)
 ·first
  |(exfalso; exact cnA c7; done)
  |skip
   (try replace c7 := yad c7)
   refine zac (fun K5 hK5 => ?_)
   refine zaa ?_
   refine zaj rfl ?_
   refine zad ?_
   refine yab ?_
   refine hK5 _ _ ?_; try clear hK5 K5
   refine zaz ?_
   refine yab ?_
   refine ⟨[_], ⟨rfl, trivial⟩, _, Le.refl _, res, hres, ?_, hr5, hk5⟩
   cases res with
   |none => exfalso; revert c7; simp [rcN]
   |some x =>
    show Value.int _ _ = Value.int _ _
    congr 1
    show (-1 : Int) = (if x.1 > 1125899906842624 then -1 else (x.1 : Int))
    have h9 : ((rcN (some x) : Nat) : Int) > 1125899906842624 := by first | assumption | (simpa using c7)
    have h8 : ((x.1 : Nat) : Int) > 1125899906842624 := h9
    rw [if_pos (by omega)]
 ·first
  |(exfalso; exact cnA c7; done)
  |skip
   (try replace c7 := yad c7)
   refine zau ?_
   refine yab ?_
   refine hK3 _ _ ?_; try clear hK3 K3
   refine zac (fun K6 hK6 => ?_)
   refine zaa ?_
   refine zah rfl ?_
   refine zab (fun K hK r => ?_)
   simp (disch := (first | omega | decide)) only [x_convert, c_int _ _ _ _ Try.underlying84 Try.underlying3, wrap_i64, wrap_u64, wrap_u32, wrap_u8, eX, ↓reduceIte, Nat.reduceEqDiff, Int.reduceToNat]
   refine hK _ _ ?_; clear hK K
   refine zaj rfl ?_
   refine zad ?_
   refine yab ?_
   refine hK6 _ _ ?_; try clear hK6 K6
   refine zaz ?_
   refine yab ?_
   refine ⟨[_], ⟨rfl, trivial⟩, _, Le.refl _, res, hres, ?_, hr5, hk5⟩
   cases res with
   |none => rfl
   |some x =>
    have hc : ¬ ((rcN (some x) : Nat) : Int) > 1125899906842624 := by first | assumption | (simpa using c7) | omega
    have hc2 : ¬ x.1 > 1125899906842624 := fun h => hc (by show ((x.1 : Nat) : Int) > _; omega)
    show Value.int _ _ = Value.int _ _
    congr 1
    show _ = (if x.1 > 1125899906842624 then -1 else (x.1 : Int))
    rw [if_neg hc2]
    first | rfl | (show IntKind.i64.wrap ((x.1 : Nat) : Int) = _; exact wrap_i64 _ (by omega) (by omega))
end Go.Proofs.Ytigofhhonnbkmaa.HL
end
section
namespace Go.Proofs.Ytigofhhonnbkmaa.HL
open Go Go.Proofs
set_option linter.unusedSimpArgs false
set_option linter.unusedVariables false
attribute [local irreducible] Lt Lq CW OW TW CallH
theorem OwnS.cap {H : Hp} {E : TypeId} {w n m c : Nat} {a : Option Addr} {cs : List Value} {rs : Option Nat} (h : OwnS H E w (.slice a m c) n cs rs) : n ≤ c := by
  obtain ⟨_, ⟨h1, h2, _⟩ | ⟨r, cap, d, h1, _, h3, _⟩⟩ := h
  · omega
  · injection h1 with _ _ e; omega
theorem refNone {L l : List Int} {bad : Bool} {x : Mf} {n : Int} (q : QH L l bad x n) (hex : ¬ ((x.hd.length : Int) < n ∧ bad = false)) {m : Mf} (hm : m.Ok) (hL : L = m.sealB) : l = [77] ∧ x = m := by
  obtain ⟨h1, h2, h3, h4, h5⟩ := q m hm hL
  have e : x.hd.length = m.hd.length := by
    have : ¬ (x.hd.length : Int) < n := fun h => hex ⟨h, h1⟩
    omega
  refine ⟨by rw [h5, e, List.drop_eq_nil_of_le (Nat.le_refl _)]; rfl, ?_⟩
  rw [h2, e, List.take_length]
theorem one_byte {l : List Int} (h1 : byV l = 77) (h2 : byB l = false) (h3 : byL l = []) : l = [77] := by
  cases l with
  | nil => cases h2
  | cons x t =>
    have e1 : x = 77 := h1
    have e2 : t = [] := h3
    rw [e1, e2]
theorem yci {p q : Prop} (h : q) (e : p = q := by simp only [x_alloc, zr24, zay, Value.cells, eX, ↓reduceIte, Nat.reduceEqDiff, Int.reduceToNat]; exact rfl) : p := e.mpr h
theorem ycj {p q : Prop} (h : q) (e : p = q := by simp only [x_build, bp24, List.map_toArray, List.map_cons, List.map_nil, eX, ↓reduceIte, Nat.reduceEqDiff, Int.reduceToNat]; exact rfl) : p := e.mpr h
theorem yck {p q : Prop} (h : q) (e : p = q := by simp only [zaF _ bd49, List.map_toArray, List.map_cons, List.map_nil, eX, ↓reduceIte, Nat.reduceEqDiff, Int.reduceToNat]; exact rfl) : p := e.mpr h
set_option maxRecDepth 100000 in
set_option maxHeartbeats 16000000 in
theorem rMOpen_ok (H : Hp) (L : List Int) (hc : L.length = 64) (hBL : ByteL L) : CallH Try.prog 17 #[.agg (u8s L).toArray] H (fun v H' => Le H H' ∧ ∃ x rs, v = .tuple #[.agg #[.int .i64 (opMv L).gen, .int .i64 (opMv L).ep, .int .i64 (opMv L).ba, .int .i64 (opMv L).ar, .int .i64 (opMv L).ln, x], .bool (opM L).isSome] ∧ OwnS H' 3 1 x (opMv L).hd.length (i64s (opMv L).hd) rs ∧ ∀ r, rs = some r → H r = none) := by
 refine zam (l := [_]) (rl := [.cell 2 24, .tmp 3]) (n := 77) Try.func17 rfl rfl rfl rfl rfl ?_
 refine yaa ?_
 have hDl := opD_len L
 have hDB := opD_byte hBL
 refine zac (fun K1 hK1 => ?_)
 refine zaa ?_
 refine zab (fun K hK r => ?_)
 refine yaW ?_
 intro b1 hb1
 have f1_H : H b1 = none := zag lhA hb1
 refine yaf ?_
 refine hK _ _ ?_; clear hK K
 refine zab (fun K hK r => ?_)
 refine yci ?_
 intro b2 hb2
 try have n2_b1 : b1 ≠ b2 := zaf hbA hb2
 have f2_H : H b2 = none := zag lhA hb2
 refine yaf ?_
 refine hK _ _ ?_; clear hK K
 refine zaj rfl ?_
 refine zad ?_
 refine yab ?_
 refine hK1 _ _ ?_; try clear hK1 K1
 refine zac (fun K2 hK2 => ?_)
 refine zaa ?_
 refine zab (fun K hK r => ?_)
 refine yap ?_
 first | refine zax Try.underlying30 rfl sz30 hbA bdA ?_ | refine zaq Try.underlying30 rfl sz30 hbA bdA ?_
 refine yaf ?_
 refine hK _ _ ?_; clear hK K
 refine zab (fun K hK r => ?_)
 simp only [zaF _ bd48, List.map_toArray, List.map_cons, List.map_nil, eX, ↓reduceIte, Nat.reduceEqDiff, Int.reduceToNat]
 refine (rOpen_R _ L hc hBL).mono ?_
 rintro v12 H12 ⟨x12, ⟨l12, rs12, ho12, hr12⟩, rfl⟩
 obtain ⟨a12, c12, rfl⟩ := ho12.holds.form
 have hcap : (opD L).length ≤ c12 := ho12.cap
 have k12_1 := l12 b1 _ hbA
 have k12_2 := l12 b2 _ hbA
 have lH12 : Le H H12 := Le.trans lhA l12
 refine yaf ?_
 refine hK _ _ ?_; clear hK K
 refine zah rfl ?_
 refine zab (fun K hK r => ?_)
 refine yah ?_
 refine hK _ _ ?_; clear hK K
 refine zab (fun K hK r => ?_)
 refine yah ?_
 refine hK _ _ ?_; clear hK K
 refine zab (fun K hK r => ?_)
 refine ycg ?_
 intro b4 hb4
 try have n4_b1 : b1 ≠ b4 := zaf hbA hb4
 try have n4_b2 : b2 ≠ b4 := zaf hbA hb4
 have f4_H : H b4 = none := zag lhA hb4
 refine yaf ?_
 refine hK _ _ ?_; clear hK K
 refine zaI rfl (zas) (fun K hK r => ?_)
 refine yaD ?_
 first | refine zak sz102 bdA hbA bdA plA (by decide) ?_ | refine zal sz102 bdA hbA bdA plA (by decide) ?_
 refine yaf ?_
 refine hK _ _ ?_; clear hK K
 refine zaj rfl ?_
 refine zad ?_
 refine yab ?_
 refine hK2 _ _ ?_; try clear hK2 K2
 refine zac (fun K3 hK3 => ?_)
 refine zac (fun K4 hK4 => ?_)
 refine zaa ?_
 refine zah rfl ?_
 refine zab (fun K hK r => ?_)
 refine yam ?_
 refine hK _ _ ?_; clear hK K
 refine zah rfl ?_
 (first | refine zaA (d := 17) rfl (fun g17 => ?_) (fun g17 => ?_) | skip)
 all_goals try (exfalso; exact cnA g17)
 all_goals (try replace g17 := yad g17)
 all_goals
  refine yaf ?_
  first
  |refine yGT (fun K hK r => ?_)
   refine ycd ?_
   refine hK _ _ ?_; clear hK K
  |refine yGF ?_
   refine yaj ?_
  first
  |refine yGT (fun K hK r => ?_)
   refine yap ?_
   refine zae Try.underlying3 rfl hbA ldA ?_
   refine yaf ?_
   refine hK _ _ ?_; clear hK K
  |refine yGF ?_
   refine yaj ?_
  first
  |refine yGT (fun K hK r => ?_)
   refine yak ?_
   refine hK _ _ ?_; clear hK K
  |refine yGF ?_
   refine yaj ?_
  refine zab (fun K hK r => ?_)
  refine yal ?_
  refine hK _ _ ?_; clear hK K
  refine zad ?_
  refine yab ?_
  refine hK4 _ _ ?_; try clear hK4 K4
  refine zar (fun r => rfl) (fun c21 => ?_) (fun c21 => ?_)
  ·first
   |(exfalso; exact cnA c21; done)
   |skip
    have hnone : opM L = none := opM_none fun m hm hL => by
     have h := open_vals (hL ▸ hm.open : openI L = some (m.gen, 3, m.by_))
     have h1 := h.2.1
     have h2 := h.2.2.2
     rw [h2] at *
     simp_all
    refine zac (fun K5 hK5 => ?_)
    refine zaa ?_
    refine zab (fun K hK r => ?_)
    refine ycj ?_
    refine ybe ?_
    refine yaf ?_
    refine hK _ _ ?_; clear hK K
    refine zaI rfl (zas) (fun K hK r => ?_)
    refine yaD ?_
    first | refine zak sz24 bdA hbA bdA plA (by decide) ?_ | refine zal sz24 bdA hbA bdA plA (by decide) ?_
    refine yaf ?_
    refine hK _ _ ?_; clear hK K
    refine zaj rfl ?_
    refine zad ?_
    refine yab ?_
    refine hK5 _ _ ?_; try clear hK5 K5
    refine zaz ?_
    refine yab ?_
    skip
    obtain ⟨e1, e2⟩ := opM_no hnone
    rw [e1, hnone]
    refine ⟨[_, _], ⟨⟨_, rfl, zaC Try.underlying24 rfl sz24 hbA bdA⟩, rfl, trivial⟩, _, Le.refl _, ?_, .slice none 0 0, none, ?_, OwnS.nil _ _ _, fun r hr => by cases hr⟩
    ·exact lhA
    ·rfl
  ·first
   |(exfalso; exact cnA c21; done)
   |skip
    have hopn : (opE L).isNone = true ∧ opK L = 3 := by
     first | exact ⟨by assumption, by omega⟩ | (simp_all; done) | (cases c21; done)
    obtain ⟨hopn, hopk⟩ := hopn
    refine zau ?_
    refine yab ?_
    refine hK3 _ _ ?_; try clear hK3 K3
    refine zac (fun K6 hK6 => ?_)
    refine zaa ?_
    refine zab (fun K hK r => ?_)
    refine yce ?_
    refine hK _ _ ?_; clear hK K
    refine zab (fun K hK r => ?_)
    refine yap ?_
    refine zae Try.underlying80 rfl hbA ldA ?_
    refine yaf ?_
    refine hK _ _ ?_; clear hK K
    refine zab (fun K hK r => ?_)
    simp only [x_build, bp107, List.map_toArray, List.map_cons, List.map_nil, eX, ↓reduceIte, Nat.reduceEqDiff, Int.reduceToNat]
    rw [fill_one rfl clA bdA]
    refine ybe ?_
    obtain ⟨G, hG⟩ : ∃ G : Hp, G = H12.upd b4 (.cells #[.int .i64 (opS L), .int .i64 (opK L), .slice a12 (opD L).length c12] 102) := ⟨_, rfl⟩
    have g1 := (show G b1 = H12 b1 from by rw [hG]; exact zap _ _ (zaf k12_1 hb4)).trans k12_1
    have g2 := (show G b2 = H12 b2 from by rw [hG]; exact zap _ _ (zaf k12_2 hb4)).trans k12_2
    have g4 : G b4 = some (.cells #[.int .i64 (opS L), .int .i64 (opK L), .slice a12 (opD L).length c12] 102) := by rw [hG]; exact zan _ _ _
    have lHG : Le H G := by rw [hG]; exact zaw lH12 (zag lH12 hb4)
    have hDG : Holds G 1 (.slice a12 (opD L).length c12) (opD L).length (u8s (opD L)) := by rw [hG]; exact (ho12.holds.le (le_upd _ _ _ hb4))
    refine yaf ?_
    refine hK _ _ ?_; clear hK K
    refine zab (fun K hK r => ?_)
    refine yaW ?_
    intro b26 hb26
    try have n26_b1 : b1 ≠ b26 := zaf hbA hb26
    try have n26_b2 : b2 ≠ b26 := zaf hbA hb26
    try have n26_b4 : b4 ≠ b26 := zaf hbA hb26
    have f26_H : H b26 = none := zag lhA hb26
    obtain ⟨p, hp⟩ : ∃ p, p = b26 := ⟨_, rfl⟩
    have gp : G p = none := by rw [hp, hG]; exact hb26
    have hr26 : RM G (G.upd p (.cells #[.slice a12 (opD L).length c12, .bool false] 107)) p (opD L) false := ⟨a12, c12, zan _ _ _, hcap, hDG, fun h => by cases h⟩
    obtain ⟨H26, hH26⟩ : ∃ H26 : Hp, H26 = G.upd p (.cells #[.slice a12 (opD L).length c12, .bool false] 107) := ⟨_, rfl⟩
    have lG26 : Le G H26 := by rw [hH26]; exact le_upd _ _ _ gp
    rw [← hH26] at hr26
    rw [show (H12.upd b4 (.cells #[.int .i64 (opS L), .int .i64 (opK L), .slice a12 (opD L).length c12] 102)).upd b26 (.cells #[.slice a12 (opD L).length c12, .bool false] 107) = H26 from by rw [hH26, hG, hp]]
    rw [← hp]
    refine yaf ?_
    refine hK _ _ ?_; clear hK K
    refine zaj rfl ?_
    refine zad ?_
    refine yab ?_
    refine hK6 _ _ ?_; try clear hK6 K6
    refine zac (fun K7 hK7 => ?_)
    obtain ⟨R5, hR5⟩ : ∃ R : Hp, R = emptyHp.upd b4 (.cells #[.int .i64 (opS L), .int .i64 (opK L), .slice a12 (opD L).length c12] 102) := ⟨_, rfl⟩
    refine CW_drawR [0, 1, 0, 2, 0, 4, 3] [0, 1, 2, 3, 4, 5, 6] R5 (by kernel_rfl) (by kernel_rfl) (by subst hR5; exact le_put (zaN _) (lG26 b4 _ g4)) (fun lR5 => ?_)
    apply zat rfl (zai (by decide)) rfl
    ·intro r
     refine ych ?_
     exact ⟨rfl, Le.refl _⟩
    refine yaj ?_
    apply zaO rfl (zai (by decide)) rfl
    ·intro r
     refine yba ?_
     refine zae Try.underlying3 rfl hbA ldA ?_
     exact ⟨rfl, Le.refl _⟩
    refine yaj ?_
    apply zat rfl (zai (by decide)) rfl
    ·intro r
     refine yaI ?_
     exact ⟨rfl, Le.refl _⟩
    refine yaj ?_
    refine TW_chain rfl (zai (by decide)) rfl (fun K hK r => ?_)
    refine yck ?_
    refine (rcnt_ok G _ p _ _ hr26 lG26 gp hDB (by omega)).mono ?_
    rintro v30 H30 ⟨res1, hq30, rfl, hr30, hk30⟩
    obtain ⟨hB30, hl30⟩ := hq30.byte hDB
    have lG30 : Le G H30 := hk30.le lG26 gp
    have lH30 : Le H H30 := Le.trans lHG lG30
    have lR30 : Le R5 H30 := by rw [hR5]; exact le_put (zaN _) (lG30 b4 _ g4)
    refine yaf ?_
    refine hK _ _ leA ?_; clear hK K
    apply zat rfl (zai (by decide)) rfl
    ·intro r
     simp only [x_build, bp24, List.map_toArray, List.map_cons, List.map_nil, eX, ↓reduceIte, Nat.reduceEqDiff]
     rw [fill_one rfl clA bdA]
     rw [fill_one rfl clA bdA]
     refine ybe ?_
     exact ⟨rfl, Le.refl _⟩
    refine yaj ?_
    refine TW_make rfl (zai (by decide)) rfl (fun K hK r => ?_)
    refine yci ?_
    intro b7 hb7
    try have n7_b1 : b1 ≠ b7 := zaf hbA hb7
    try have n7_b2 : b2 ≠ b7 := zaf hbA hb7
    try have n7_b4 : b4 ≠ b7 := zaf hbA hb7
    try have n7_b26 : b26 ≠ b7 := zaf hbA hb7
    have f7_H : H b7 = none := zag lhA hb7
    have f7_R5 : R5 b7 = none := zag lhA hb7
    refine yaf ?_
    refine hK _ _ ?_; clear hK K
    refine TW_last rfl (zas) rfl (fun K hK r => ?_)
    refine yaD ?_
    first | refine zak sz24 bdA hbA bdA plA (by decide) ?_ | refine zal sz24 bdA hbA bdA plA (by decide) ?_
    refine yaf ?_
    refine hK _ _ ?_; clear hK K
    refine TW_nil ?_
    refine yab ?_
    refine hK7 _ _ ?_; try clear hK7 K7
    refine zac (fun K8 hK8 => ?_)
    refine zaa ?_
    refine zah rfl ?_
    refine zab (fun K hK r => ?_)
    refine yck ?_
    have n7p : b7 ≠ p := fun e => by obtain ⟨_, _, h, _⟩ := hr30; rw [← e, hb7] at h; cases h
    have gb7 : G b7 = none := zag lG30 hb7
    refine (rcnt_ok G _ p _ _ (hr30.keep (fun o ho => by rw [zap _ _ n7p.symm]; exact ho)) (zaw lG30 gb7) gp hB30 (by omega)).mono ?_
    rintro v33 H33 ⟨res2, hq33, rfl, hr33, hk33⟩
    obtain ⟨hB33, hl33⟩ := hq33.byte hB30
    have lG33 : Le G H33 := hk33.le (zaw lG30 gb7) gp
    have lH33 : Le H H33 := Le.trans lHG lG33
    have k33_7 : H33 b7 = some (.cells #[.int .i64 (opS L), .int .i64 (cN res1), .int .i64 0, .int .i64 0, .int .i64 0, .slice none 0 0] 24) := hk33 b7 _ (zan _ _ _) n7p
    refine yaf ?_
    refine hK _ _ ?_; clear hK K
    refine zab (fun K hK r => ?_)
    refine ybV ?_
    refine hK _ _ ?_; clear hK K
    refine zaI rfl (zas) (fun K hK r => ?_)
    refine yaD ?_
    refine zaE sz3 hbA bdA plA fzA ?_
    refine yaE ?_
    refine yaf ?_
    refine hK _ _ ?_; clear hK K
    refine zad ?_
    refine yab ?_
    refine hK8 _ _ ?_; try clear hK8 K8
    refine zac (fun K9 hK9 => ?_)
    refine zaa ?_
    refine zah rfl ?_
    refine zab (fun K hK r => ?_)
    refine yck ?_
    refine (rcnt_ok G _ p _ _ (hr33.keep (fun o ho => by rw [zap _ _ n7p.symm]; exact ho)) (zaw lG33 gb7) gp hB33 (by omega)).mono ?_
    rintro v36 H36 ⟨res3, hq36, rfl, hr36, hk36⟩
    obtain ⟨hB36, hl36⟩ := hq36.byte hB33
    have lG36 : Le G H36 := hk36.le (zaw lG33 gb7) gp
    have lH36 : Le H H36 := Le.trans lHG lG36
    have k36_7 : H36 b7 = some (.cells #[.int .i64 (opS L), .int .i64 (cN res1), .int .i64 (cN res2), .int .i64 0, .int .i64 0, .slice none 0 0] 24) := hk36 b7 _ (zan _ _ _) n7p
    refine yaf ?_
    refine hK _ _ ?_; clear hK K
    refine zab (fun K hK r => ?_)
    refine ybW ?_
    refine hK _ _ ?_; clear hK K
    refine zaI rfl (zas) (fun K hK r => ?_)
    refine yaD ?_
    refine zaE sz3 hbA bdA plA fzA ?_
    refine yaE ?_
    refine yaf ?_
    refine hK _ _ ?_; clear hK K
    refine zad ?_
    refine yab ?_
    refine hK9 _ _ ?_; try clear hK9 K9
    refine zac (fun K10 hK10 => ?_)
    refine zaa ?_
    refine zah rfl ?_
    refine zab (fun K hK r => ?_)
    refine yck ?_
    refine (rcnt_ok G _ p _ _ (hr36.keep (fun o ho => by rw [zap _ _ n7p.symm]; exact ho)) (zaw lG36 gb7) gp hB36 (by omega)).mono ?_
    rintro v39 H39 ⟨res4, hq39, rfl, hr39, hk39⟩
    obtain ⟨hB39, hl39⟩ := hq39.byte hB36
    have lG39 : Le G H39 := hk39.le (zaw lG36 gb7) gp
    have lH39 : Le H H39 := Le.trans lHG lG39
    have k39_7 : H39 b7 = some (.cells #[.int .i64 (opS L), .int .i64 (cN res1), .int .i64 (cN res2), .int .i64 (cN res3), .int .i64 0, .slice none 0 0] 24) := hk39 b7 _ (zan _ _ _) n7p
    refine yaf ?_
    refine hK _ _ ?_; clear hK K
    refine zab (fun K hK r => ?_)
    refine ybX ?_
    refine hK _ _ ?_; clear hK K
    refine zaI rfl (zas) (fun K hK r => ?_)
    refine yaD ?_
    refine zaE sz3 hbA bdA plA fzA ?_
    refine yaE ?_
    refine yaf ?_
    refine hK _ _ ?_; clear hK K
    refine zad ?_
    refine yab ?_
    refine hK10 _ _ ?_; try clear hK10 K10
    refine zac (fun K11 hK11 => ?_)
    refine zaa ?_
    refine zah rfl ?_
    refine zab (fun K hK r => ?_)
    refine yck ?_
    refine (rcnt_ok G _ p _ _ (hr39.keep (fun o ho => by rw [zap _ _ n7p.symm]; exact ho)) (zaw lG39 gb7) gp hB39 (by omega)).mono ?_
    rintro v42 H42 ⟨res5, hq42, rfl, hr42, hk42⟩
    obtain ⟨hB42, hl42⟩ := hq42.byte hB39
    have lG42 : Le G H42 := hk42.le (zaw lG39 gb7) gp
    have lH42 : Le H H42 := Le.trans lHG lG42
    have k42_7 : H42 b7 = some (.cells #[.int .i64 (opS L), .int .i64 (cN res1), .int .i64 (cN res2), .int .i64 (cN res3), .int .i64 (cN res4), .slice none 0 0] 24) := hk42 b7 _ (zan _ _ _) n7p
    have q4 := (Q0.start (L := L)).fourC hq30 hq33 hq36 hq39
    have q5 := q4.headsC hq42
    have f5 := FH.start (st := opS L) hq30 hq33 hq36 hq39 hq42
    have hll5 : (rcL res5).length ≤ 50 := by omega
    refine yaf ?_
    refine hK _ _ ?_; clear hK K
    refine zaj rfl ?_
    refine zad ?_
    refine yab ?_
    refine hK11 _ _ ?_; try clear hK11 K11
    refine zac (fun K12 hK12 => ?_)
    refine zac (fun K13 hK13 => ?_)
    refine zaa ?_
    refine zaj rfl ?_
    refine zad ?_
    refine yab ?_
    refine hK13 _ _ ?_; try clear hK13 K13
    refine zaB ?_
    refine CW_loop (fun m_ e H_ => ∃ (hs l : List Int) (bad : Bool) (va : Option Addr) (vc : Nat) (rs : Option Nat), m_ = (if bad = true then 0 else l.length + 1) ∧ (if bad = true then l.length + hs.length ≤ 51 else l.length + hs.length ≤ 50) ∧ ByteL l ∧ RM G H_ p l bad ∧ Le G H_ ∧ H_ b7 = some (.cells #[.int .i64 (opS L), .int .i64 (cN res1), .int .i64 (cN res2), .int .i64 (cN res3), .int .i64 (cN res4), .slice va hs.length vc] 24) ∧ OwnS H_ 3 1 (.slice va hs.length vc) hs.length (i64s hs) rs ∧ (∀ r, rs = some r → G r = none ∧ r ≠ p ∧ r ≠ b7) ∧ QH L l bad (Mf.mk (opS L) (cN res1) (cN res2) (cN res3) (cN res4) hs) (cN res5) ∧ FH (opD L) l bad (Mf.mk (opS L) (cN res1) (cN res2) (cN res3) (cN res4) hs) (cN res5) ∧ (hs.length : Int) ≤ max (cN res5) 0 ∧ Env.has [(1, .pointer (some ⟨b1, 0, none⟩)), (2, .pointer (some ⟨b2, 0, none⟩)), (6, .pointer (some ⟨p, 0, none⟩)), (7, .pointer (some ⟨b7, 0, none⟩)), (8, .int .i64 (cN res5)), (9, .int .i64 hs.length)] e) ((if res5.isNone = true then 0 else (rcL res5).length + 1)) ?_ ?_
    ·skip
     exact ⟨[], rcL res5, res5.isNone, none, 0, none, rfl, by split <;> (simp; omega), hB42, hr42, lG42, k42_7, OwnS.nil _ _ _, (fun r hr => by cases hr), q5, f5, by simp; omega, rfl, rfl, rfl, rfl, rfl, rfl, trivial⟩
    intro m_ e_ H_ hI_
    obtain ⟨hs, l, bad, va, vc, rs, rfl, hln, hBl, hrd, lG_, k7, ho, hrs, hQ, hF, hmx, he⟩ := hI_
    refine CW_env he.sub ?_; clear he e_
    have k1 := lG_ b1 _ g1
    have k2 := lG_ b2 _ g2
    have lH_ : Le H H_ := Le.trans lHG lG_
    obtain ⟨ra, rc, kp, _⟩ := id hrd
    have hln2 : l.length + hs.length ≤ 51 := by split at hln <;> omega
    refine zac (fun K14 hK14 => ?_)
    refine zac (fun K15 hK15 => ?_)
    refine zaa ?_
    refine zah rfl ?_
    refine zah rfl ?_
    refine zab (fun K hK r => ?_)
    refine yac ?_
    refine hK _ _ ?_; clear hK K
    refine zah rfl ?_
    (first | refine zaA (d := 46) rfl (fun g46 => ?_) (fun g46 => ?_) | skip)
    all_goals try (exfalso; exact cnA g46)
    all_goals (try replace g46 := yad g46)
    all_goals
     refine yaf ?_
     first
     |refine yGT (fun K hK r => ?_)
      refine yai ?_
      refine hK _ _ ?_; clear hK K
     |refine yGF ?_
      refine yaj ?_
     first
     |refine yGT (fun K hK r => ?_)
      rw [zav _ _ rfl]
      refine yaj ?_
      refine hK _ _ ?_; clear hK K
     |refine yGF ?_
      refine yaj ?_
     first
     |refine yGT (fun K hK r => ?_)
      refine ybY ?_
      refine hK _ _ ?_; clear hK K
     |refine yGF ?_
      refine yaj ?_
     first
     |refine yGT (fun K hK r => ?_)
      refine yap ?_
      refine zae Try.underlying4 rfl hbA ldA ?_
      refine yaf ?_
      refine hK _ _ ?_; clear hK K
     |refine yGF ?_
      refine yaj ?_
     first
     |refine yGT (fun K hK r => ?_)
      refine yam ?_
      refine hK _ _ ?_; clear hK K
     |refine yGF ?_
      refine yaj ?_
     refine zab (fun K hK r => ?_)
     refine yal ?_
     refine hK _ _ ?_; clear hK K
     refine zad ?_
     refine yab ?_
     refine hK15 _ _ ?_; try clear hK15 K15
     refine zar (fun r => rfl) (fun c52 => ?_) (fun c52 => ?_)
     ·first
      |(exfalso; exact cnA c52; done)
      |skip
       (try replace c52 := yad c52)
       have hlt : (hs.length : Int) < cN res5 ∧ bad = false := by first | exact ⟨by assumption, by assumption⟩ | (simp_all; done) | (cases c52; done)
       refine zau ?_
       refine yab ?_
       refine hK14 _ _ ?_; try clear hK14 K14
       refine zac (fun K16 hK16 => ?_)
       refine zaB ?_
       obtain ⟨R13, hR13⟩ : ∃ R : Hp, R = emptyHp.upd b7 (.cells #[.int .i64 (opS L), .int .i64 (cN res1), .int .i64 (cN res2), .int .i64 (cN res3), .int .i64 (cN res4), .slice va hs.length vc] 24) := ⟨_, rfl⟩
       refine CW_drawR [0, 1, 0, 2, 2, 3, 0, 3] [0, 1, 2, 3, 4, 5, 6, 7] R13 (by kernel_rfl) (by kernel_rfl) (by subst hR13; exact le_put (zaN _) k7) (fun lR13 => ?_)
       apply zat rfl (zai (by decide)) rfl
       ·intro r
        simp only [zao, fa24_5, zaH, Nat.reduceAdd, Nat.zero_add, eX, ↓reduceIte, Nat.reduceEqDiff]
        exact ⟨rfl, Le.refl _⟩
       refine yaj ?_
       apply zaO rfl (zai (by decide)) rfl
       ·intro r
        refine yba ?_
        refine zae Try.underlying22 rfl hbA ldA ?_
        exact ⟨rfl, Le.refl _⟩
       refine yaj ?_
       apply zat rfl (zai (by decide)) rfl
       ·intro r
        refine yaI ?_
        exact ⟨rfl, Le.refl _⟩
       refine yaj ?_
       refine TW_chain rfl (zai (by decide)) rfl (fun K hK r => ?_)
       refine yck ?_
       refine (rcnt_ok G _ p _ _ hrd lG_ gp hBl (by omega)).mono ?_
       rintro v58 H58 ⟨res6, hq58, rfl, hr58, hk58⟩
       obtain ⟨hB58, hl58⟩ := hq58.byte hBl
       have lG58 : Le G H58 := hk58.le lG_ gp
       have lH58 : Le H H58 := Le.trans lHG lG58
       have k58_7 := hk58 b7 _ k7 n7p
       have lR5_58 : Le R5 H58 := by rw [hR5]; exact le_put (zaN _) (lG58 b4 _ g4)
       have lR58 : Le R13 H58 := by rw [hR13]; exact le_put (zaN _) k58_7
       have ho58 : OwnS H58 3 1 (.slice va hs.length vc) hs.length (i64s hs) rs := ho.stay (fun b o hb h => hk58 b o h (fun e => (hrs b hb).2.1 e))
       refine yaf ?_
       refine hK _ _ leA ?_; clear hK K
       refine TW_chain rfl (zai (by decide)) rfl (fun K hK r => ?_)
       refine yaT ?_
       refine zaJ (vs := [_]) Try.underlying22 sz3 zr3 rfl bsA (by first | decide | (simp; done)) ?_
       refine yaU ?_
       intro b59 hb59
       try have n59_b1 : b1 ≠ b59 := zaf hbA hb59
       try have n59_b2 : b2 ≠ b59 := zaf hbA hb59
       try have n59_b4 : b4 ≠ b59 := zaf hbA hb59
       try have n59_b26 : b26 ≠ b59 := zaf hbA hb59
       try have n59_b7 : b7 ≠ b59 := zaf hbA hb59
       have f59_H : H b59 = none := zag lhA hb59
       have f59_R5 : R5 b59 = none := zag lhA hb59
       have f59_R13 : R13 b59 = none := zag lhA hb59
       refine yaf ?_
       refine hK _ _ leA ?_; clear hK K
       refine TW_last rfl (zai (by decide)) rfl (fun K hK r => ?_)
       refine yaV ?_
       refine Lt_append Try.underlying22 Try.underlying22 (by simp) sz3 by3 (by decide) zr3 rfl _ (n := hs.length) (m := 1) (ds := [.int .i64 (cN res6)]) (ho58.make hb59) (len_slice _ _ _) (fun Kx => ?_) (by simp) plA (by omega) ?_
       ·refine (first_holds (w := 1) (n := 1) (cs := [.int .i64 (cN res6)]) ⟨rfl, .inr ⟨b59, 0, 1, _, _, _, rfl, hbA, by simp, by simp⟩⟩ (Nat.le_refl _) Kx).trans ?_
        rfl
       intro v60 H60 rs60 hg60 ho60 hr60
       obtain ⟨a60, c60, rfl⟩ := ho60.holds.form
       have g59 : G b59 = none := zag lG58 hb59
       have n59p : p ≠ b59 := fun e => by obtain ⟨_, _, h, _⟩ := hr58; rw [e, hb59] at h; cases h
       have n597 : b7 ≠ b59 := fun e => by rw [← e, k58_7] at hb59; cases hb59
       have k60_7 := hg60.known b7 _ ((zap _ _ n597).trans k58_7) (fun e => (hrs _ e).2.2 rfl)
       have lG60 : Le G H60 := hg60.le (H0 := G) (zaw lG58 g59) (fun r hr => (hrs r hr).1)
       have hr60p : RM G H60 p (rcL res6) res6.isNone := hr58.keep (fun o ho => hg60.known p o ((zap _ _ n59p).trans ho) (fun e => (hrs _ e).2.1 rfl))
       have hr60q : ∀ o, RM G (H60.upd b7 o) p (rcL res6) res6.isNone := fun o => hr60p.keep (fun o' ho => by rw [zap _ _ n7p.symm]; exact ho)
       have lG7 : ∀ o, Le G (H60.upd b7 o) := fun o => zaw lG60 gb7
       have hrs60 : ∀ r, rs60 = some r → G r = none ∧ r ≠ p ∧ r ≠ b7 := fun r e => (hr60 r e).elim (hrs r) (fun hn => ⟨zag (zaw lG58 g59) hn, (fun e => by obtain ⟨_, _, h, _⟩ := hr58; rw [e, zap _ _ n59p, h] at hn; cases hn), (fun e => by rw [e, zap _ _ n597, k58_7] at hn; cases hn)⟩)
       have hol : OwnS H60 3 1 (.slice a60 (hs ++ [cN res6]).length c60) (hs ++ [cN res6]).length (i64s (hs ++ [cN res6])) rs60 := by
        rw [List.length_append]
        have : i64s (hs ++ [cN res6]) = i64s hs ++ [.int .i64 (cN res6)] := by simp [i64s]
        rw [this]; exact ho60
       have hlessB := hq58.lessB hlt.2
       have hcon : (rcL res6).length + (hs.length + 1) ≤ 51 := by
        have h0 := hlessB
        rw [hlt.2] at hln
        simp only [Bool.false_eq_true, if_false] at hln
        by_cases h6 : res6.isNone = true
        ·have : rcL res6 = [] := by cases res6 with
          |none => rfl
          |some x => cases h6
         rw [this]; simp; omega
        ·rw [if_neg h6] at h0; omega
       refine hK _ _ ?_; clear hK K
       apply zat rfl (zai (by decide)) rfl
       ·intro r
        simp only [zao, fa24_5, zaH, Nat.reduceAdd, Nat.zero_add, eX, ↓reduceIte, Nat.reduceEqDiff]
        exact ⟨rfl, Le.refl _⟩
       refine yaj ?_
       refine TW_last rfl (zas) rfl (fun K hK r => ?_)
       refine yaD ?_
       refine zaE sz22 hbA bdA plA fzA ?_
       refine yaE ?_
       refine yaf ?_
       refine hK _ _ ?_; clear hK K
       refine TW_nil ?_
       refine yab ?_
       refine hK16 _ _ ?_; try clear hK16 K16
       refine zaa ?_
       refine zah rfl ?_
       refine zab (fun K hK r => ?_)
       refine yaq ?_
       refine hK _ _ ?_; clear hK K
       refine zaj rfl ?_
       refine zad ?_
       refine yab ?_
       obtain ⟨hlt1, hlt2⟩ := hlt
       subst hlt2
       simp only [Bool.false_eq_true, if_false] at hln ⊢
       refine ⟨(if res6.isNone = true then 0 else (rcL res6).length + 1), hlessB, hs ++ [cN res6], rcL res6, res6.isNone, a60, c60, rs60, rfl, ?_, hB58, hr60q _, lG7 _, by rw [List.length_append]; exact zan _ _ _, hol.upd (fun e => (hrs60 _ e).2.2 rfl), hrs60, hQ.nextC hlt1 hq58, hF.next hq58, by simp; omega, rfl, rfl, rfl, rfl, rfl, (by show some (Value.int _ _) = some (Value.int _ _); congr 2; simp), trivial⟩
       have h0 := hlessB
       have h1 := hcon
       by_cases h6 : res6.isNone = true
       ·rw [if_pos h6]; simpa using h1
       ·rw [if_neg h6] at h0 ⊢; simp; omega
     ·first
      |(exfalso; exact cnA c52; done)
      |skip
       (try replace c52 := yad c52)
       have hex : ¬ ((hs.length : Int) < cN res5 ∧ bad = false) := by
        rintro ⟨h1, h2⟩
        first | (exact g46 h1; done) | (simp_all; done) | omega
       refine CW_exit ?_
       refine yab ?_
       refine hK12 _ _ ?_; try clear hK12 K12
       refine zac (fun K17 hK17 => ?_)
       refine zac (fun K18 hK18 => ?_)
       refine zaa ?_
       refine zah rfl ?_
       refine zab (fun K hK r => ?_)
       simp only [zaF _ bd50, List.map_toArray, List.map_cons, List.map_nil, eX, ↓reduceIte, Nat.reduceEqDiff, Int.reduceToNat]
       refine (mByte_ok G _ p _ _ hrd lG_ gp hBl (by omega)).mono ?_
       rintro v63 H63 ⟨rfl, hr63, hk63⟩
       have lG63 : Le G H63 := hk63.le lG_ gp
       have lH63 : Le H H63 := Le.trans lHG lG63
       have k63_7 := hk63 b7 _ k7 n7p
       have k63_2 := lG63 b2 _ g2
       have k63_1 := lG63 b1 _ g1
       have ho63 : OwnS H63 3 1 (.slice va hs.length vc) hs.length (i64s hs) rs := ho.stay (fun b o hb h => hk63 b o h (fun e => (hrs b hb).2.1 e))
       refine yaf ?_
       refine hK _ _ ?_; clear hK K
       refine zab (fun K hK r => ?_)
       refine yak ?_
       refine hK _ _ ?_; clear hK K
       refine zah rfl ?_
       (first | refine zaA (d := 65) rfl (fun g65 => ?_) (fun g65 => ?_) | skip)
       all_goals try (exfalso; exact cnA g65)
       all_goals (try replace g65 := yad g65)
       all_goals
        refine yaf ?_
        first
        |refine yGT (fun K hK r => ?_)
         refine yai ?_
         refine hK _ _ ?_; clear hK K
        |refine yGF ?_
         refine yaj ?_
        first
        |refine yGT (fun K hK r => ?_)
         simp only [zaF _ bd51, List.map_toArray, List.map_cons, List.map_nil, eX, ↓reduceIte, Nat.reduceEqDiff, Int.reduceToNat]
         refine (mDone_ok G _ p _ _ hr63).mono ?_
         rintro v H' ⟨rfl, hq⟩
         have hq := hq.symm
         subst hq
         refine yaf ?_
         refine hK _ _ ?_; clear hK K
        |refine yGF ?_
         refine yaj ?_
        first
        |refine yGT (fun K hK r => ?_)
         refine yam ?_
         refine hK _ _ ?_; clear hK K
        |refine yGF ?_
         refine yaj ?_
        refine zab (fun K hK r => ?_)
        refine yal ?_
        refine hK _ _ ?_; clear hK K
        refine zah rfl ?_
        (first | refine zaA (d := 70) rfl (fun g70 => ?_) (fun g70 => ?_) | skip)
        all_goals try (exfalso; exact cnA g70)
        all_goals (try replace g70 := yad g70)
        all_goals
         refine yaf ?_
         first
         |refine yGT (fun K hK r => ?_)
          refine yap ?_
          first | refine zax Try.underlying24 rfl sz24 hbA bdA ?_ | refine zaq Try.underlying24 rfl sz24 hbA bdA ?_
          refine ybg ?_
          refine yaf ?_
          refine hK _ _ ?_; clear hK K
         |refine yGF ?_
          refine yaj ?_
         first
         |refine yGT (fun K hK r => ?_)
          simp only [zaF _ bd11, List.map_toArray, List.map_cons, List.map_nil, eX, ↓reduceIte, Nat.reduceEqDiff, Int.reduceToNat]
          refine (rGood_ok _ (Mf.mk (opS L) (cN res1) (cN res2) (cN res3) (cN res4) hs) va vc (ho63.holds) (by show hs.length ≤ _; omega)).mono ?_
          rintro v H' ⟨rfl, hq⟩
          have hq := hq.symm
          subst hq
          refine yaf ?_
          refine hK _ _ ?_; clear hK K
         |refine yGF ?_
          refine yaj ?_
         first
         |refine yGT (fun K hK r => ?_)
          refine yam ?_
          refine hK _ _ ?_; clear hK K
         |refine yGF ?_
          refine yaj ?_
         refine zab (fun K hK r => ?_)
         refine yal ?_
         refine hK _ _ ?_; clear hK K
         refine zad ?_
         refine yab ?_
         refine hK18 _ _ ?_; try clear hK18 K18
         refine zar (fun r => rfl) (fun c74 => ?_) (fun c74 => ?_)
         ·first
          |(exfalso; exact cnA c74; done)
          |skip
           skip
           refine zac (fun K19 hK19 => ?_)
           refine zaa ?_
           refine zab (fun K hK r => ?_)
           refine ycj ?_
           refine ybe ?_
           refine yaf ?_
           refine hK _ _ ?_; clear hK K
           refine zaI rfl (zas) (fun K hK r => ?_)
           refine yaD ?_
           first | refine zak sz24 bdA hbA bdA plA (by decide) ?_ | refine zal sz24 bdA hbA bdA plA (by decide) ?_
           refine yaf ?_
           refine hK _ _ ?_; clear hK K
           refine zaj rfl ?_
           refine zad ?_
           refine yab ?_
           refine hK19 _ _ ?_; try clear hK19 K19
           refine zaz ?_
           refine yab ?_
           have hnone : opM L = none := opM_none fun m hm hL => by
            obtain ⟨q1, q2⟩ := refNone hQ hex hm hL
            first
            |(rw [q1] at g65; exact g65 rfl)
            |(rw [q1] at g70; cases g70; done)
            |(rw [q2, Mf.good_iff.2 hm] at c74; cases c74; done)
           obtain ⟨e1, e2⟩ := opM_no hnone
           rw [e1, hnone]
           refine ⟨[_, _], ⟨⟨_, rfl, zaC Try.underlying24 rfl sz24 hbA bdA⟩, rfl, trivial⟩, _, Le.refl _, ?_, .slice none 0 0, none, ?_, OwnS.nil _ _ _, fun r hr => by cases hr⟩
           ·exact lhA
           ·rfl
         ·first
          |(exfalso; exact cnA c74; done)
          |skip
           skip
           refine zau ?_
           refine yab ?_
           refine hK17 _ _ ?_; try clear hK17 K17
           refine zac (fun K20 hK20 => ?_)
           refine zaa ?_
           refine zab (fun K hK r => ?_)
           refine yap ?_
           first | refine zax Try.underlying24 rfl sz24 hbA bdA ?_ | refine zaq Try.underlying24 rfl sz24 hbA bdA ?_
           refine ybg ?_
           refine yaf ?_
           refine hK _ _ ?_; clear hK K
           refine zaI rfl (zas) (fun K hK r => ?_)
           refine yaD ?_
           first | refine zak sz24 bdA hbA bdA plA (by decide) ?_ | refine zal sz24 bdA hbA bdA plA (by decide) ?_
           refine yaf ?_
           refine hK _ _ ?_; clear hK K
           refine zaj rfl ?_
           refine zad ?_
           refine yab ?_
           refine hK20 _ _ ?_; try clear hK20 K20
           refine zaz ?_
           refine yab ?_
           obtain ⟨g71, g72⟩ := g70
           have hl := one_byte g65 g71 g72
           have hbad : bad = false := by
            cases hb : bad with
            |false => rfl
            |true =>
             obtain ⟨_, _, _, _, _, h⟩ := hrd
             have := h hb
             rw [hl] at this; cases this
           have hgx : (Mf.mk (opS L) (cN res1) (cN res2) (cN res3) (cN res4) hs).good = true := by simpa using c74
           have hso := hF.end hopn hopk rfl hbad hl (fun h => hex ⟨h, hbad⟩) hmx hgx
           obtain ⟨e1, e2⟩ := opM_yes hso
           rw [e1, hso]
           refine ⟨[_, _], ⟨⟨_, rfl, zaC Try.underlying24 rfl sz24 hbA bdA⟩, rfl, trivial⟩, _, Le.refl _, ?_, .slice va hs.length vc, rs, ?_, ho63.upd (fun e => by have := (hrs _ e).1; rw [g2] at this; cases this), fun r e => zag lHG (hrs r e).1⟩
           ·exact lhA
           ·rfl
end Go.Proofs.Ytigofhhonnbkmaa.HL
end
section
namespace Go.Proofs.Ytigofhhonnbkmaa.HL
open Go Go.Proofs
set_option linter.unusedSimpArgs false
set_option linter.unusedVariables false
attribute [local irreducible] Lt Lq CW OW TW CallH
set_option maxRecDepth 100000 in
set_option maxHeartbeats 8000000 in
theorem rMSeal_ok (H : Hp) (m : Mf) (ma : Option Addr) (mc : Nat) (hm : Holds H 1 (.slice ma m.hd.length mc) m.hd.length (i64s m.hd)) (hml : m.hd.length ≤ 1000000) (hgd : m.good = true) : CallH Try.prog 16 #[.agg #[.int .i64 m.gen, .int .i64 m.ep, .int .i64 m.ba, .int .i64 m.ar, .int .i64 m.ln, .slice ma m.hd.length mc]] H (fun v H' => v = .agg (u8s m.sealB).toArray ∧ Le H H') := by
 refine zam (l := [_]) (rl := [.cell 2 30]) (n := 63) Try.func16 rfl rfl rfl rfl rfl ?_
 refine yaa ?_
 have hok := Mf.good_iff.1 hgd
 have hgg := hok.g; have hge := hok.e; have hgb := hok.b; have hga := hok.a; have hgl := hok.l; have hgn := hok.n
 have hsl := sealI_len m.gen 3 m.by_
 have hml36 := hok.len
 refine zac (fun K1 hK1 => ?_)
 refine zaa ?_
 refine zab (fun K hK r => ?_)
 refine yaW ?_
 intro b1 hb1
 have f1_H : H b1 = none := zag lhA hb1
 refine yaf ?_
 refine hK _ _ ?_; clear hK K
 refine zab (fun K hK r => ?_)
 refine yaX ?_
 intro b2 hb2
 try have n2_b1 : b1 ≠ b2 := zaf hbA hb2
 have f2_H : H b2 = none := zag lhA hb2
 obtain ⟨G, hG⟩ : ∃ G : Hp, G = ((H.upd b1 (.cells #[.int .i64 m.gen, .int .i64 m.ep, .int .i64 m.ba, .int .i64 m.ar, .int .i64 m.ln, .slice ma m.hd.length mc] 24)).upd b2 (.cells (Array.replicate 64 (.int .u8 0)) 30)) := ⟨_, rfl⟩
 have g1 : G b1 = some (.cells #[.int .i64 m.gen, .int .i64 m.ep, .int .i64 m.ba, .int .i64 m.ar, .int .i64 m.ln, .slice ma m.hd.length mc] 24) := by rw [hG]; exact hbA
 have g2 : G b2 = some (.cells (Array.replicate 64 (.int .u8 0)) 30) := by rw [hG]; exact hbA
 have lHG : Le H G := by rw [hG]; exact lhA
 refine yaf ?_
 refine hK _ _ ?_; clear hK K
 refine zad ?_
 refine yab ?_
 refine hK1 _ _ ?_; try clear hK1 K1
 refine zac (fun K2 hK2 => ?_)
 refine zaa ?_
 refine zab (fun K hK r => ?_)
 refine ybU ?_
 refine hK _ _ ?_; clear hK K
 refine zab (fun K hK r => ?_)
 refine yap ?_
 refine zae Try.underlying3 rfl hbA ldA ?_
 refine yaf ?_
 refine hK _ _ ?_; clear hK K
 refine zab (fun K hK r => ?_)
 refine ybn ?_
 rw [show Value.int IntKind.u64 m.ep = .int .u64 (((m.ep).toNat : Nat) : Int) from by congr 1; omega]
 refine hK _ _ ?_; clear hK K
 refine zab (fun K hK r => ?_)
 refine ycb ?_
 refine (rfCount_ok _ m.ep.toNat (by omega)).mono ?_
 rintro v10 H10 ⟨l10, rs10, ho10, hr10⟩
 obtain ⟨a10, c10, rfl⟩ := ho10.holds.form
 have hc10 := cnt_len10 (n := m.ep.toNat) (by omega)
 have lG10 : Le G H10 := by rw [hG]; exact l10
 have ac10 := ho10
 have gr10 : ∀ r, rs10 = some r → G r = none := by rw [hG]; exact hr10
 have k10_1 := lG10 b1 _ g1
 have lH10 : Le H H10 := Le.trans lHG lG10
 refine yaf ?_
 refine hK _ _ ?_; clear hK K
 refine zaj rfl ?_
 refine zad ?_
 refine yab ?_
 refine hK2 _ _ ?_; try clear hK2 K2
 refine zac (fun K3 hK3 => ?_)
 refine zaa ?_
 refine zah rfl ?_
 refine zab (fun K hK r => ?_)
 refine ybV ?_
 refine hK _ _ ?_; clear hK K
 refine zab (fun K hK r => ?_)
 refine yap ?_
 refine zae Try.underlying3 rfl hbA ldA ?_
 refine yaf ?_
 refine hK _ _ ?_; clear hK K
 refine zab (fun K hK r => ?_)
 refine ybn ?_
 rw [show Value.int IntKind.u64 m.ba = .int .u64 (((m.ba).toNat : Nat) : Int) from by congr 1; omega]
 refine hK _ _ ?_; clear hK K
 refine zab (fun K hK r => ?_)
 refine ycb ?_
 refine (rfCount_ok _ m.ba.toNat (by omega)).mono ?_
 rintro v15 H15 ⟨l15, rs15, ho15, hr15⟩
 obtain ⟨a15, c15, rfl⟩ := ho15.holds.form
 have hc15 := cnt_len10 (n := m.ba.toNat) (by omega)
 have lG15 : Le G H15 := Le.trans lG10 l15
 have ac15 := ac10.le l15
 have k15_1 := lG15 b1 _ g1
 have lH15 : Le H H15 := Le.trans lHG lG15
 refine yaf ?_
 refine hK _ _ ?_; clear hK K
 refine zab (fun K hK r => ?_)
 refine yaV ?_
 refine Lt_append Try.underlying80 Try.underlying80 (by simp) sz5 by5 (by decide) zr5 rfl _ (n := (cnt m.ep.toNat).length) (m := (cnt m.ba.toNat).length) (cs := u8s (cnt m.ep.toNat)) (ds := u8s (cnt m.ba.toNat)) ac15 (fun Kx => len_holds ho15.holds Kx) (fun Kx => first_slice ho15.holds Kx) (by simp) (PlainL.ints _ _) (by first | omega | (simp only [List.length_append] at *; omega)) ?_
 intro v16 H16 rs16 hg16 ho16 hr16
 have lG16 : Le G H16 := hg16.le (H0 := G) lG15 gr10
 have gr16 : ∀ r, rs16 = some r → G r = none := fun r e => (hr16 r e).elim (gr10 r) (fun hn => zag lG15 hn)
 have ac16 : OwnS H16 5 1 v16 ((cnt m.ep.toNat) ++ cnt m.ba.toNat).length (u8s ((cnt m.ep.toNat) ++ cnt m.ba.toNat)) rs16 := by
  rw [List.length_append, show u8s ((cnt m.ep.toNat) ++ cnt m.ba.toNat) = u8s (cnt m.ep.toNat) ++ u8s (cnt m.ba.toNat) from List.map_append]; exact ho16
 obtain ⟨z16, y16, rfl⟩ := ac16.holds.form
 have k16_1 := lG16 b1 _ g1
 have lH16 : Le H H16 := Le.trans lHG lG16
 refine hK _ _ ?_; clear hK K
 refine zaj rfl ?_
 refine zad ?_
 refine yab ?_
 refine hK3 _ _ ?_; try clear hK3 K3
 refine zac (fun K4 hK4 => ?_)
 refine zaa ?_
 refine zah rfl ?_
 refine zab (fun K hK r => ?_)
 refine ybW ?_
 refine hK _ _ ?_; clear hK K
 refine zab (fun K hK r => ?_)
 refine yap ?_
 refine zae Try.underlying3 rfl hbA ldA ?_
 refine yaf ?_
 refine hK _ _ ?_; clear hK K
 refine zab (fun K hK r => ?_)
 refine ybn ?_
 rw [show Value.int IntKind.u64 m.ar = .int .u64 (((m.ar).toNat : Nat) : Int) from by congr 1; omega]
 refine hK _ _ ?_; clear hK K
 refine zab (fun K hK r => ?_)
 refine ycb ?_
 refine (rfCount_ok _ m.ar.toNat (by omega)).mono ?_
 rintro v21 H21 ⟨l21, rs21, ho21, hr21⟩
 obtain ⟨a21, c21, rfl⟩ := ho21.holds.form
 have hc21 := cnt_len10 (n := m.ar.toNat) (by omega)
 have lG21 : Le G H21 := Le.trans lG16 l21
 have ac21 := ac16.le l21
 have k21_1 := lG21 b1 _ g1
 have lH21 : Le H H21 := Le.trans lHG lG21
 refine yaf ?_
 refine hK _ _ ?_; clear hK K
 refine zab (fun K hK r => ?_)
 refine yaV ?_
 refine Lt_append Try.underlying80 Try.underlying80 (by simp) sz5 by5 (by decide) zr5 rfl _ (n := (cnt m.ep.toNat ++ cnt m.ba.toNat).length) (m := (cnt m.ar.toNat).length) (cs := u8s (cnt m.ep.toNat ++ cnt m.ba.toNat)) (ds := u8s (cnt m.ar.toNat)) ac21 (fun Kx => len_holds ho21.holds Kx) (fun Kx => first_slice ho21.holds Kx) (by simp) (PlainL.ints _ _) (by first | omega | (simp only [List.length_append] at *; omega)) ?_
 intro v22 H22 rs22 hg22 ho22 hr22
 have lG22 : Le G H22 := hg22.le (H0 := G) lG21 gr16
 have gr22 : ∀ r, rs22 = some r → G r = none := fun r e => (hr22 r e).elim (gr16 r) (fun hn => zag lG21 hn)
 have ac22 : OwnS H22 5 1 v22 ((cnt m.ep.toNat ++ cnt m.ba.toNat) ++ cnt m.ar.toNat).length (u8s ((cnt m.ep.toNat ++ cnt m.ba.toNat) ++ cnt m.ar.toNat)) rs22 := by
  rw [List.length_append, show u8s ((cnt m.ep.toNat ++ cnt m.ba.toNat) ++ cnt m.ar.toNat) = u8s (cnt m.ep.toNat ++ cnt m.ba.toNat) ++ u8s (cnt m.ar.toNat) from List.map_append]; exact ho22
 obtain ⟨z22, y22, rfl⟩ := ac22.holds.form
 have k22_1 := lG22 b1 _ g1
 have lH22 : Le H H22 := Le.trans lHG lG22
 refine hK _ _ ?_; clear hK K
 refine zaj rfl ?_
 refine zad ?_
 refine yab ?_
 refine hK4 _ _ ?_; try clear hK4 K4
 refine zac (fun K5 hK5 => ?_)
 refine zaa ?_
 refine zah rfl ?_
 refine zab (fun K hK r => ?_)
 refine ybX ?_
 refine hK _ _ ?_; clear hK K
 refine zab (fun K hK r => ?_)
 refine yap ?_
 refine zae Try.underlying3 rfl hbA ldA ?_
 refine yaf ?_
 refine hK _ _ ?_; clear hK K
 refine zab (fun K hK r => ?_)
 refine ybn ?_
 rw [show Value.int IntKind.u64 m.ln = .int .u64 (((m.ln).toNat : Nat) : Int) from by congr 1; omega]
 refine hK _ _ ?_; clear hK K
 refine zab (fun K hK r => ?_)
 refine ycb ?_
 refine (rfCount_ok _ m.ln.toNat (by omega)).mono ?_
 rintro v27 H27 ⟨l27, rs27, ho27, hr27⟩
 obtain ⟨a27, c27, rfl⟩ := ho27.holds.form
 have hc27 := cnt_len10 (n := m.ln.toNat) (by omega)
 have lG27 : Le G H27 := Le.trans lG22 l27
 have ac27 := ac22.le l27
 have k27_1 := lG27 b1 _ g1
 have lH27 : Le H H27 := Le.trans lHG lG27
 refine yaf ?_
 refine hK _ _ ?_; clear hK K
 refine zab (fun K hK r => ?_)
 refine yaV ?_
 refine Lt_append Try.underlying80 Try.underlying80 (by simp) sz5 by5 (by decide) zr5 rfl _ (n := ((cnt m.ep.toNat ++ cnt m.ba.toNat) ++ cnt m.ar.toNat).length) (m := (cnt m.ln.toNat).length) (cs := u8s ((cnt m.ep.toNat ++ cnt m.ba.toNat) ++ cnt m.ar.toNat)) (ds := u8s (cnt m.ln.toNat)) ac27 (fun Kx => len_holds ho27.holds Kx) (fun Kx => first_slice ho27.holds Kx) (by simp) (PlainL.ints _ _) (by first | omega | (simp only [List.length_append] at *; omega)) ?_
 intro v28 H28 rs28 hg28 ho28 hr28
 have lG28 : Le G H28 := hg28.le (H0 := G) lG27 gr22
 have gr28 : ∀ r, rs28 = some r → G r = none := fun r e => (hr28 r e).elim (gr22 r) (fun hn => zag lG27 hn)
 have ac28 : OwnS H28 5 1 v28 (((cnt m.ep.toNat ++ cnt m.ba.toNat) ++ cnt m.ar.toNat) ++ cnt m.ln.toNat).length (u8s (((cnt m.ep.toNat ++ cnt m.ba.toNat) ++ cnt m.ar.toNat) ++ cnt m.ln.toNat)) rs28 := by
  rw [List.length_append, show u8s (((cnt m.ep.toNat ++ cnt m.ba.toNat) ++ cnt m.ar.toNat) ++ cnt m.ln.toNat) = u8s ((cnt m.ep.toNat ++ cnt m.ba.toNat) ++ cnt m.ar.toNat) ++ u8s (cnt m.ln.toNat) from List.map_append]; exact ho28
 obtain ⟨z28, y28, rfl⟩ := ac28.holds.form
 have k28_1 := lG28 b1 _ g1
 have lH28 : Le H H28 := Le.trans lHG lG28
 refine hK _ _ ?_; clear hK K
 refine zaj rfl ?_
 refine zad ?_
 refine yab ?_
 refine hK5 _ _ ?_; try clear hK5 K5
 refine zac (fun K6 hK6 => ?_)
 refine zaa ?_
 refine zah rfl ?_
 refine zab (fun K hK r => ?_)
 refine ybS ?_
 refine hK _ _ ?_; clear hK K
 refine zab (fun K hK r => ?_)
 refine yap ?_
 refine zae Try.underlying22 rfl hbA ldA ?_
 refine yaf ?_
 refine hK _ _ ?_; clear hK K
 refine zab (fun K hK r => ?_)
 refine ybt ?_
 refine hK _ _ ?_; clear hK K
 refine zab (fun K hK r => ?_)
 refine ybn ?_
 refine hK _ _ ?_; clear hK K
 refine zab (fun K hK r => ?_)
 refine ycb ?_
 refine (rfCount_ok _ m.hd.length (by omega)).mono ?_
 rintro v34 H34 ⟨l34, rs34, ho34, hr34⟩
 obtain ⟨a34, c34, rfl⟩ := ho34.holds.form
 have hc34 := cnt_len10 (n := m.hd.length) (by omega)
 have lG34 : Le G H34 := Le.trans lG28 l34
 have ac34 := ac28.le l34
 have k34_1 := lG34 b1 _ g1
 have lH34 : Le H H34 := Le.trans lHG lG34
 refine yaf ?_
 refine hK _ _ ?_; clear hK K
 refine zab (fun K hK r => ?_)
 refine yaV ?_
 refine Lt_append Try.underlying80 Try.underlying80 (by simp) sz5 by5 (by decide) zr5 rfl _ (n := (((cnt m.ep.toNat ++ cnt m.ba.toNat) ++ cnt m.ar.toNat) ++ cnt m.ln.toNat).length) (m := (cnt m.hd.length).length) (cs := u8s (((cnt m.ep.toNat ++ cnt m.ba.toNat) ++ cnt m.ar.toNat) ++ cnt m.ln.toNat)) (ds := u8s (cnt m.hd.length)) ac34 (fun Kx => len_holds ho34.holds Kx) (fun Kx => first_slice ho34.holds Kx) (by simp) (PlainL.ints _ _) (by first | omega | (simp only [List.length_append] at *; omega)) ?_
 intro v35 H35 rs35 hg35 ho35 hr35
 have lG35 : Le G H35 := hg35.le (H0 := G) lG34 gr28
 have gr35 : ∀ r, rs35 = some r → G r = none := fun r e => (hr35 r e).elim (gr28 r) (fun hn => zag lG34 hn)
 have ac35 : OwnS H35 5 1 v35 ((((cnt m.ep.toNat ++ cnt m.ba.toNat) ++ cnt m.ar.toNat) ++ cnt m.ln.toNat) ++ cnt m.hd.length).length (u8s ((((cnt m.ep.toNat ++ cnt m.ba.toNat) ++ cnt m.ar.toNat) ++ cnt m.ln.toNat) ++ cnt m.hd.length)) rs35 := by
  rw [List.length_append, show u8s ((((cnt m.ep.toNat ++ cnt m.ba.toNat) ++ cnt m.ar.toNat) ++ cnt m.ln.toNat) ++ cnt m.hd.length) = u8s (((cnt m.ep.toNat ++ cnt m.ba.toNat) ++ cnt m.ar.toNat) ++ cnt m.ln.toNat) ++ u8s (cnt m.hd.length) from List.map_append]; exact ho35
 obtain ⟨z35, y35, rfl⟩ := ac35.holds.form
 have k35_1 := lG35 b1 _ g1
 have lH35 : Le H H35 := Le.trans lHG lG35
 refine hK _ _ ?_; clear hK K
 refine zaj rfl ?_
 refine zad ?_
 refine yab ?_
 refine hK6 _ _ ?_; try clear hK6 K6
 refine zac (fun K7 hK7 => ?_)
 refine zac (fun K8 hK8 => ?_)
 refine zaa ?_
 refine zaj rfl ?_
 refine zad ?_
 refine yab ?_
 refine hK8 _ _ ?_; try clear hK8 K8
 refine zaB ?_
 refine CW_loop (fun m_ e H_ => ∃ (k : Nat) (va : Option Addr) (vc : Nat) (rs : Option Nat), k ≤ m.hd.length ∧ m_ = m.hd.length - k ∧ OwnS H_ 5 1 (.slice va (((((cnt m.ep.toNat ++ cnt m.ba.toNat) ++ cnt m.ar.toNat) ++ cnt m.ln.toNat) ++ cnt m.hd.length) ++ cnts (m.hd.take k)).length vc) (((((cnt m.ep.toNat ++ cnt m.ba.toNat) ++ cnt m.ar.toNat) ++ cnt m.ln.toNat) ++ cnt m.hd.length) ++ cnts (m.hd.take k)).length (u8s (((((cnt m.ep.toNat ++ cnt m.ba.toNat) ++ cnt m.ar.toNat) ++ cnt m.ln.toNat) ++ cnt m.hd.length) ++ cnts (m.hd.take k))) rs ∧ Le G H_ ∧ (∀ r, rs = some r → G r = none) ∧ Env.has [(1, .pointer (some ⟨b1, 0, none⟩)), (2, .pointer (some ⟨b2, 0, none⟩)), (3, .slice va (((((cnt m.ep.toNat ++ cnt m.ba.toNat) ++ cnt m.ar.toNat) ++ cnt m.ln.toNat) ++ cnt m.hd.length) ++ cnts (m.hd.take k)).length vc), (4, .int .i64 k)] e) (m.hd.length) ?_ ?_
 ·skip
  have e0 : ((((cnt m.ep.toNat ++ cnt m.ba.toNat) ++ cnt m.ar.toNat) ++ cnt m.ln.toNat) ++ cnt m.hd.length) ++ cnts (m.hd.take 0) = (((cnt m.ep.toNat ++ cnt m.ba.toNat) ++ cnt m.ar.toNat) ++ cnt m.ln.toNat) ++ cnt m.hd.length := by simp [cnts]
  exact ⟨0, z35, y35, rs35, by omega, by omega, by rw [e0]; exact ac35, lG35, gr35, rfl, rfl, by rw [e0]; rfl, rfl, trivial⟩
 intro m_ e_ H_ hI_
 obtain ⟨k, va, vc, rs, hk, rfl, ac_, lG_, gr_, he⟩ := hI_
 refine CW_env he.sub ?_; clear he e_
 have k_1 := lG_ b1 _ g1
 have k_2 := lG_ b2 _ g2
 have lH_ : Le H H_ := Le.trans lHG lG_
 have hck : (cnts (m.hd.take k)).length ≤ 20 := by
  have := cnts_small (l := m.hd.take k) (fun x hx => hok.h x (List.mem_of_mem_take hx))
  rw [List.length_take] at this
  omega
 refine zac (fun K9 hK9 => ?_)
 refine zac (fun K10 hK10 => ?_)
 refine zaa ?_
 refine zah rfl ?_
 refine zab (fun K hK r => ?_)
 refine ybS ?_
 refine hK _ _ ?_; clear hK K
 refine zab (fun K hK r => ?_)
 refine yap ?_
 refine zae Try.underlying22 rfl hbA ldA ?_
 refine yaf ?_
 refine hK _ _ ?_; clear hK K
 refine zab (fun K hK r => ?_)
 refine ybt ?_
 refine hK _ _ ?_; clear hK K
 refine zab (fun K hK r => ?_)
 refine yac ?_
 refine hK _ _ ?_; clear hK K
 refine zad ?_
 refine yab ?_
 refine hK10 _ _ ?_; try clear hK10 K10
 refine zar (fun r => rfl) (fun c40 => ?_) (fun c40 => ?_)
 ·first
  |(exfalso; exact cnA c40; done)
  |skip
   (try replace c40 := yad c40)
   obtain ⟨bw, ow, qw, Tw, Fw, rfl, hbw, hsw, atw⟩ := (hm.le lH_).at (by omega)
   try have n_bw_b1 : bw ≠ b1 := zaf hbw f1_H
   try have n_bw_b2 : bw ≠ b2 := zaf hbw f2_H
   have hxk := hok.h (m.hd.getD k 0) (by rw [List.getD_eq_getElem?_getD, List.getElem?_eq_getElem (by omega)]; exact List.getElem_mem _)
   refine zau ?_
   refine yab ?_
   refine hK9 _ _ ?_; try clear hK9 K9
   refine zac (fun K11 hK11 => ?_)
   refine zaB ?_
   refine zaa ?_
   refine zah rfl ?_
   refine zab (fun K hK r => ?_)
   refine ybS ?_
   refine hK _ _ ?_; clear hK K
   refine zab (fun K hK r => ?_)
   refine yap ?_
   refine zae Try.underlying22 rfl hbA ldA ?_
   refine yaf ?_
   refine hK _ _ ?_; clear hK K
   refine zah rfl ?_
   refine zab (fun K hK r => ?_)
   refine yaw ?_
   refine Lt_indexS Try.underlying22 sz3 ixA ixA ?_
   refine yax ?_
   refine yaf ?_
   refine hK _ _ ?_; clear hK K
   refine zab (fun K hK r => ?_)
   refine yap ?_
   refine zae Try.underlying3 rfl hbA (v := .int .i64 (m.hd.getD k 0)) (by first | exact ints_at atw rfl _ (by omega) | (simp only [Int.toNat_natCast, Nat.mul_one]; exact ints_at atw rfl _ (by omega))) ?_
   refine hK _ _ ?_; clear hK K
   refine zab (fun K hK r => ?_)
   refine ybn ?_
   rw [show Value.int IntKind.u64 (m.hd.getD k 0) = .int .u64 ((((m.hd.getD k 0)).toNat : Nat) : Int) from by congr 1; omega]
   refine hK _ _ ?_; clear hK K
   refine zab (fun K hK r => ?_)
   refine ycb ?_
   refine (rfCount_ok _ (m.hd.getD k 0).toNat (by omega)).mono ?_
   rintro v50 H50 ⟨l50, rs50, ho50, hr50⟩
   obtain ⟨a50, c50, rfl⟩ := ho50.holds.form
   have hc50 := cnt_len10 (n := (m.hd.getD k 0).toNat) (by omega)
   have lG50 : Le G H50 := Le.trans lG_ l50
   have ac50 := ac_.le l50
   have k50_1 := lG50 b1 _ g1
   have lH50 : Le H H50 := Le.trans lHG lG50
   refine yaf ?_
   refine hK _ _ ?_; clear hK K
   refine zab (fun K hK r => ?_)
   refine yaV ?_
   refine Lt_append Try.underlying80 Try.underlying80 (by simp) sz5 by5 (by decide) zr5 rfl _ (n := (((((cnt m.ep.toNat ++ cnt m.ba.toNat) ++ cnt m.ar.toNat) ++ cnt m.ln.toNat) ++ cnt m.hd.length) ++ cnts (m.hd.take k)).length) (m := (cnt (m.hd.getD k 0).toNat).length) (cs := u8s (((((cnt m.ep.toNat ++ cnt m.ba.toNat) ++ cnt m.ar.toNat) ++ cnt m.ln.toNat) ++ cnt m.hd.length) ++ cnts (m.hd.take k))) (ds := u8s (cnt (m.hd.getD k 0).toNat)) ac50 (fun Kx => len_holds ho50.holds Kx) (fun Kx => first_slice ho50.holds Kx) (by simp) (PlainL.ints _ _) (by first | omega | (simp only [List.length_append] at *; omega)) ?_
   intro v51 H51 rs51 hg51 ho51 hr51
   have lG51 : Le G H51 := hg51.le (H0 := G) lG50 gr_
   have gr51 : ∀ r, rs51 = some r → G r = none := fun r e => (hr51 r e).elim (gr_ r) (fun hn => zag lG50 hn)
   have ac51 : OwnS H51 5 1 v51 ((((((cnt m.ep.toNat ++ cnt m.ba.toNat) ++ cnt m.ar.toNat) ++ cnt m.ln.toNat) ++ cnt m.hd.length) ++ cnts (m.hd.take k)) ++ cnt (m.hd.getD k 0).toNat).length (u8s ((((((cnt m.ep.toNat ++ cnt m.ba.toNat) ++ cnt m.ar.toNat) ++ cnt m.ln.toNat) ++ cnt m.hd.length) ++ cnts (m.hd.take k)) ++ cnt (m.hd.getD k 0).toNat)) rs51 := by
    rw [List.length_append, show u8s ((((((cnt m.ep.toNat ++ cnt m.ba.toNat) ++ cnt m.ar.toNat) ++ cnt m.ln.toNat) ++ cnt m.hd.length) ++ cnts (m.hd.take k)) ++ cnt (m.hd.getD k 0).toNat) = u8s (((((cnt m.ep.toNat ++ cnt m.ba.toNat) ++ cnt m.ar.toNat) ++ cnt m.ln.toNat) ++ cnt m.hd.length) ++ cnts (m.hd.take k)) ++ u8s (cnt (m.hd.getD k 0).toNat) from List.map_append]; exact ho51
   obtain ⟨z51, y51, rfl⟩ := ac51.holds.form
   have k51_1 := lG51 b1 _ g1
   have lH51 : Le H H51 := Le.trans lHG lG51
   refine hK _ _ ?_; clear hK K
   refine zaj rfl ?_
   refine zad ?_
   refine yab ?_
   refine hK11 _ _ ?_; try clear hK11 K11
   refine zaa ?_
   refine zah rfl ?_
   refine zab (fun K hK r => ?_)
   refine yaq ?_
   refine hK _ _ ?_; clear hK K
   refine zaj rfl ?_
   refine zad ?_
   refine yab ?_
   have ek : ((((cnt m.ep.toNat ++ cnt m.ba.toNat) ++ cnt m.ar.toNat) ++ cnt m.ln.toNat) ++ cnt m.hd.length) ++ cnts (m.hd.take (k + 1)) = (((((cnt m.ep.toNat ++ cnt m.ba.toNat) ++ cnt m.ar.toNat) ++ cnt m.ln.toNat) ++ cnt m.hd.length) ++ cnts (m.hd.take k)) ++ cnt (m.hd.getD k 0).toNat := by rw [cnts_snoc (by omega), List.append_assoc (_ ++ cnt m.hd.length)]
   exact ⟨m.hd.length - (k + 1), by omega, k + 1, z51, y51, rs51, by omega, rfl, by rw [ek]; exact ac51, lG51, gr51, rfl, rfl, by rw [ek]; rfl, rfl, trivial⟩
 ·first
  |(exfalso; exact cnA c40; done)
  |skip
   (try replace c40 := yad c40)
   obtain rfl : k = m.hd.length := by omega
   refine CW_exit ?_
   refine yab ?_
   refine hK7 _ _ ?_; try clear hK7 K7
   refine zac (fun K12 hK12 => ?_)
   obtain ⟨R10, hR10⟩ : ∃ R : Hp, R = emptyHp.upd b1 (.cells #[.int .i64 m.gen, .int .i64 m.ep, .int .i64 m.ba, .int .i64 m.ar, .int .i64 m.ln, .slice ma m.hd.length mc] 24) := ⟨_, rfl⟩
   refine CW_drawR [0, 1, 0, 2, 2, 0, 2, 0, 0, 0, 4, 3, 0] [0, 1, 2, 3, 4, 5, 6, 7, 8, 9, 10, 11, 12] R10 (by kernel_rfl) (by kernel_rfl) (by subst hR10; exact le_put (zaN _) k_1) (fun lR10 => ?_)
   apply zat rfl (zai (by decide)) rfl
   ·intro r
    simp only [zao, fa24_0, zaH, Nat.reduceAdd, Nat.zero_add, eX, ↓reduceIte, Nat.reduceEqDiff]
    exact ⟨rfl, Le.refl _⟩
   refine yaj ?_
   apply zaO rfl (zai (by decide)) rfl
   ·intro r
    refine yba ?_
    refine zae Try.underlying3 rfl hbA ldA ?_
    exact ⟨rfl, Le.refl _⟩
   refine yaj ?_
   apply zat rfl (zai (by decide)) rfl
   ·intro r
    refine yaI ?_
    exact ⟨rfl, Le.refl _⟩
   refine yaj ?_
   refine TW_chain rfl (zai (by decide)) rfl (fun K hK r => ?_)
   refine yaT ?_
   refine zaJ (vs := [_]) Try.underlying80 sz5 zr5 rfl bsA (by first | decide | (simp; done)) ?_
   refine yaU ?_
   intro b56 hb56
   try have n56_b1 : b1 ≠ b56 := zaf hbA hb56
   try have n56_b2 : b2 ≠ b56 := zaf hbA hb56
   have f56_H : H b56 = none := zag lhA hb56
   have f56_R10 : R10 b56 = none := zag lhA hb56
   refine yaf ?_
   refine hK _ _ leA ?_; clear hK K
   refine TW_chain rfl (zai (by decide)) rfl (fun K hK r => ?_)
   refine yaV ?_
   refine Lt_append Try.underlying80 Try.underlying80 (by simp) sz5 by5 (by decide) zr5 rfl _ (n := (((((cnt m.ep.toNat ++ cnt m.ba.toNat) ++ cnt m.ar.toNat) ++ cnt m.ln.toNat) ++ cnt m.hd.length) ++ cnts (m.hd.take m.hd.length)).length) (m := 1) (cs := u8s (((((cnt m.ep.toNat ++ cnt m.ba.toNat) ++ cnt m.ar.toNat) ++ cnt m.ln.toNat) ++ cnt m.hd.length) ++ cnts (m.hd.take m.hd.length))) (ds := [.int .u8 77]) (ac_.make hb56) (len_slice _ _ _) (fun Kx => ?_) (by simp) plA (by first | omega | (simp only [List.length_append] at *; omega)) ?_
   ·refine (first_holds (w := 1) (n := 1) (cs := [.int .u8 77]) ⟨rfl, .inr ⟨b56, 0, 1, _, _, _, rfl, hbA, by simp, by simp⟩⟩ (Nat.le_refl _) Kx).trans ?_
    rfl
   intro v57 H57 rs57 hg57 ho57 hr57
   have lG57 : Le G H57 := hg57.le (H0 := G) (zaw lG_ (zag lG_ hb56)) gr_
   have e57 : m.by_ = (((((cnt m.ep.toNat ++ cnt m.ba.toNat) ++ cnt m.ar.toNat) ++ cnt m.ln.toNat) ++ cnt m.hd.length) ++ cnts (m.hd.take m.hd.length)) ++ [77] := by
    rw [m.by_eq, List.take_length]
    simp only [List.append_assoc]
   have h57 : Holds H57 1 v57 m.by_.length (u8s m.by_) := by
    rw [e57, List.length_append, show u8s ((((((cnt m.ep.toNat ++ cnt m.ba.toNat) ++ cnt m.ar.toNat) ++ cnt m.ln.toNat) ++ cnt m.hd.length) ++ cnts (m.hd.take m.hd.length)) ++ [77]) = u8s (((((cnt m.ep.toNat ++ cnt m.ba.toNat) ++ cnt m.ar.toNat) ++ cnt m.ln.toNat) ++ cnt m.hd.length) ++ cnts (m.hd.take m.hd.length)) ++ [.int .u8 77] from List.map_append]
    exact ho57.holds
   obtain ⟨z57, y57, rfl⟩ := h57.form
   have k57_1 := lG57 b1 _ g1
   have k57_2 := lG57 b2 _ g2
   have lH57 : Le H H57 := Le.trans lHG lG57
   have lR57 : Le R10 H57 := by rw [hR10]; exact le_put (zaN _) k57_1
   refine hK _ _ leA ?_; clear hK K
   apply zat rfl (zai (by decide)) rfl
   ·intro r
    simp only [x_build, bp102, List.map_toArray, List.map_cons, List.map_nil, eX, ↓reduceIte, Nat.reduceEqDiff]
    rw [fill_one rfl clA bdA]
    rw [fill_one rfl clA bdA]
    rw [fill_one rfl clA bdA]
    refine ybe ?_
    exact ⟨rfl, Le.refl _⟩
   refine yaj ?_
   refine TW_chain rfl (zai (by decide)) rfl (fun K hK r => ?_)
   simp only [zaF _ bd47, List.map_toArray, List.map_cons, List.map_nil, eX, ↓reduceIte, Nat.reduceEqDiff, Int.reduceToNat]
   refine (rSeal_ok _ m.gen 3 _ m.by_ h57).mono ?_
   rintro v H' ⟨rfl, hq⟩
   have hq := hq.symm
   subst hq
   refine yaf ?_
   refine hK _ _ leA ?_; clear hK K
   apply zat rfl (zai (by decide)) rfl
   ·intro r
    refine yaI ?_
    exact ⟨rfl, Le.refl _⟩
   refine yaj ?_
   apply zat rfl (zai (by decide)) rfl
   ·intro r
    refine ybC ?_
    exact ⟨rfl, Le.refl _⟩
   refine yaj ?_
   apply zat rfl (zai (by decide)) rfl
   ·intro r
    refine ybC ?_
    exact ⟨rfl, Le.refl _⟩
   refine yaj ?_
   refine TW_make rfl (zai (by decide)) rfl (fun K hK r => ?_)
   refine yaX ?_
   intro b5 hb5
   try have n5_b1 : b1 ≠ b5 := zaf hbA hb5
   try have n5_b2 : b2 ≠ b5 := zaf hbA hb5
   try have n5_b56 : b56 ≠ b5 := zaf hbA hb5
   have f5_H : H b5 = none := zag lhA hb5
   have f5_R10 : R10 b5 = none := zag lhA hb5
   refine yaf ?_
   refine hK _ _ ?_; clear hK K
   refine TW_last rfl (zas) rfl (fun K hK r => ?_)
   refine yaD ?_
   first | refine zak sz30 bdA hbA bdA plA (by decide) ?_ | refine zal sz30 bdA hbA bdA plA (by decide) ?_
   refine yaf ?_
   refine hK _ _ ?_; clear hK K
   apply zat rfl (zai (by decide)) rfl
   ·intro r
    simp only [x_assign, eX, ↓reduceIte, Nat.reduceEqDiff]
    exact ⟨rfl, Le.refl _⟩
   refine yaj ?_
   refine TW_nil ?_
   refine yab ?_
   refine hK12 _ _ ?_; try clear hK12 K12
   refine zac (fun K13 hK13 => ?_)
   refine zaa ?_
   refine zab (fun K hK r => ?_)
   refine yap ?_
   first | refine zax Try.underlying30 rfl sz30 hbA bdA ?_ | refine zaq Try.underlying30 rfl sz30 hbA bdA ?_
   refine yaf ?_
   refine hK _ _ ?_; clear hK K
   refine zaI rfl (zas) (fun K hK r => ?_)
   refine yaD ?_
   first | refine zak sz30 bdA hbA bdA plA (by decide) ?_ | refine zal sz30 bdA hbA bdA plA (by decide) ?_
   refine yaf ?_
   refine hK _ _ ?_; clear hK K
   refine zad ?_
   refine yab ?_
   refine hK13 _ _ ?_; try clear hK13 K13
   refine zaz ?_
   refine yab ?_
   refine ⟨[_], ⟨⟨_, rfl, zaC Try.underlying30 rfl sz30 hbA bdA⟩, trivial⟩, _, Le.refl _, ?_, lhA⟩
   unfold Mf.sealB
   rw [if_pos hgd]
   rfl
end Go.Proofs.Ytigofhhonnbkmaa.HL
end
section
namespace Go.Proofs.Ytigofhhonnbkmaa.HL
open Go Go.Proofs
set_option linter.unusedSimpArgs false
set_option linter.unusedVariables false
attribute [local irreducible] Lt Lq CW OW TW CallH
theorem opMe_some (L : List Int) : (opM L).isSome = (opMe L).isNone := by
  cases h : opM L with
  | none => rw [(opM_no h).2]; rfl
  | some m => rw [(opM_yes h).2]; rfl
end Go.Proofs.Ytigofhhonnbkmaa.HL
end
section
namespace Go.Proofs.Ytigofhhonnbkmaa.HL
open Go Go.Proofs
set_option linter.unusedSimpArgs false
set_option linter.unusedVariables false
attribute [local irreducible] Lt Lq CW OW TW CallH
theorem rd_byte {s : St} (h : ∀ z, ByteL (s.r0 z).b) (i : Int) : ByteL (s.rd 0 i).1.b := by
  unfold St.rd
  split
  · exact zero_byte
  split
  · exact h i
  · exact zero_byte
structure BS (s : St) : Prop where
  su : ∀ z, ByteL ((s.dv.getD 0 default).sure z).b
  wa : ∀ w ∈ (s.dv.getD 0 default).wait, ByteL w.x.b
theorem lastW_mem {ws : List Wt} {i : Int} {x : Sec} : lastW ws i = some x → ∃ w ∈ ws, w.x = x := by
  induction ws with
  | nil => intro h; cases h
  | cons v r ih =>
    intro h
    have h' : (match lastW r i with | some x => some x | none => if v.at_ = i then some v.x else none) = some x := h
    cases hr : lastW r i with
    | some y =>
      rw [hr] at h'
      obtain ⟨w, h1, h2⟩ := ih (by rw [hr]; exact h')
      exact ⟨w, List.mem_cons_of_mem _ h1, h2⟩
    | none =>
      rw [hr] at h'
      by_cases e : v.at_ = i
      · simp only [if_pos e] at h'
        exact ⟨v, by simp, by injection h'⟩
      · simp only [if_neg e] at h'
        cases h'
theorem BS.rd {s : St} (h : BS s) (z : Int) : ByteL (s.rd 0 z).1.b := rd_byte (fun z => by
  unfold St.r0 Dv.read
  cases hl : lastW (s.dv.getD 0 default).wait z with
  | none => exact h.su z
  | some x =>
    obtain ⟨w, h1, h2⟩ := lastW_mem hl
    rw [Option.getD_some, ← h2]
    exact h.wa w h1) z
theorem BS.congr {s t : St} (h : BS s) (e : t.dv = s.dv) : BS t := ⟨by rw [e]; exact h.su, by rw [e]; exact h.wa⟩
theorem BS.dev {s t : St} (h : BS s) {d : Dv} (e : t.dv = s.dv.set 0 d) (h1 : ∀ z, ByteL (d.sure z).b) (h2 : ∀ w ∈ d.wait, ByteL w.x.b) : BS t := by
  by_cases hl : 0 < s.dv.length
  · have hd : t.dv.getD 0 default = d := by rw [e, getD_set, if_pos ⟨rfl, hl⟩]
    exact ⟨by rw [hd]; exact h1, by rw [hd]; exact h2⟩
  · have hd : t.dv.getD 0 default = s.dv.getD 0 default := by rw [e, getD_set, if_neg (fun hh => hl hh.2)]
    exact ⟨by rw [hd]; exact h.su, by rw [hd]; exact h.wa⟩
theorem BS.wr {s : St} (h : BS s) (z : Int) {x : Sec} (hx : ByteL x.b) : BS (s.wr 0 z x).1 := by
  rcases wr_cases s 0 z x with ⟨e, _⟩ | ⟨e, _⟩ | ⟨e, _⟩
  · rw [e]; exact h
  · rw [e]; exact h.congr (step_dv s)
  · rw [e]
    refine h.dev (d := (s.dv.getD 0 default).put ⟨z, x⟩) rfl h.su (fun w hw => ?_)
    rcases List.mem_append.1 hw with hm | hm
    · exact h.wa w hm
    · simp at hm; subst hm; exact hx
theorem torn_bytes {x old : Sec} {t : Int} (h1 : ByteL x.b) (h2 : ByteL old.b) : ByteL (torn x old t).b := by
  unfold torn
  split
  · intro b hb
    rcases List.mem_append.1 hb with hb | hb
    · exact h1 b (List.mem_of_mem_take hb)
    · exact h2 b (List.mem_of_mem_drop hb)
  · exact h1
theorem BS.stN {ws : List Wt} {s0 : Int → Sec} (h1 : ∀ z, ByteL (s0 z).b) (h2 : ∀ w ∈ ws, ByteL w.x.b) (kept : Nat → Option Int) : ∀ n, n ≤ ws.length → ∀ z, ByteL (Go.Proofs.Ytigofhhonnbkmaa.HL.stN kept ws s0 n z).b
  | 0, _, z => h1 z
  | n + 1, hn, z => by
    have ih := BS.stN h1 h2 kept n (by omega)
    have hm : ws.getD n default ∈ ws := by
      rw [List.getD_eq_getElem?_getD, List.getElem?_eq_getElem (by omega)]; exact List.getElem_mem _
    show ByteL ((match kept n with | none => Go.Proofs.Ytigofhhonnbkmaa.HL.stN kept ws s0 n | some t => _) z).b
    cases hk : kept n with
    | none => exact ih z
    | some t =>
      simp only
      split
      · exact torn_bytes (h2 _ hm) (ih _)
      · exact ih z
theorem BS.fl {s : St} (h : BS s) : BS (s.fl 0).1 := by
  rcases fl_cases s 0 with ⟨e, _⟩ | ⟨e, _⟩ | ⟨e, _⟩
  · rw [e]; exact h
  · rw [e]; exact h.congr (step_dv s)
  · rw [e]
    exact h.dev (d := (s.dv.getD 0 default).settle (fun _ => some 0)) rfl (fun z => BS.stN h.su h.wa _ _ (Nat.le_refl _) z) (fun w hw => by simp [Dv.settle] at hw)
theorem BS.cr {s : St} (h : BS s) (l : List Kp) (hl : 0 < s.dv.length) : BS (s.cr l) := by
  have hd : (s.cr l).dv.getD 0 default = (s.dv.getD 0 default).settle (fun n => keepOf l (0 : Nat) n) := by
    simp [St.cr, List.getD_eq_getElem?_getD, List.getElem?_mapIdx, List.getElem?_eq_getElem hl]
  exact ⟨by rw [hd]; exact fun z => BS.stN h.su h.wa _ _ (Nat.le_refl _) z, by rw [hd]; exact fun w hw => by simp [Dv.settle] at hw⟩
theorem BS.newL (l : List Int) : BS (newSt l) := by
  have : (newSt l).dv.getD 0 default = newDv (l.getD 0 0) ∨ (newSt l).dv.getD 0 default = default := by
    cases l with
    | nil => exact .inr rfl
    | cons x r => exact .inl rfl
  rcases this with e | e
  · exact ⟨by rw [e]; exact fun z => zero_byte, by rw [e]; exact fun w hw => by simp [newDv] at hw⟩
  · exact ⟨by rw [e]; exact fun z => zero_byte, by rw [e]; exact fun w hw => by cases hw⟩
theorem BS.saveM {s : St} (h : BS s) (m : Mf) : BS (s.saveM m).1 := by
  rcases s.saveM_cases m with e | e | e | e <;> rw [e]
  · exact h
  · exact h
  · exact h.wr _ m.seal_byte
  · exact (h.wr _ m.seal_byte).fl
theorem wr_err (s : St) (dev i : Int) (x : Sec) : errOk (s.wr dev i x).2 := fun k hk => by
  rcases wr_cases s dev i x with ⟨_, e, _⟩ | ⟨_, e, _⟩ | ⟨_, e, _⟩ <;> rw [e] at hk <;> cases hk <;> decide
theorem fl_err (s : St) (dev : Int) : errOk (s.fl dev).2 := fun k hk => by
  rcases fl_cases s dev with ⟨_, e, _⟩ | ⟨_, e, _⟩ | ⟨_, e, _⟩ <;> rw [e] at hk <;> cases hk <;> decide
theorem saveM_errOk (s : St) (m : Mf) : errOk (s.saveM m).2 := by
  rcases s.saveM_cases m with e | e | e | e <;> rw [e]
  · exact fun k hk => by cases hk; decide
  · exact fun k hk => by cases hk; decide
  · exact wr_err _ _ _ _
  · exact fl_err _ _
theorem loadM_err (s : St) : errOk s.loadM.2 := fun k hk => by
  unfold St.loadM at hk
  split at hk
  · cases hk; decide
  split at hk
  · cases hk; decide
  split at hk
  · cases hk; decide
  · cases hk
theorem bestN_small (s : St) : ∀ k, (s.bestN k).hd.length ≤ 4
  | 0 => by simp [St.bestN]
  | k + 1 => by
    show (HL.pick (s.bestN k) _ _).hd.length ≤ 4
    unfold HL.pick
    split
    · cases h : opM (s.rd 0 k).1.b with
      | none => rw [(opM_no h).1]; simp
      | some m => rw [(opM_yes h).1]; exact_mod_cast (opM_of h).1.n.2
    · exact bestN_small s k
theorem loadM_small (s : St) : s.loadM.1.hd.length ≤ 1000000 := by
  have := bestN_small s 2
  unfold St.loadM
  split
  · simp
  split
  · simp
  split
  · simp
  · simp only; omega
end Go.Proofs.Ytigofhhonnbkmaa.HL
end
section
namespace Go.Proofs.Ytigofhhonnbkmaa.HL
open Go Go.Proofs
set_option linter.unusedSimpArgs false
set_option linter.unusedVariables false
attribute [local irreducible] Lt Lq CW OW TW CallH
theorem Kp.plain (k : Kp) : PlainL k.c := PlainL.cons (plain_int _ _) (PlainL.cons (plain_int _ _) (PlainL.cons (plain_int _ _) PlainL.nil))
theorem take_next {l : List Kp} {k : Nat} (hk : k < l.length) : kps (l.take (k + 1)) = kps (l.take k) ++ (l.getD k default).c := by
  rw [List.take_add_one, List.getElem?_eq_getElem hk, List.getD_eq_getElem?_getD, List.getElem?_eq_getElem hk]
  simp only [kps, List.flatMap_append, Option.toList_some, List.flatMap_cons, List.flatMap_nil, List.append_nil, Option.getD_some]
theorem ycl {p q : Prop} (h : q) (e : p = q := by simp only [x_builtin, l_len, List.map_toArray, List.map_cons, List.map_nil, i_len_slice _ _ Try.underlying56, eX, ↓reduceIte, Nat.reduceEqDiff, Int.reduceToNat]; exact rfl) : p := e.mpr h
set_option maxRecDepth 100000 in
set_option maxHeartbeats 4000000 in
theorem keeps_ok (H : Hp) (a : Option Addr) (cap : Nat) (l : List Kp) (hv : Holds H 3 (.slice a l.length cap) l.length (kps l)) (hl : l.length ≤ 1000) : CallH Try.prog 27 #[.slice a l.length cap] H (fun v H' => Le H H' ∧ ∃ rs, OwnS H' 140 3 v l.length (kps l) rs ∧ ∀ r, rs = some r → H r = none) := by
 refine zam (l := [_]) (rl := [.tmp 2]) (n := 19) Try.func27 rfl rfl rfl rfl rfl ?_
 refine yaa ?_
 refine zac (fun K1 hK1 => ?_)
 refine zaa ?_
 refine zaj rfl ?_
 refine zad ?_
 refine yab ?_
 refine hK1 _ _ ?_; try clear hK1 K1
 refine zac (fun K2 hK2 => ?_)
 refine zaa ?_
 refine zab (fun K hK r => ?_)
 refine yaT ?_
 refine zaJ (vs := []) Try.underlying69 sz140 zr140 rfl bsA (by first | decide | (simp; done)) ?_
 refine yaU ?_
 intro b6 hb6
 have f6_H : H b6 = none := zag lhA hb6
 refine yaf ?_
 refine hK _ _ ?_; clear hK K
 refine zaj rfl ?_
 refine zad ?_
 refine yab ?_
 refine hK2 _ _ ?_; try clear hK2 K2
 refine zac (fun K3 hK3 => ?_)
 refine zac (fun K4 hK4 => ?_)
 refine zaa ?_
 refine zah rfl ?_
 refine zab (fun K hK r => ?_)
 refine ycl ?_
 refine hK _ _ ?_; clear hK K
 refine zah rfl ?_
 refine zad ?_
 refine yab ?_
 refine hK4 _ _ ?_; try clear hK4 K4
 refine zaB ?_
 refine CW_loop (fun m e H_ => ∃ (k : Nat) (v : Value) (rs : Option Nat), k ≤ l.length ∧ m = l.length - k ∧ Le H H_ ∧ OwnS H_ 140 3 v k (kps (l.take k)) rs ∧ (∀ r, rs = some r → H r = none) ∧ Env.has [(3, v), (7, .slice a l.length cap), (8, .int .i64 l.length), (9, .int .i64 k)] e) (l.length) ?_ ?_
 ·skip
  exact ⟨0, _, some b6, by omega, by omega, lhA, ⟨by simp, .inr ⟨b6, 0, #[], rfl, zan _ _ _, Nat.le_refl _, by simp, by simp, rfl⟩⟩, (fun r hr => by cases hr; exact f6_H), rfl, rfl, rfl, rfl, trivial⟩
 intro m_ e_ H_ hI_
 obtain ⟨k, v, rs, hk, rfl, hlH, hO, hrs, he⟩ := hI_
 refine CW_env he.sub ?_; clear he e_
 obtain ⟨va, vc, rfl⟩ := hO.holds.form
 refine zac (fun K5 hK5 => ?_)
 refine zaa ?_
 refine zab (fun K hK r => ?_)
 refine yac ?_
 refine hK _ _ ?_; clear hK K
 refine zad ?_
 refine yab ?_
 refine hK5 _ _ ?_; try clear hK5 K5
 refine zac (fun K6 hK6 => ?_)
 refine zar (fun r => rfl) (fun c10 => ?_) (fun c10 => ?_)
 ·first
  |(exfalso; exact cnA c10; done)
  |skip
   (try replace c10 := yad c10)
   obtain ⟨bw, ow, cw, Tw, Fw, ew, hbw, hsw, atw⟩ := hv.at (by omega)
   have mm := Nat.mul_le_mul_right 3 (show k + 1 ≤ l.length by omega)
   refine zau ?_
   refine yab ?_
   refine hK6 _ _ ?_; try clear hK6 K6
   refine zac (fun K7 hK7 => ?_)
   refine zaB ?_
   refine zac (fun K8 hK8 => ?_)
   refine zaa ?_
   refine zab (fun K hK r => ?_)
   refine yaw ?_
   refine zaK Try.underlying56 sz143 ew ixA ixA ?_
   refine ybp ?_
   refine hK _ _ ?_; clear hK K
   refine zab (fun K hK r => ?_)
   refine yap ?_
   refine zaq Try.underlying143 rfl sz143 (hlH _ _ hbw) (by omega) ?_
   rw [ext_at Kp.len atw rfl k (by omega) hsw]
   refine hK _ _ ?_; clear hK K
   refine zab (fun K hK r => ?_)
   simp only [x_alloc, zr143, zay, Value.cells, eX, ↓reduceIte, Nat.reduceEqDiff, Int.reduceToNat]
   intro b5 hb5
   try have n5_b6 : b6 ≠ b5 := zaf hbA hb5
   have f5_H : H b5 = none := zag lhA hb5
   refine yaf ?_
   refine hK _ _ ?_; clear hK K
   refine zaI rfl (zas) (fun K hK r => ?_)
   refine yaD ?_
   first | refine zak sz143 bdA hbA bdA plA (by decide) ?_ | refine zal sz143 bdA hbA bdA plA (by decide) ?_
   refine yaf ?_
   refine hK _ _ ?_; clear hK K
   refine zad ?_
   refine yab ?_
   refine hK8 _ _ ?_; try clear hK8 K8
   refine zaa ?_
   refine zah rfl ?_
   refine zab (fun K hK r => ?_)
   refine yap ?_
   first | refine zax Try.underlying143 rfl sz143 hbA bdA ?_ | refine zaq Try.underlying143 rfl sz143 hbA bdA ?_
   refine ybg ?_
   refine yaf ?_
   refine hK _ _ ?_; clear hK K
   refine zab (fun K hK r => ?_)
   refine yaT ?_
   refine zaJ (vs := [_]) Try.underlying69 sz140 zr140 rfl bsA (by first | decide | (simp; done)) ?_
   refine yaU ?_
   intro b15 hb15
   try have n15_b6 : b6 ≠ b15 := zaf hbA hb15
   try have n15_b5 : b5 ≠ b15 := zaf hbA hb15
   have f15_H : H b15 = none := zag lhA hb15
   refine yaf ?_
   refine hK _ _ ?_; clear hK K
   refine zab (fun K hK r => ?_)
   refine yaV ?_
   have h5 : H_ b5 = none := hb5
   have n515 : b5 ≠ b15 := zaf hbA hb15
   have h15 : H_ b15 = none := zag (le_upd _ _ _ h5) hb15
   refine Lt_append Try.underlying69 Try.underlying69 (by simp) sz140 by140 (by decide) zr140 rfl _ (n := k) (m := 1) (ds := (l.getD k default).c) ((hO.make h5).make hb15) (fun Kx => len_slice _ _ _ Kx) (fun Kx => first_slice (w := 3) (n := 1) (cs := (l.getD k default).c) ⟨rfl, .inr ⟨b15, 0, 1, _, _, _, rfl, hbA, by simp, by simp⟩⟩ Kx) rfl (Kp.plain _) (by omega) ?_
   intro v16 H16 rs16 hg16 ho16 hr16
   obtain ⟨wa16, wc16, rfl⟩ := ho16.holds.form
   rw [← take_next (by omega)] at ho16
   have l16 : Le H H16 := fun z o hz => hg16.known z o ((zap _ _ (zaf (hlH _ _ hz) h15)).trans ((zap _ _ (zaf (hlH _ _ hz) h5)).trans (hlH _ _ hz))) (fun e => by rw [hrs z e] at hz; cases hz)
   have hrs16 : ∀ r, rs16 = some r → H r = none := fun r e => (hr16 r e).elim (hrs r) (fun hn => zag hlH (upd_none (upd_none hn)))
   refine hK _ _ ?_; clear hK K
   refine zaj rfl ?_
   refine zad ?_
   refine yab ?_
   refine hK7 _ _ ?_; try clear hK7 K7
   refine zaa ?_
   refine zab (fun K hK r => ?_)
   refine yaq ?_
   refine hK _ _ ?_; clear hK K
   refine zah rfl ?_
   refine zad ?_
   refine yab ?_
   exact ⟨l.length - (k + 1), by omega, k + 1, _, rs16, by omega, rfl, l16, ho16, hrs16, rfl, rfl, rfl, rfl, trivial⟩
 ·first
  |(exfalso; exact cnA c10; done)
  |skip
   (try replace c10 := yad c10)
   have hkn : k = l.length := by omega
   refine CW_exit ?_
   refine yab ?_
   refine hK3 _ _ ?_; try clear hK3 K3
   refine zac (fun K9 hK9 => ?_)
   refine zaa ?_
   refine zah rfl ?_
   refine zaj rfl ?_
   refine zad ?_
   refine yab ?_
   refine hK9 _ _ ?_; try clear hK9 K9
   refine zaz ?_
   refine yab ?_
   subst hkn
   rw [List.take_of_length_le (Nat.le_refl _)] at hO
   exact ⟨[_], ⟨rfl, trivial⟩, _, Le.refl _, hlH, rs, hO, hrs⟩
end Go.Proofs.Ytigofhhonnbkmaa.HL
end
section
namespace Go.Proofs.Ytigofhhonnbkmaa.HL
open Go Go.Proofs
set_option linter.unusedSimpArgs false
set_option linter.unusedVariables false
attribute [local irreducible] Lt Lq CW OW TW CallH
theorem OwnS.part {H : Hp} {E : TypeId} {w : Nat} {v : Value} {n : Nat} {cs : List Value} {rs : Option Nat} (h : OwnS H E w v n cs rs) : ∃ G, Le G H ∧ Holds G w v n cs ∧ ∀ x, G x ≠ none → rs = some x := by
  obtain ⟨h1, ⟨h2, h3, h4⟩ | ⟨r, cap, c, h2, h3, h4, h5, h6, h7⟩⟩ := h
  · exact ⟨emptyHp, zaN _, ⟨h1, .inl ⟨none, 0, h2, h3⟩⟩, fun x hx => absurd rfl hx⟩
  · refine ⟨emptyHp.upd r (.cells c E), le_put (zaN _) h3, OwnS.holds (E := E) (rs := rs) ⟨h1, .inr ⟨r, cap, c, h2, zan _ _ _, h4, h5, h6, h7⟩⟩, fun x hx => ?_⟩
    by_cases e : x = r
    · rw [e]; exact h7
    · rw [zap _ _ e] at hx; exact absurd rfl hx
structure Op15 where
  kind : Int
  n : Int
  m : Mf
  ma : Option Addr
  mc : Nat
  x : Sec
  ka : Option Addr
  kc : Nat
  keep : List Kp
instance : Inhabited Op15 := ⟨⟨0, 0, ⟨0, 0, 0, 0, 0, []⟩, none, 0, Sec.zero, none, 0, []⟩⟩
abbrev Op15.c (o : Op15) : List Value := .int .i64 o.kind :: .int .i64 o.n :: .int .i64 o.m.gen :: .int .i64 o.m.ep :: .int .i64 o.m.ba :: .int .i64 o.m.ar :: .int .i64 o.m.ln :: .slice o.ma o.m.hd.length o.mc :: (o.x.c ++ [.slice o.ka o.keep.length o.kc])
theorem Op15.len (o : Op15) : o.c.length = 73 := by
  show (o.x.c ++ [_]).length + 8 = 73
  rw [List.length_append, Sec.len]; rfl
theorem Op15.plain (o : Op15) : PlainL o.c := PlainL.cons (plain_int _ _) (PlainL.cons (plain_int _ _) (PlainL.cons (plain_int _ _) (PlainL.cons (plain_int _ _) (PlainL.cons (plain_int _ _) (PlainL.cons (plain_int _ _) (PlainL.cons (plain_int _ _) (PlainL.cons (plain_slice _ _ _) (fun v hv => by
  rcases List.mem_append.1 hv with h | h
  · exact PlainL.ints _ _ v h
  · simp at h; subst h; exact plain_slice _ _ _))))))))
theorem Op15.keep_at (o : Op15) : o.c[72]? = some (.slice o.ka o.keep.length o.kc) := by
  show (o.x.c ++ [_])[64]? = _
  rw [List.getElem?_append_right (by rw [Sec.len]; exact Nat.le_refl _), Sec.len]; rfl
theorem Op15.keep' (o : Op15) : o.c.toArray[72]? = some (.slice o.ka o.keep.length o.kc) := by
  rw [List.getElem?_toArray]; exact o.keep_at
theorem Op15.man (o : Op15) : o.c.toArray.extract 2 (2 + 6) = #[.int .i64 o.m.gen, .int .i64 o.m.ep, .int .i64 o.m.ba, .int .i64 o.m.ar, .int .i64 o.m.ln, .slice o.ma o.m.hd.length o.mc] := by
  simp only [List.extract_toArray, List.extract_eq_take_drop]
  rfl
theorem Op15.sec (o : Op15) : o.c.toArray.extract 8 (8 + 64) = o.x.c.toArray := by
  simp only [List.extract_toArray, List.extract_eq_take_drop]
  congr 1
  show ((o.x.c ++ [_]).take 64) = _
  rw [List.take_append_of_le_length (by rw [Sec.len]; omega), List.take_of_length_le (by rw [Sec.len]; omega)]
abbrev ops15 (l : List Op15) : List Value := l.flatMap Op15.c
structure Op15.ok (H : Hp) (o : Op15) : Prop where
  hk : Holds H 3 (.slice o.ka o.keep.length o.kc) o.keep.length (kps o.keep)
  hm : Holds H 1 (.slice o.ma o.m.hd.length o.mc) o.m.hd.length (i64s o.m.hd)
  ml : o.m.hd.length ≤ 9223372036854775807
  n1 : o.n ≤ 9223372036854775807
def short15 (l : List Op15) : Prop := l.length ≤ 41 ∧ ∀ j, j < l.length → (l.getD j default).keep.length ≤ 40 ∧ (l.getD j default).m.hd.length ≤ 20
theorem op15_mem {l : List Op15} {k : Nat} (h : k < l.length) : l.getD k default ∈ l := by
  rw [List.getD_eq_getElem?_getD, List.getElem?_eq_getElem h]; exact List.getElem_mem _
theorem ycm {p q : Prop} (h : q) (e : p = q := by simp only [zao, fa58_2, zaH, Nat.reduceAdd, Nat.zero_add, eX, ↓reduceIte, Nat.reduceEqDiff, Int.reduceToNat]; exact rfl) : p := e.mpr h
theorem ycn {p q : Prop} (h : q) (e : p = q := by simp only [zao, fa58_4, zaH, Nat.reduceAdd, Nat.zero_add, eX, ↓reduceIte, Nat.reduceEqDiff, Int.reduceToNat]; exact rfl) : p := e.mpr h
set_option maxRecDepth 100000 in
set_option maxHeartbeats 4000000 in
theorem long_ok (H : Hp) (a : Option Addr) (cap : Nat) (l : List Op15) (hv : Holds H 73 (.slice a l.length cap) l.length (ops15 l)) (ho : ∀ x ∈ l, x.ok H) : CallH Try.prog 18 #[.slice a l.length cap] H (fun v H' => ∃ t, v = .bool t ∧ (t = false → short15 l) ∧ H' = H) := by
 refine zam (l := [_]) (rl := [.tmp 2]) (n := 26) Try.func18 rfl rfl rfl rfl rfl ?_
 refine yaa ?_
 refine zac (fun K1 hK1 => ?_)
 refine zaa ?_
 refine zaj rfl ?_
 refine zad ?_
 refine yab ?_
 refine hK1 _ _ ?_; try clear hK1 K1
 refine zac (fun K2 hK2 => ?_)
 refine zac (fun K3 hK3 => ?_)
 refine zaa ?_
 refine zah rfl ?_
 refine zab (fun K hK r => ?_)
 simp only [x_builtin, l_len, List.map_toArray, List.map_cons, List.map_nil, i_len_slice _ _ Try.underlying45, eX, ↓reduceIte, Nat.reduceEqDiff, Int.reduceToNat]
 refine hK _ _ ?_; clear hK K
 refine zah rfl ?_
 refine zad ?_
 refine yab ?_
 refine hK3 _ _ ?_; try clear hK3 K3
 refine zaB ?_
 refine CW_loop (fun m e H_ => ∃ k : Nat, k ≤ l.length ∧ k ≤ 41 ∧ m = 41 - k ∧ (∀ j, j < k → (l.getD j default).keep.length ≤ 40 ∧ (l.getD j default).m.hd.length ≤ 20) ∧ Le H H_ ∧ Env.has [(5, .slice a l.length cap), (6, .int .i64 l.length), (7, .int .i64 k)] e) (41) ?_ ?_
 ·skip
  exact ⟨0, by omega, by omega, by omega, (fun j hj => absurd hj (by omega)), Le.refl _, rfl, rfl, rfl, trivial⟩
 intro m_ e_ H_ hI_
 obtain ⟨k, hk, hk81, rfl, hno, hlH, he⟩ := hI_
 refine CW_env he.sub ?_; clear he e_
 refine zac (fun K4 hK4 => ?_)
 refine zaa ?_
 refine zab (fun K hK r => ?_)
 refine yac ?_
 refine hK _ _ ?_; clear hK K
 refine zad ?_
 refine yab ?_
 refine hK4 _ _ ?_; try clear hK4 K4
 refine zac (fun K5 hK5 => ?_)
 refine zar (fun r => rfl) (fun c8 => ?_) (fun c8 => ?_)
 ·first
  |(exfalso; exact cnA c8; done)
  |skip
   (try replace c8 := yad c8)
   obtain ⟨bw, ow, cw, Tw, Fw, ew, hbw, hsw, atw⟩ := (hv.le hlH).at (by omega)
   have mo := Nat.mul_le_mul_right 73 (show k + 1 ≤ l.length by omega)
   have hok := ho (l.getD k default) (op15_mem (by omega))
   refine zau ?_
   refine yab ?_
   refine hK5 _ _ ?_; try clear hK5 K5
   refine zac (fun K6 hK6 => ?_)
   refine zaB ?_
   refine zac (fun K7 hK7 => ?_)
   refine zaa ?_
   refine zah rfl ?_
   refine zab (fun K hK r => ?_)
   refine yaw ?_
   refine zaK Try.underlying45 sz58 ew ixA ixA ?_
   refine ybp ?_
   refine hK _ _ ?_; clear hK K
   refine zab (fun K hK r => ?_)
   refine yap ?_
   refine zaq Try.underlying58 rfl sz58 hbw (by omega) ?_
   rw [ext_at Op15.len atw rfl k (by omega) hsw]
   refine hK _ _ ?_; clear hK K
   refine zab (fun K hK r => ?_)
   simp only [x_alloc, zr58, zay, Value.cells, eX, ↓reduceIte, Nat.reduceEqDiff, Int.reduceToNat]
   intro b4 hb4
   have f4_H : H b4 = none := zag lhA hb4
   refine yaf ?_
   refine hK _ _ ?_; clear hK K
   refine zaj rfl ?_
   refine zaI rfl (zas) (fun K hK r => ?_)
   refine yaD ?_
   refine zak sz58 (by rw [List.size_toArray, Op15.len]) hbA (by simp [Sec.h]) (Op15.plain _) (by decide) ?_
   try simp only [upd_upd]
   refine hK _ _ ?_; clear hK K
   refine zad ?_
   refine yab ?_
   refine hK7 _ _ ?_; try clear hK7 K7
   refine zac (fun K8 hK8 => ?_)
   refine zaa ?_
   refine zah rfl ?_
   refine zab (fun K hK r => ?_)
   refine yaZ ?_
   refine hK _ _ ?_; clear hK K
   refine zah rfl ?_
   (first | refine zaA (d := 14) rfl (fun g14 => ?_) (fun g14 => ?_) | skip)
   all_goals try (exfalso; exact cnA g14)
   all_goals (try replace g14 := yad g14)
   all_goals
    refine yaf ?_
    first
    |refine yGT (fun K hK r => ?_)
     refine ycm ?_
     refine hK _ _ ?_; clear hK K
    |refine yGF ?_
     refine yaj ?_
    first
    |refine yGT (fun K hK r => ?_)
     refine yap ?_
     refine zaq Try.underlying24 rfl sz24 hbA (by rw [List.size_toArray, Op15.len]; omega) ?_
     rw [Op15.man]
     refine hK _ _ ?_; clear hK K
    |refine yGF ?_
     refine yaj ?_
    first
    |refine yGT (fun K hK r => ?_)
     simp only [zaF _ bd8, List.map_toArray, List.map_cons, List.map_nil, eX, ↓reduceIte, Nat.reduceEqDiff, Int.reduceToNat]
     refine (large_ok _ (l.getD k default).m (l.getD k default).ma (l.getD k default).mc (hok.hm.le lhA) hok.ml).mono ?_
     rintro v H' ⟨rfl, hq⟩
     have hq := hq.symm
     subst hq
     refine yaf ?_
     refine hK _ _ ?_; clear hK K
    |refine yGF ?_
     refine yaj ?_
    refine zab (fun K hK r => ?_)
    refine yal ?_
    refine hK _ _ ?_; clear hK K
    refine zah rfl ?_
    (first | refine zaA (d := 19) rfl (fun g19 => ?_) (fun g19 => ?_) | skip)
    all_goals try (exfalso; exact cnA g19)
    all_goals (try replace g19 := yad g19)
    all_goals
     refine yaf ?_
     first
     |refine yGT (fun K hK r => ?_)
      refine ycn ?_
      refine hK _ _ ?_; clear hK K
     |refine yGF ?_
      refine yaj ?_
     first
     |refine yGT (fun K hK r => ?_)
      refine yap ?_
      refine zae Try.underlying56 rfl hbA (Op15.keep' _) ?_
      refine hK _ _ ?_; clear hK K
     |refine yGF ?_
      refine yaj ?_
     first
     |refine yGT (fun K hK r => ?_)
      refine ycl ?_
      refine hK _ _ ?_; clear hK K
     |refine yGF ?_
      refine yaj ?_
     first
     |refine yGT (fun K hK r => ?_)
      refine yaZ ?_
      refine hK _ _ ?_; clear hK K
     |refine yGF ?_
      refine yaj ?_
     refine zab (fun K hK r => ?_)
     refine yal ?_
     refine hK _ _ ?_; clear hK K
     refine zad ?_
     refine yab ?_
     refine hK8 _ _ ?_; try clear hK8 K8
     refine zar (fun r => rfl) (fun c24 => ?_) (fun c24 => ?_)
     ·first
      |(exfalso; exact cnA c24; done)
      |skip
       skip
       refine zac (fun K9 hK9 => ?_)
       refine zaa ?_
       refine zaj rfl ?_
       refine zad ?_
       refine yab ?_
       refine hK9 _ _ ?_; try clear hK9 K9
       refine zaz ?_
       refine yab ?_
       exact ⟨[_], ⟨rfl, trivial⟩, H, lhA, true, rfl, (fun h => by cases h), rfl⟩
     ·first
      |(exfalso; exact cnA c24; done)
      |skip
       have hlast : (l.getD k default).keep.length ≤ 40 ∧ (l.getD k default).m.hd.length ≤ 20 ∧ k ≤ 40 := by first | omega | (simp only [decide_eq_false_iff_not] at *; omega) | (cases c24; done)
       have hk41 := hlast.2.2
       have hlast := And.intro hlast.1 hlast.2.1
       refine zau ?_
       refine yab ?_
       refine hK6 _ _ ?_; try clear hK6 K6
       refine zaa ?_
       refine zab (fun K hK r => ?_)
       refine yaq ?_
       refine hK _ _ ?_; clear hK K
       refine zah rfl ?_
       refine zad ?_
       refine yab ?_
       refine ⟨41 - (k + 1), by omega, k + 1, by omega, by omega, rfl, (fun j hj => ?_), lhA, rfl, rfl, rfl, trivial⟩
       by_cases e : j = k
       ·subst e; exact hlast
       ·exact hno j (by omega)
 ·first
  |(exfalso; exact cnA c8; done)
  |skip
   (try replace c8 := yad c8)
   have hkn : k = l.length := by omega
   refine CW_exit ?_
   refine yab ?_
   refine hK2 _ _ ?_; try clear hK2 K2
   refine zac (fun K10 hK10 => ?_)
   refine zaa ?_
   refine zaj rfl ?_
   refine zad ?_
   refine yab ?_
   refine hK10 _ _ ?_; try clear hK10 K10
   refine zaz ?_
   refine yab ?_
   subst hkn
   exact ⟨[_], ⟨rfl, trivial⟩, H, lhA, false, rfl, (fun _ => ⟨hk81, hno⟩), rfl⟩
end Go.Proofs.Ytigofhhonnbkmaa.HL
end
section
namespace Go.Proofs.Ytigofhhonnbkmaa.HL
open Go Go.Proofs
set_option linter.unusedSimpArgs false
set_option linter.unusedVariables false
attribute [local irreducible] Lt Lq CW OW TW CallH
theorem leI_app : ∀ (a b : List Int), leI (a ++ b) = leI a + 256 ^ a.length * leI b
  | [], b => by simp [leI]
  | x :: a, b => by
    have ih := leI_app a b
    simp only [List.cons_append, List.length_cons, leI, ih, Int.pow_succ]
    rw [Int.mul_add, ← Int.add_assoc, ← Int.mul_assoc, Int.mul_comm 256 (256 ^ a.length)]
theorem leI_inj {a b : List Int} (ha : ByteL a) (hb : ByteL b) (hl : a.length = b.length) (h : leI a = leI b) : a = b := by
  rw [← leR_leI a ha, ← leR_leI b hb, hl, h]
theorem tear_six {x y : List Int} (hx : ByteL x) (hy : ByteL y) (lx : x.length = 6) (ly : y.length = 6) {j : Nat} (hj : j ≤ 6) (h : leI y < leI x) : x.take j ++ y.drop j = x ∨ leI (x.take j ++ y.drop j) < leI x := by
  have ex : leI x = leI (x.take j) + 256 ^ j * leI (x.drop j) := by
    have := leI_app (x.take j) (x.drop j)
    rw [List.take_append_drop, List.length_take, Nat.min_eq_left (by omega)] at this; exact this
  have ey : leI y = leI (y.take j) + 256 ^ j * leI (y.drop j) := by
    have := leI_app (y.take j) (y.drop j)
    rw [List.take_append_drop, List.length_take, Nat.min_eq_left (by omega)] at this; exact this
  have et : leI (x.take j ++ y.drop j) = leI (x.take j) + 256 ^ j * leI (y.drop j) := by
    have := leI_app (x.take j) (y.drop j)
    rw [List.length_take, Nat.min_eq_left (by omega)] at this; exact this
  have hx1 := leI_range (x.take j) (fun z hz => hx z (List.mem_of_mem_take hz))
  have hy1 := leI_range (y.take j) (fun z hz => hy z (List.mem_of_mem_take hz))
  have bx : ByteL (x.drop j) := fun z hz => hx z (List.mem_of_mem_drop hz)
  have by_ : ByteL (y.drop j) := fun z hz => hy z (List.mem_of_mem_drop hz)
  have hlx : (x.take j).length = j := by rw [List.length_take]; omega
  have hly : (y.take j).length = j := by rw [List.length_take]; omega
  rw [hlx] at hx1
  rw [hly] at hy1
  have hp : (0 : Int) < 256 ^ j := Int.pow_pos (by decide)
  have hle : leI (y.drop j) ≤ leI (x.drop j) := by
    apply Classical.byContradiction
    intro hn
    have h1 : leI (x.drop j) + 1 ≤ leI (y.drop j) := by omega
    have h2 := Int.mul_le_mul_of_nonneg_left h1 (Int.le_of_lt hp)
    rw [Int.mul_add, Int.mul_one] at h2
    omega
  by_cases he : leI (y.drop j) = leI (x.drop j)
  · left
    rw [leI_inj by_ bx (by rw [List.length_drop, List.length_drop, lx, ly]) he, List.take_append_drop]
  · right
    have h1 : leI (y.drop j) + 1 ≤ leI (x.drop j) := by omega
    have h2 := Int.mul_le_mul_of_nonneg_left h1 (Int.le_of_lt hp)
    rw [Int.mul_add, Int.mul_one] at h2
    rw [et, ex]
    omega
theorem tail_torn {X L : List Int} (hX : ByteL X) (hL : ByteL L) (lx : X.length = 64) (ll : L.length = 64) (h : tailOf L < tailOf X) (t : Nat) : X.take t ++ L.drop t = X ∨ tailOf (X.take t ++ L.drop t) < tailOf X := by
  by_cases h58 : t ≤ 58
  · right
    have e : (X.take t ++ L.drop t).drop 58 = L.drop 58 := by
      rw [List.drop_append, List.drop_eq_nil_of_le (by rw [List.length_take]; omega), List.nil_append, List.drop_drop, List.length_take, Nat.min_eq_left (by omega)]
      congr 1; omega
    have : tailOf (X.take t ++ L.drop t) = tailOf L := by unfold tailOf; rw [e]
    rw [this]; exact h
  by_cases h64 : 64 ≤ t
  · left
    rw [List.take_of_length_le (by omega), List.drop_eq_nil_of_le (by omega), List.append_nil]
  have e1 : (X.take t ++ L.drop t).drop 58 = (X.drop 58).take (t - 58) ++ (L.drop 58).drop (t - 58) := by
    rw [List.drop_append, List.length_take, Nat.min_eq_left (by omega), show 58 - t = 0 by omega, List.drop_zero, List.drop_take, List.drop_drop]
    congr 2; omega
  have e2 : ∀ Z : List Int, Z.length = 64 → (Z.drop 58).take 6 = Z.drop 58 := fun Z hz => List.take_of_length_le (by rw [List.length_drop]; omega)
  have lT : (X.take t ++ L.drop t).length = 64 := by rw [List.length_append, List.length_take, List.length_drop]; omega
  have h' : leI (L.drop 58) < leI (X.drop 58) := by
    unfold tailOf at h
    rw [e2 X lx, e2 L ll] at h; exact h
  rcases tear_six (fun z hz => hX z (List.mem_of_mem_drop hz)) (fun z hz => hL z (List.mem_of_mem_drop hz)) (by rw [List.length_drop]; omega) (by rw [List.length_drop]; omega) (show t - 58 ≤ 6 by omega) h' with h6 | h6
  · left
    have e3 : (X.take t ++ L.drop t).take 58 = X.take 58 := by
      rw [List.take_append_of_le_length (by rw [List.length_take]; omega), List.take_take, Nat.min_eq_left (by omega)]
    rw [← List.take_append_drop 58 (X.take t ++ L.drop t), e3, e1, h6, List.take_append_drop]
  · right
    unfold tailOf
    rw [e2 _ lT, e2 X lx, e1]; exact h6
theorem tail_open {L : List Int} {m : Mf} (h : opM L = some m) : tailOf L = m.gen := by
  obtain ⟨h1, h2⟩ := opM_of h
  have ho := h1.open
  rw [← h2] at ho
  unfold openI at ho
  split at ho
  · rename_i hg
    rw [good_iff] at hg
    injection ho with ho
    injection ho with e1 _
    rw [← hg.1]; exact e1
  · cases ho
theorem tail_seal {m : Mf} (h : m.Ok) : tailOf m.sec.b = m.gen := tail_open (opM_seal h)
theorem pick_less {b : Mf} {L : List Int} {i g : Int} (h : tailOf L ≤ g) (hg : g % 2 ≠ i) (hb : b.gen = g) : HL.pick b L i = b := pick_no (by
  rintro ⟨h1, h2, h3⟩
  cases ho : opM L with
  | none => rw [(opM_no ho).2] at h1; cases h1
  | some m =>
    rw [(opM_yes ho).1] at h3
    have := tail_open ho
    omega)
theorem pick_under {L : List Int} {i g : Int} (h : tailOf L ≤ g) (hg : g % 2 ≠ i) (g0 : 1 ≤ g) : (HL.pick zM L i).gen < g := by
  unfold HL.pick
  split
  · rename_i hh
    obtain ⟨h1, h2, h3⟩ := hh
    cases ho : opM L with
    | none => rw [(opM_no ho).2] at h1; cases h1
    | some m =>
      rw [(opM_yes ho).1] at h2 ⊢
      have := tail_open ho
      by_cases e : m.gen = g
      · rw [e] at h2; exact absurd h2 hg
      · omega
  · show (0 : Int) < g
    omega
structure Kept (s : St) (now : Mf) : Prop where
  len : 1 ≤ s.dv.length
  size : (s.dv.getD 0 default).size = 3
  at_ : (s.dv.getD 0 default).sure (now.gen % 2) = now.sec
  tail : tailOf ((s.dv.getD 0 default).sure (1 - now.gen % 2)).b ≤ now.gen
  wait : (s.dv.getD 0 default).wait = []
theorem Kept.congr {s t : St} {m : Mf} (h : Kept s m) (e : t.dv = s.dv) : Kept t m := ⟨by rw [e]; exact h.len, by rw [e]; exact h.size, by rw [e]; exact h.at_, by rw [e]; exact h.tail, by rw [e]; exact h.wait⟩
theorem Kept.load {s : St} {m : Mf} (h : Kept s m) (hm : m.Ok) (hg : s.gone = false) : s.loadM = (m, none) := by
  have hsz : s.sz 0 = 3 := by
    have := h.len
    unfold St.sz
    rw [if_pos (by omega)]; exact h.size
  have hr : ∀ k : Nat, k < 2 → (s.rd 0 k).1 = (s.dv.getD 0 default).sure k := fun k hk => by
    unfold St.rd
    rw [if_neg (by rw [hg]; simp), if_pos]
    · show Dv.read _ _ = _
      unfold Dv.read
      rw [show (0 : Int).toNat = 0 from rfl, h.wait]; rfl
    · unfold St.has
      have := h.len
      rw [Bool.and_eq_true, decide_eq_true_eq, decide_eq_true_eq]
      exact ⟨⟨Int.le_refl _, by omega⟩, by omega, by rw [show (0 : Int).toNat = 0 from rfl, h.size]; omega⟩
  have hb : s.bestN 2 = HL.pick (HL.pick zM ((s.dv.getD 0 default).sure 0).b 0) ((s.dv.getD 0 default).sure 1).b 1 := by
    show HL.pick (HL.pick zM (s.rd 0 (0 : Nat)).1.b (0 : Nat)) (s.rd 0 (1 : Nat)).1.b (1 : Nat) = _
    rw [hr 0 (by omega), hr 1 (by omega)]; rfl
  have hgg := hm.g
  have hat := h.at_
  have htl := h.tail
  have hbm : s.bestN 2 = m := by
    rw [hb]
    rcases (show m.gen % 2 = 0 ∨ m.gen % 2 = 1 by omega) with e | e
    · rw [e] at hat htl
      rw [hat, pick_seal (best := zM) hm e (by show (0 : Int) < _; omega)]
      exact pick_less htl (by omega) rfl
    · rw [e] at hat htl
      rw [hat]
      exact pick_seal hm e (pick_under htl (by omega) (by omega))
  unfold St.loadM
  rw [if_neg (by omega), if_neg (by rw [hg]; simp), hbm, if_neg (by omega)]
theorem Kept.dev {s t : St} {m n : Mf} (h : Kept s m) {d : Dv} (e : t.dv = s.dv.set 0 d) (h1 : d.size = 3) (h2 : d.sure (n.gen % 2) = n.sec) (h3 : tailOf (d.sure (1 - n.gen % 2)).b ≤ n.gen) (h4 : d.wait = []) : Kept t n := by
  have hl := h.len
  have hd : t.dv.getD 0 default = d := by rw [e, getD_set, if_pos ⟨rfl, by omega⟩]
  exact ⟨by rw [e]; simp; omega, by rw [hd]; exact h1, by rw [hd]; exact h2, by rw [hd]; exact h3, by rw [hd]; exact h4⟩
structure Half (s : St) (now next : Mf) : Prop where
  len : 1 ≤ s.dv.length
  size : (s.dv.getD 0 default).size = 3
  at_ : (s.dv.getD 0 default).sure (now.gen % 2) = now.sec
  tail : tailOf ((s.dv.getD 0 default).sure (1 - now.gen % 2)).b ≤ now.gen
  wait : (s.dv.getD 0 default).wait = [⟨next.gen % 2, next.sec⟩]
theorem Kept.save {s : St} {now next : Mf} (h : Kept s now) (hn : next.Ok) (hw : now.Ok) (hg : next.gen = now.gen + 1) : ((s.saveM next).2 = none → Kept (s.saveM next).1 next) ∧ ((s.saveM next).2 ≠ none → Kept (s.saveM next).1 now ∨ Half (s.saveM next).1 now next) := by
  have hgg := hw.g
  have hl := h.len
  have hsz : s.sz 0 = 3 := by
    unfold St.sz
    rw [if_pos (by omega)]; exact h.size
  have hgood := Mf.good_iff.2 hn
  have hz2 : ¬ s.sz 0 < 2 := by omega
  rcases wr_cases s 0 (next.gen % 2) next.sec with ⟨_, _, hh⟩ | ⟨e1, e2, _, _⟩ | ⟨e1, e2, _, _⟩
  · exfalso
    have : s.has 0 (next.gen % 2) = true := by
      unfold St.has
      rw [Bool.and_eq_true, decide_eq_true_eq, decide_eq_true_eq]
      exact ⟨⟨Int.le_refl _, by omega⟩, by omega, by rw [show (0 : Int).toNat = 0 from rfl, h.size]; omega⟩
    rw [hh] at this; cases this
  · have es := saveM_err hgood hz2 e2
    rw [es, e2]
    exact ⟨fun h => by (try cases h), fun _ => .inl (by rw [e1]; exact h.congr (step_dv s))⟩
  · have es := saveM_all hgood hz2 e2
    have hd : (s.wr 0 (next.gen % 2) next.sec).1.dv = s.dv.set 0 ((s.dv.getD 0 default).put ⟨next.gen % 2, next.sec⟩) := by
      rw [e1]
      show s.dv.set (0 : Int).toNat _ = _
      rfl
    have hd0 : (s.wr 0 (next.gen % 2) next.sec).1.dv.getD 0 default = (s.dv.getD 0 default).put ⟨next.gen % 2, next.sec⟩ := by rw [hd, getD_set, if_pos ⟨rfl, by omega⟩]
    have hwt : ((s.dv.getD 0 default).put ⟨next.gen % 2, next.sec⟩).wait = [⟨next.gen % 2, next.sec⟩] := by
      show (s.dv.getD 0 default).wait ++ _ = _
      rw [h.wait]; rfl
    have hH : Half (s.wr 0 (next.gen % 2) next.sec).1 now next := ⟨by rw [hd]; simp; omega, by rw [hd0]; exact h.size, by rw [hd0]; exact h.at_, by rw [hd0]; exact h.tail, by rw [hd0]; exact hwt⟩
    rw [es]
    rcases fl_cases (s.wr 0 (next.gen % 2) next.sec).1 0 with ⟨_, _, hh⟩ | ⟨a1, a2, _, _⟩ | ⟨a1, a2, _, _⟩
    · exact absurd ⟨Int.le_refl _, by rw [hd]; simp; omega⟩ hh
    · rw [a2]
      refine ⟨fun h => by (try cases h), fun _ => .inr ?_⟩
      rw [a1]
      have e := step_dv (s.wr 0 (next.gen % 2) next.sec).1
      exact ⟨by rw [e]; exact hH.len, by rw [e]; exact hH.size, by rw [e]; exact hH.at_, by rw [e]; exact hH.tail, by rw [e]; exact hH.wait⟩
    · rw [a2]
      refine ⟨fun _ => ?_, fun h => absurd rfl h⟩
      have hds : ((s.wr 0 (next.gen % 2) next.sec).1.fl 0).1.dv = s.dv.set 0 (((s.dv.getD 0 default).put ⟨next.gen % 2, next.sec⟩).settle (fun _ => some 0)) := by
        rw [a1]
        show (s.wr 0 (next.gen % 2) next.sec).1.dv.set (0 : Int).toNat (((s.wr 0 (next.gen % 2) next.sec).1.dv.getD (0 : Int).toNat default).settle _) = _
        rw [show (0 : Int).toNat = 0 from rfl, hd0, hd, List.set_set]
      have hsu : ∀ z, (((s.dv.getD 0 default).put ⟨next.gen % 2, next.sec⟩).settle (fun _ => some 0)).sure z = if z = next.gen % 2 then next.sec else (s.dv.getD 0 default).sure z := fun z => by
        show stN (fun _ => some 0) (((s.dv.getD 0 default).put ⟨next.gen % 2, next.sec⟩).wait) _ (((s.dv.getD 0 default).put ⟨next.gen % 2, next.sec⟩).wait).length z = _
        rw [hwt]
        show (if z = next.gen % 2 then torn next.sec _ 0 else _) = _
        by_cases e : z = next.gen % 2
        · rw [if_pos e, if_pos e]; simp [torn]
        · rw [if_neg e, if_neg e]; rfl
      refine h.dev hds h.size ?_ ?_ rfl
      · rw [hsu, if_pos rfl]
      · rw [hsu, if_neg (by omega), show 1 - next.gen % 2 = now.gen % 2 by omega, h.at_, tail_seal hw]; omega
theorem cr_dev (s : St) (l : List Kp) (h : 1 ≤ s.dv.length) : (s.cr l).dv = s.dv.mapIdx (fun i d => d.settle (fun n => keepOf l i n)) ∧ (s.cr l).dv.getD 0 default = (s.dv.getD 0 default).settle (fun n => keepOf l (0 : Nat) n) ∧ 1 ≤ (s.cr l).dv.length := by
  refine ⟨rfl, ?_, by simp [St.cr]; omega⟩
  simp [St.cr, List.getD_eq_getElem?_getD, List.getElem?_mapIdx, List.getElem?_eq_getElem (show 0 < s.dv.length by omega)]
theorem Kept.cr {s : St} {m : Mf} (h : Kept s m) (l : List Kp) : Kept (s.cr l) m := by
  obtain ⟨_, h2, h3⟩ := cr_dev s l h.len
  have e : (s.dv.getD 0 default).settle (fun n => keepOf l (0 : Nat) n) = s.dv.getD 0 default := by
    have hw := h.wait
    generalize s.dv.getD 0 default = d at *
    obtain ⟨a, b, c⟩ := d
    cases hw; rfl
  rw [e] at h2
  exact ⟨h3, by rw [h2]; exact h.size, by rw [h2]; exact h.at_, by rw [h2]; exact h.tail, by rw [h2]; exact h.wait⟩
theorem Half.cr {s : St} {now next : Mf} (h : Half s now next) (hw : now.Ok) (hn : next.Ok) (hg : next.gen = now.gen + 1) (hb : BS s) (l : List Kp) : Kept (s.cr l) now ∨ Kept (s.cr l) next := by
  obtain ⟨_, h2, h3⟩ := cr_dev s l h.len
  have hsu : ∀ z, ((s.dv.getD 0 default).settle (fun n => keepOf l (0 : Nat) n)).sure z = match keepOf l (0 : Nat) (0 : Nat) with | none => (s.dv.getD 0 default).sure z | some t => if z = next.gen % 2 then torn next.sec ((s.dv.getD 0 default).sure (next.gen % 2)) t else (s.dv.getD 0 default).sure z := fun z => by
    show stN _ ((s.dv.getD 0 default).wait) _ ((s.dv.getD 0 default).wait).length z = _
    rw [h.wait]
    show (match keepOf l ((0 : Nat) : Int) ((0 : Nat) : Int) with | none => stN _ _ _ 0 | some t => _) z = _
    cases keepOf l ((0 : Nat) : Int) ((0 : Nat) : Int) <;> rfl
  have hgen := hw.g
  have hkn : Kept (s.cr l) now ∨ Kept (s.cr l) next := by
    cases hk : keepOf l (0 : Nat) (0 : Nat) with
    | none =>
      rw [hk] at hsu
      exact .inl ⟨h3, by rw [h2]; exact h.size, by rw [h2, hsu]; exact h.at_, by rw [h2, hsu]; exact h.tail, by rw [h2]; rfl⟩
    | some t =>
      rw [hk] at hsu
      have e1 : 1 - now.gen % 2 = next.gen % 2 := by omega
      have ht := h.tail
      rw [e1] at ht
      have key : torn next.sec ((s.dv.getD 0 default).sure (next.gen % 2)) t = next.sec ∨ tailOf (torn next.sec ((s.dv.getD 0 default).sure (next.gen % 2)) t).b ≤ now.gen := by
        unfold torn
        split
        · rename_i hh
          rcases tail_torn (X := next.sec.b) (L := ((s.dv.getD 0 default).sure (next.gen % 2)).b) next.seal_byte (hb.su _) next.sec.h (Sec.h _) (by rw [tail_seal hn]; omega) t.toNat with h6 | h6
          · exact .inl (Sec.ext h6)
          · right
            rw [tail_seal hn] at h6
            show tailOf (next.sec.b.take t.toNat ++ _) ≤ _
            omega
        · exact .inl rfl
      rcases key with h6 | h6
      · right
        refine ⟨h3, by rw [h2]; exact h.size, by rw [h2, hsu]; simp only [↓reduceIte]; exact h6, ?_, by rw [h2]; rfl⟩
        rw [h2, hsu]
        simp only
        rw [if_neg (by omega), show 1 - next.gen % 2 = now.gen % 2 by omega, h.at_, tail_seal hw]; omega
      · left
        refine ⟨h3, by rw [h2]; exact h.size, ?_, ?_, by rw [h2]; rfl⟩
        · rw [h2, hsu]; simp only; rw [if_neg (by omega)]; exact h.at_
        · rw [h2, hsu]; simp only; rw [if_pos e1]; exact h6
  exact hkn
end Go.Proofs.Ytigofhhonnbkmaa.HL
end
section
namespace Go.Proofs.Ytigofhhonnbkmaa.HL
open Go Go.Proofs
set_option linter.unusedSimpArgs false
set_option linter.unusedVariables false
attribute [local irreducible] Lt Lq CW OW TW CallH
theorem Stn.side {H K F : Hp} {p : Nat} {s : St} (hA : Stn H K F p s) {G K' : Hp} (lG : Le G K') (hk : ∀ b o, K b = some o → H b = none → K' b = some o ∧ G b = none) : Stn G K' F p s := by
  have hx : ∀ b o, F b = some o → K' b = some o ∧ G b = none := fun b o hb => hk b o (hA.le b o hb) (by
    cases hc : H b with
    | none => rfl
    | some o' => have := hA.ap b (by rw [hc]; simp); rw [hb] at this; cases this)
  refine ⟨hA.set, fun b o hb => (hx b o hb).1, lG, fun b hb => ?_⟩
  cases hc : F b with
  | none => rfl
  | some o => exact absurd (hx b o hc).2 hb
theorem Stn.off {H K F : Hp} {p : Nat} {s : St} (hA : Stn H K F p s) {b : Nat} (hF : F b = none) (hH : H b = none) (o : Obj) : Stn H (K.upd b o) F p s := ⟨hA.set, zaw hA.le hF, zaw hA.old hH, hA.ap⟩
theorem Stn.with {Q K F : Hp} {p : Nat} {s : St} (h : Stn Q K F p s) {b : Nat} {o : Obj} (hK : K b = some o) (hF : F b = none) : Stn (Q.upd b o) K F p s :=
  ⟨h.set, h.le, le_put h.old hK, fun x hx => by
    by_cases e : x = b
    · rw [e]; exact hF
    · rw [zap _ _ e] at hx; exact h.ap x hx⟩
structure KB (Q K F : Hp) (p : Nat) (s : St) (b : Nat) (m : Mf) (a : Option Addr) (c : Nat) : Prop where
  st : Stn Q K F p s
  box : K b = some (.cells #[.int .i64 m.gen, .int .i64 m.ep, .int .i64 m.ba, .int .i64 m.ar, .int .i64 m.ln, .slice a m.hd.length c] 24)
  f : F b = none
  q : Q b = none
theorem KB.full {Q K F : Hp} {p : Nat} {s : St} {b : Nat} {m : Mf} {a : Option Addr} {c : Nat} (h : KB Q K F p s b m a c) : Stn (Q.upd b (.cells #[.int .i64 m.gen, .int .i64 m.ep, .int .i64 m.ba, .int .i64 m.ar, .int .i64 m.ln, .slice a m.hd.length c] 24)) K F p s := h.st.with h.box h.f
theorem KB.of {Q K F : Hp} {p : Nat} {s : St} {b : Nat} {m : Mf} {a : Option Addr} {c : Nat} (hq : Q b = none) {Q' : Hp} (hQ : Le (Q.upd b (.cells #[.int .i64 m.gen, .int .i64 m.ep, .int .i64 m.ba, .int .i64 m.ar, .int .i64 m.ln, .slice a m.hd.length c] 24)) Q') (h : Stn Q' K F p s) : KB Q K F p s b m a c :=
  ⟨h.less (Le.trans (le_upd _ _ _ hq) hQ), h.old _ _ (hQ _ _ (zan _ _ _)), h.ap b (by rw [hQ _ _ (zan _ _ _)]; simp), hq⟩
theorem KB.more {Q K F : Hp} {p : Nat} {s : St} {b : Nat} {m : Mf} {a : Option Addr} {c : Nat} (h : KB Q K F p s b m a c) {K' : Hp} (hl : Le K K') : KB Q K' F p s b m a c := ⟨h.st.more hl, hl _ _ h.box, h.f, h.q⟩
theorem KB.less {Q Q' K F : Hp} {p : Nat} {s : St} {b : Nat} {m : Mf} {a : Option Addr} {c : Nat} (h : KB Q K F p s b m a c) (hl : Le Q' Q) : KB Q' K F p s b m a c := ⟨h.st.less hl, h.box, h.f, zag hl h.q⟩
theorem KB.put {Q K F : Hp} {p : Nat} {s : St} {b : Nat} {m : Mf} {a : Option Addr} {c : Nat} (h : KB Q K F p s b m a c) (n : Mf) (a' : Option Addr) (c' : Nat) : KB Q (K.upd b (.cells #[.int .i64 n.gen, .int .i64 n.ep, .int .i64 n.ba, .int .i64 n.ar, .int .i64 n.ln, .slice a' n.hd.length c'] 24)) F p s b n a' c' := ⟨h.st.off h.f h.q _, zan _ _ _, h.f, h.q⟩
theorem KB.alloc {Q K F : Hp} {p : Nat} {s : St} {b : Nat} {m : Mf} {a : Option Addr} {c : Nat} (h : KB Q K F p s b m a c) {x : Nat} (hx : K x = none) (o : Obj) : KB (Q.upd x o) (K.upd x o) F p s b m a c := by
  have hne : b ≠ x := fun e => by have := h.box; rw [e, hx] at this; cases this
  exact ⟨h.st.put (h.st.fresh hx) o, (zap _ _ hne).trans h.box, h.f, (zap _ _ hne).trans h.q⟩
end Go.Proofs.Ytigofhhonnbkmaa.HL
end
section
namespace Go.Proofs.Ytigofhhonnbkmaa.HL
open Go Go.Proofs
set_option linter.unusedSimpArgs false
set_option linter.unusedVariables false
attribute [local irreducible] Lt Lq CW OW TW CallH
end Go.Proofs.Ytigofhhonnbkmaa.HL
end
section
namespace Go.Proofs.Ytigofhhonnbkmaa.HL
open Go Go.Proofs
set_option linter.unusedSimpArgs false
set_option linter.unusedVariables false
attribute [local irreducible] Lt Lq CW OW TW CallH
structure RDv where
  sec : List Sec
  wait : List Wt
deriving Inhabited
structure RSt where
  dv : List RDv
  steps : Int
  left : Int
  armed : Bool
  gone : Bool
structure RDX where
  sa : Option Addr
  sc : Nat
  wa : Option Addr
  wc : Nat
  d : RDv
deriving Inhabited
abbrev secs (l : List Sec) : List Value := l.flatMap Sec.c
abbrev RDX.c (x : RDX) : List Value := [.slice x.sa x.d.sec.length x.sc, .slice x.wa x.d.wait.length x.wc]
theorem RDX.len (x : RDX) : x.c.length = 2 := rfl
structure RDX.ok (H : Hp) (x : RDX) : Prop where
  s : Holds H 64 (.slice x.sa x.d.sec.length x.sc) x.d.sec.length (secs x.d.sec)
  w : Holds H 65 (.slice x.wa x.d.wait.length x.wc) x.d.wait.length (wts x.d.wait)
theorem RDX.ok.le {H K : Hp} {x : RDX} (h : x.ok H) (k : Le H K) : x.ok K := ⟨h.s.le k, h.w.le k⟩
structure RX (H : Hp) (a : Option Addr) (cap : Nat) (X : List RDX) : Prop where
  h : Holds H 2 (.slice a X.length cap) X.length (X.flatMap RDX.c)
  ok : ∀ x ∈ X, x.ok H
theorem RX.le {H K : Hp} {a : Option Addr} {cap : Nat} {X : List RDX} (h : RX H a cap X) (k : Le H K) : RX K a cap X := ⟨h.h.le k, fun x hx => (h.ok x hx).le k⟩
abbrev rdv (X : List RDX) : List RDv := X.map RDX.d
theorem rdv_at {X : List RDX} (i : Nat) : (rdv X).getD i default = (X.getD i default).d := by
  simp only [List.getD_eq_getElem?_getD, List.getElem?_map]
  cases X[i]? <;> rfl
abbrev RSt.c (m : RSt) (dvv : Value) : List Value := [dvv, .int .i64 m.steps, .int .i64 m.left, .bool m.armed, .bool m.gone]
abbrev RSt.v (m : RSt) (dvv : Value) : Value := .agg (m.c dvv).toArray
def RSt.has (m : RSt) (dev i : Int) : Bool := decide (0 ≤ dev ∧ dev < m.dv.length) && decide (0 ≤ i ∧ i < (m.dv.getD dev.toNat default).sec.length)
def RSt.step (m : RSt) : RSt × Bool :=
  if m.gone = true then (m, false) else if m.armed = true ∧ m.left = 0 then ({ m with gone := true }, false) else ({ m with left := if m.armed = true then IntKind.i64.wrap (m.left - 1) else m.left, steps := IntKind.i64.wrap (m.steps + 1) }, true)
theorem RSt.step_dv (m : RSt) : m.step.1.dv = m.dv := by unfold RSt.step; split; rfl; split <;> rfl
def RSt.put (m : RSt) (dev i : Int) (x : Sec) : RSt × Int :=
  if m.has dev i = true then (match m.step with | (t, true) => ({ t with dv := t.dv.set dev.toNat ⟨(t.dv.getD dev.toNat default).sec, (t.dv.getD dev.toNat default).wait ++ [⟨i, x⟩]⟩ }, 0) | (t, false) => (t, 3)) else (m, 1)
def doneL (l : List Sec) (w : List Wt) : List Sec := w.foldl (fun l w => l.set w.at_.toNat w.x) l
def RSt.fl (m : RSt) (dev : Int) : RSt × Int :=
  if 0 ≤ dev ∧ dev < m.dv.length then (match m.step with | (t, true) => ({ t with dv := t.dv.set dev.toNat ⟨doneL (t.dv.getD dev.toNat default).sec (t.dv.getD dev.toNat default).wait, []⟩ }, 0) | (t, false) => (t, 3)) else (m, 1)
def RSt.rd (m : RSt) (dev i : Int) : Sec × Int :=
  if m.gone = true then (Sec.zero, 3) else if m.has dev i = true then ((lastW (m.dv.getD dev.toNat default).wait i).getD ((m.dv.getD dev.toNat default).sec.getD i.toNat default), 0) else (Sec.zero, 1)
theorem yco {p q : Prop} (h : q) (e : p = q := by simp only [zao, fa52_0, zaH, Nat.reduceAdd, Nat.zero_add, eX, ↓reduceIte, Nat.reduceEqDiff, Int.reduceToNat]; exact rfl) : p := e.mpr h
theorem ycp {p q : Prop} (h : q) (e : p = q := by simp only [x_builtin, l_len, List.map_toArray, List.map_cons, List.map_nil, i_len_slice _ _ Try.underlying50, eX, ↓reduceIte, Nat.reduceEqDiff, Int.reduceToNat]; exact rfl) : p := e.mpr h
theorem ycq {p q : Prop} (h : q) (e : p = q := by simp only [zao, fa67_0, zaH, Nat.reduceAdd, Nat.zero_add, eX, ↓reduceIte, Nat.reduceEqDiff, Int.reduceToNat]; exact rfl) : p := e.mpr h
theorem ycr {p q : Prop} (h : q) (e : p = q := by simp only [x_builtin, l_len, List.map_toArray, List.map_cons, List.map_nil, i_len_slice _ _ Try.underlying64, eX, ↓reduceIte, Nat.reduceEqDiff, Int.reduceToNat]; exact rfl) : p := e.mpr h
set_option maxRecDepth 100000 in
set_option maxHeartbeats 1000000 in
theorem rhas_ok (H : Hp) (a : Option Addr) (cap : Nat) (X : List RDX) (hX : RX H a cap X) (m : RSt) (hm : m.dv = rdv X) (dev i : Int) : CallH Try.prog 58 #[m.v (.slice a X.length cap), .int .i64 dev, .int .i64 i] H (fun v H' => v = .bool (m.has dev i) ∧ H' = H) := by
 refine zam (l := [_, _, _]) (rl := [.tmp 6]) (n := 31) Try.func58 rfl rfl rfl rfl rfl ?_
 refine yaa ?_
 have hlen : m.dv.length = X.length := by rw [hm]; simp
 refine zac (fun K1 hK1 => ?_)
 refine zaa ?_
 refine zab (fun K hK r => ?_)
 refine yaW ?_
 intro b3 hb3
 have f3_H : H b3 = none := zag lhA hb3
 refine yaf ?_
 refine hK _ _ ?_; clear hK K
 refine zaj rfl ?_
 refine zad ?_
 refine yab ?_
 refine hK1 _ _ ?_; try clear hK1 K1
 refine zac (fun K2 hK2 => ?_)
 refine zaa ?_
 refine zah rfl ?_
 refine zab (fun K hK r => ?_)
 refine yav ?_
 refine hK _ _ ?_; clear hK K
 refine zah rfl ?_
 (first | refine zaA (d := 9) rfl (fun g9 => ?_) (fun g9 => ?_) | skip)
 all_goals try (exfalso; exact cnA g9)
 all_goals (try replace g9 := yad g9)
 all_goals
  refine yaf ?_
  first
  |refine yGT (fun K hK r => ?_)
   refine yai ?_
   refine hK _ _ ?_; clear hK K
  |refine yGF ?_
   refine yaj ?_
  first
  |refine yGT (fun K hK r => ?_)
   refine yco ?_
   refine hK _ _ ?_; clear hK K
  |refine yGF ?_
   refine yaj ?_
  first
  |refine yGT (fun K hK r => ?_)
   refine yap ?_
   refine zae Try.underlying50 rfl hbA ldA ?_
   refine yaf ?_
   refine hK _ _ ?_; clear hK K
  |refine yGF ?_
   refine yaj ?_
  first
  |refine yGT (fun K hK r => ?_)
   refine ycp ?_
   refine hK _ _ ?_; clear hK K
  |refine yGF ?_
   refine yaj ?_
  first
  |refine yGT (fun K hK r => ?_)
   refine yac ?_
   refine hK _ _ ?_; clear hK K
  |refine yGF ?_
   refine yaj ?_
  refine zab (fun K hK r => ?_)
  refine yal ?_
  refine hK _ _ ?_; clear hK K
  refine zah rfl ?_
  (first | refine zaA (d := 16) rfl (fun g16 => ?_) (fun g16 => ?_) | skip)
  all_goals try (exfalso; exact cnA g16)
  all_goals (try replace g16 := yad g16)
  all_goals
   refine yaf ?_
   first
   |refine yGT (fun K hK r => ?_)
    refine yai ?_
    refine hK _ _ ?_; clear hK K
   |refine yGF ?_
    refine yaj ?_
   first
   |refine yGT (fun K hK r => ?_)
    refine yav ?_
    refine hK _ _ ?_; clear hK K
   |refine yGF ?_
    refine yaj ?_
   refine zab (fun K hK r => ?_)
   refine yal ?_
   refine hK _ _ ?_; clear hK K
   refine zah rfl ?_
   (first | refine zaA (d := 20) rfl (fun g20 => ?_) (fun g20 => ?_) | skip)
   all_goals try (exfalso; exact cnA g20)
   all_goals (try replace g20 := yad g20)
   all_goals
    refine yaf ?_
    first
    |refine yGT (fun K hK r => ?_)
     refine yai ?_
     refine hK _ _ ?_; clear hK K
    |refine yGF ?_
     refine yaj ?_
    first
    |refine yGT (fun K hK r => ?_)
     refine yco ?_
     refine hK _ _ ?_; clear hK K
    |refine yGF ?_
     refine yaj ?_
    first
    |refine yGT (fun K hK r => ?_)
     refine yap ?_
     refine zae Try.underlying50 rfl hbA ldA ?_
     refine yaf ?_
     refine hK _ _ ?_; clear hK K
    |refine yGF ?_
     refine yaj ?_
    first
    |refine yGT (fun K hK r => ?_)
     refine yai ?_
     refine hK _ _ ?_; clear hK K
    |refine yGF ?_
     refine yaj ?_
    first
    |refine yGT (fun K hK r => ?_)
     refine yaw ?_
     obtain ⟨bw, ow, cw, Tw, Fw, ew, hbw, hsw, atw⟩ := hX.h.at (by omega)
     refine zaK Try.underlying50 sz67 ew ixA ixA ?_
     refine hK _ _ ?_; clear hK K
    |refine yGF ?_
     refine yaj ?_
    first
    |refine yGT (fun K hK r => ?_)
     refine ycq ?_
     refine hK _ _ ?_; clear hK K
    |refine yGF ?_
     refine yaj ?_
    first
    |refine yGT (fun K hK r => ?_)
     refine yap ?_
     refine zae Try.underlying64 rfl ((zap _ _ (zaf hbw f3_H)).trans hbw) (v := .slice (X.getD dev.toNat default).sa (X.getD dev.toNat default).d.sec.length (X.getD dev.toNat default).sc) (by first | exact cell_at RDX.len atw rfl dev.toNat (by omega) 0 (by decide) | (rw [cell_at RDX.len atw rfl dev.toNat (by omega) 0 (by decide)]; rfl)) ?_
     refine hK _ _ ?_; clear hK K
    |refine yGF ?_
     refine yaj ?_
    first
    |refine yGT (fun K hK r => ?_)
     refine ycr ?_
     refine hK _ _ ?_; clear hK K
    |refine yGF ?_
     refine yaj ?_
    first
    |refine yGT (fun K hK r => ?_)
     refine yac ?_
     refine hK _ _ ?_; clear hK K
    |refine yGF ?_
     refine yaj ?_
    refine zab (fun K hK r => ?_)
    refine yal ?_
    refine hK _ _ ?_; clear hK K
    refine zaj rfl ?_
    refine zad ?_
    refine yab ?_
    refine hK2 _ _ ?_; try clear hK2 K2
    refine zaz ?_
    refine yab ?_
    refine ⟨[_], ⟨rfl, trivial⟩, H, lhA, ?_, rfl⟩
    show Value.bool _ = _
    congr 1
    unfold RSt.has
    rw [hlen, hm, rdv_at]
    first | (symm; simp only [Bool.and_eq_false_iff, decide_eq_false_iff_not]; omega) | (rw [Bool.eq_iff_iff]; simp only [Bool.and_eq_true, decide_eq_true_eq]; omega)
theorem ycs {p q : Prop} (h : q) (e : p = q := by simp only [x_alloc, zr52, zay, Value.cells, eX, ↓reduceIte, Nat.reduceEqDiff, Int.reduceToNat]; exact rfl) : p := e.mpr h
theorem yct {p q : Prop} (h : q) (e : p = q := by simp only [zao, fa52_4, zaH, Nat.reduceAdd, Nat.zero_add, eX, ↓reduceIte, Nat.reduceEqDiff, Int.reduceToNat]; exact rfl) : p := e.mpr h
theorem ycu {p q : Prop} (h : q) (e : p = q := by simp only [zao, fa52_2, zaH, Nat.reduceAdd, Nat.zero_add, eX, ↓reduceIte, Nat.reduceEqDiff, Int.reduceToNat]; exact rfl) : p := e.mpr h
theorem ycv {p q : Prop} (h : q) (e : p = q := by simp only [zao, fa52_1, zaH, Nat.reduceAdd, Nat.zero_add, eX, ↓reduceIte, Nat.reduceEqDiff, Int.reduceToNat]; exact rfl) : p := e.mpr h
set_option maxRecDepth 100000 in
set_option maxHeartbeats 1000000 in
theorem rstep_ok (H : Hp) (dvv : Value) (hp : plainCell dvv = true) (m : RSt) : CallH Try.prog 59 #[m.v dvv] H (fun v H' => v = .tuple #[m.step.1.v dvv, .bool m.step.2] ∧ H' = H) := by
 refine zam (l := [_]) (rl := [.cell 2 52, .tmp 3]) (n := 23) Try.func59 rfl rfl rfl rfl rfl ?_
 refine yaa ?_
 refine zac (fun K1 hK1 => ?_)
 refine zaa ?_
 refine zab (fun K hK r => ?_)
 refine yaW ?_
 intro b1 hb1
 have f1_H : H b1 = none := zag lhA hb1
 refine yaf ?_
 refine hK _ _ ?_; clear hK K
 refine zab (fun K hK r => ?_)
 refine ycs ?_
 intro b2 hb2
 try have n2_b1 : b1 ≠ b2 := zaf hbA hb2
 have f2_H : H b2 = none := zag lhA hb2
 refine yaf ?_
 refine hK _ _ ?_; clear hK K
 refine zaj rfl ?_
 refine zad ?_
 refine yab ?_
 refine hK1 _ _ ?_; try clear hK1 K1
 refine zac (fun K2 hK2 => ?_)
 refine zac (fun K3 hK3 => ?_)
 refine zaa ?_
 refine zab (fun K hK r => ?_)
 refine yct ?_
 refine hK _ _ ?_; clear hK K
 refine zab (fun K hK r => ?_)
 refine yap ?_
 refine zae Try.underlying4 rfl hbA ldA ?_
 refine yaf ?_
 refine hK _ _ ?_; clear hK K
 refine zad ?_
 refine yab ?_
 refine hK3 _ _ ?_; try clear hK3 K3
 refine zar (fun r => rfl) (fun c5 => ?_) (fun c5 => ?_)
 ·first
  |(exfalso; exact cnA c5; done)
  |skip
   (try replace c5 := yad c5)
   refine zac (fun K4 hK4 => ?_)
   refine zaa ?_
   refine zab (fun K hK r => ?_)
   refine yap ?_
   first | refine zax Try.underlying52 rfl sz52 hbA bdA ?_ | refine zaq Try.underlying52 rfl sz52 hbA bdA ?_
   refine ybg ?_
   refine yaf ?_
   refine hK _ _ ?_; clear hK K
   refine zaI rfl (zas) (fun K hK r => ?_)
   refine yaD ?_
   first | refine zak sz52 bdA hbA bdA plA (by decide) ?_ | refine zal sz52 bdA hbA bdA plA (by decide) ?_
   refine yaf ?_
   refine hK _ _ ?_; clear hK K
   refine zaj rfl ?_
   refine zad ?_
   refine yab ?_
   refine hK4 _ _ ?_; try clear hK4 K4
   refine zaz ?_
   refine yab ?_
   refine ⟨[_, _], ⟨⟨_, rfl, zaC Try.underlying52 rfl sz52 hbA bdA⟩, rfl, trivial⟩, H, lhA, ?_, rfl⟩
   unfold RSt.step
   first | (simp_all; done) | (simp_all; rfl) | (split <;> first | (simp_all; done) | (simp_all; rfl))
 ·first
  |(exfalso; exact cnA c5; done)
  |skip
   (try replace c5 := yad c5)
   refine zau ?_
   refine yab ?_
   refine hK2 _ _ ?_; try clear hK2 K2
   refine zac (fun K5 hK5 => ?_)
   refine zac (fun K6 hK6 => ?_)
   refine zaa ?_
   refine zab (fun K hK r => ?_)
   simp only [zao, fa52_3, zaH, Nat.reduceAdd, Nat.zero_add, eX, ↓reduceIte, Nat.reduceEqDiff, Int.reduceToNat]
   refine hK _ _ ?_; clear hK K
   refine zab (fun K hK r => ?_)
   refine yap ?_
   refine zae Try.underlying4 rfl hbA ldA ?_
   refine yaf ?_
   refine hK _ _ ?_; clear hK K
   refine zad ?_
   refine yab ?_
   refine hK6 _ _ ?_; try clear hK6 K6
   refine zar (fun r => rfl) (fun c8 => ?_) (fun c8 => ?_)
   ·first
    |(exfalso; exact cnA c8; done)
    |skip
     (try replace c8 := yad c8)
     refine zac (fun K7 hK7 => ?_)
     refine zac (fun K8 hK8 => ?_)
     refine zaa ?_
     refine zab (fun K hK r => ?_)
     refine ycu ?_
     refine hK _ _ ?_; clear hK K
     refine zab (fun K hK r => ?_)
     refine yap ?_
     refine zae Try.underlying3 rfl hbA ldA ?_
     refine yaf ?_
     refine hK _ _ ?_; clear hK K
     refine zab (fun K hK r => ?_)
     refine yas ?_
     refine hK _ _ ?_; clear hK K
     refine zad ?_
     refine yab ?_
     refine hK8 _ _ ?_; try clear hK8 K8
     refine zar (fun r => rfl) (fun c11 => ?_) (fun c11 => ?_)
     ·first
      |(exfalso; exact cnA c11; done)
      |skip
       (try replace c11 := yad c11)
       refine zac (fun K9 hK9 => ?_)
       refine zaa ?_
       refine zab (fun K hK r => ?_)
       refine yct ?_
       refine hK _ _ ?_; clear hK K
       refine zaI rfl (zas) (fun K hK r => ?_)
       refine yaD ?_
       refine zaE sz4 hbA bdA plA fzA ?_
       refine yaE ?_
       refine yaf ?_
       refine hK _ _ ?_; clear hK K
       refine zad ?_
       refine yab ?_
       refine hK9 _ _ ?_; try clear hK9 K9
       refine zac (fun K10 hK10 => ?_)
       refine zaa ?_
       refine zab (fun K hK r => ?_)
       refine yap ?_
       first | refine zax Try.underlying52 rfl sz52 hbA bdA ?_ | refine zaq Try.underlying52 rfl sz52 hbA bdA ?_
       refine ybg ?_
       refine yaf ?_
       refine hK _ _ ?_; clear hK K
       refine zaI rfl (zas) (fun K hK r => ?_)
       refine yaD ?_
       first | refine zak sz52 bdA hbA bdA plA (by decide) ?_ | refine zal sz52 bdA hbA bdA plA (by decide) ?_
       refine yaf ?_
       refine hK _ _ ?_; clear hK K
       refine zaj rfl ?_
       refine zad ?_
       refine yab ?_
       refine hK10 _ _ ?_; try clear hK10 K10
       refine zaz ?_
       refine yab ?_
       refine ⟨[_, _], ⟨⟨_, rfl, zaC Try.underlying52 rfl sz52 hbA bdA⟩, rfl, trivial⟩, H, lhA, ?_, rfl⟩
       unfold RSt.step
       first | (simp_all; done) | (simp_all; rfl) | (split <;> first | (simp_all; done) | (simp_all; rfl))
     ·first
      |(exfalso; exact cnA c11; done)
      |skip
       (try replace c11 := yad c11)
       refine zau ?_
       refine yab ?_
       refine hK7 _ _ ?_; try clear hK7 K7
       refine zaa ?_
       refine zab (fun K hK r => ?_)
       refine ycu ?_
       refine hK _ _ ?_; clear hK K
       refine zab (fun K hK r => ?_)
       refine yap ?_
       refine zae Try.underlying3 rfl hbA ldA ?_
       refine yaf ?_
       refine hK _ _ ?_; clear hK K
       refine zab (fun K hK r => ?_)
       refine yaG ?_
       refine hK _ _ ?_; clear hK K
       refine zab (fun K hK r => ?_)
       refine ycu ?_
       refine hK _ _ ?_; clear hK K
       refine zaI rfl (zas) (fun K hK r => ?_)
       refine yaD ?_
       refine zaE sz3 hbA bdA plA fzA ?_
       refine yaE ?_
       refine yaf ?_
       refine hK _ _ ?_; clear hK K
       refine zad ?_
       refine yab ?_
       refine hK5 _ _ ?_; try clear hK5 K5
       refine zac (fun K11 hK11 => ?_)
       refine zaa ?_
       refine zab (fun K hK r => ?_)
       refine ycv ?_
       refine hK _ _ ?_; clear hK K
       refine zab (fun K hK r => ?_)
       refine yap ?_
       refine zae Try.underlying3 rfl hbA ldA ?_
       refine yaf ?_
       refine hK _ _ ?_; clear hK K
       refine zab (fun K hK r => ?_)
       refine yaq ?_
       refine hK _ _ ?_; clear hK K
       refine zab (fun K hK r => ?_)
       refine ycv ?_
       refine hK _ _ ?_; clear hK K
       refine zaI rfl (zas) (fun K hK r => ?_)
       refine yaD ?_
       refine zaE sz3 hbA bdA plA fzA ?_
       refine yaE ?_
       refine yaf ?_
       refine hK _ _ ?_; clear hK K
       refine zad ?_
       refine yab ?_
       refine hK11 _ _ ?_; try clear hK11 K11
       refine zac (fun K12 hK12 => ?_)
       refine zaa ?_
       refine zab (fun K hK r => ?_)
       refine yap ?_
       first | refine zax Try.underlying52 rfl sz52 hbA bdA ?_ | refine zaq Try.underlying52 rfl sz52 hbA bdA ?_
       refine ybg ?_
       refine yaf ?_
       refine hK _ _ ?_; clear hK K
       refine zaI rfl (zas) (fun K hK r => ?_)
       refine yaD ?_
       first | refine zak sz52 bdA hbA bdA plA (by decide) ?_ | refine zal sz52 bdA hbA bdA plA (by decide) ?_
       refine yaf ?_
       refine hK _ _ ?_; clear hK K
       refine zaj rfl ?_
       refine zad ?_
       refine yab ?_
       refine hK12 _ _ ?_; try clear hK12 K12
       refine zaz ?_
       refine yab ?_
       refine ⟨[_, _], ⟨⟨_, rfl, zaC Try.underlying52 rfl sz52 hbA bdA⟩, rfl, trivial⟩, H, lhA, ?_, rfl⟩
       unfold RSt.step
       first | (simp_all; done) | (simp_all; rfl) | (split <;> first | (simp_all; done) | (simp_all; rfl))
   ·first
    |(exfalso; exact cnA c8; done)
    |skip
     (try replace c8 := yad c8)
     refine zau ?_
     refine yab ?_
     refine hK5 _ _ ?_; try clear hK5 K5
     refine zac (fun K13 hK13 => ?_)
     refine zaa ?_
     refine zab (fun K hK r => ?_)
     refine ycv ?_
     refine hK _ _ ?_; clear hK K
     refine zab (fun K hK r => ?_)
     refine yap ?_
     refine zae Try.underlying3 rfl hbA ldA ?_
     refine yaf ?_
     refine hK _ _ ?_; clear hK K
     refine zab (fun K hK r => ?_)
     refine yaq ?_
     refine hK _ _ ?_; clear hK K
     refine zab (fun K hK r => ?_)
     refine ycv ?_
     refine hK _ _ ?_; clear hK K
     refine zaI rfl (zas) (fun K hK r => ?_)
     refine yaD ?_
     refine zaE sz3 hbA bdA plA fzA ?_
     refine yaE ?_
     refine yaf ?_
     refine hK _ _ ?_; clear hK K
     refine zad ?_
     refine yab ?_
     refine hK13 _ _ ?_; try clear hK13 K13
     refine zac (fun K14 hK14 => ?_)
     refine zaa ?_
     refine zab (fun K hK r => ?_)
     refine yap ?_
     first | refine zax Try.underlying52 rfl sz52 hbA bdA ?_ | refine zaq Try.underlying52 rfl sz52 hbA bdA ?_
     refine ybg ?_
     refine yaf ?_
     refine hK _ _ ?_; clear hK K
     refine zaI rfl (zas) (fun K hK r => ?_)
     refine yaD ?_
     first | refine zak sz52 bdA hbA bdA plA (by decide) ?_ | refine zal sz52 bdA hbA bdA plA (by decide) ?_
     refine yaf ?_
     refine hK _ _ ?_; clear hK K
     refine zaj rfl ?_
     refine zad ?_
     refine yab ?_
     refine hK14 _ _ ?_; try clear hK14 K14
     refine zaz ?_
     refine yab ?_
     refine ⟨[_, _], ⟨⟨_, rfl, zaC Try.underlying52 rfl sz52 hbA bdA⟩, rfl, trivial⟩, H, lhA, ?_, rfl⟩
     unfold RSt.step
     first | (simp_all; done) | (simp_all; rfl) | (split <;> first | (simp_all; done) | (simp_all; rfl))
end Go.Proofs.Ytigofhhonnbkmaa.HL
end
