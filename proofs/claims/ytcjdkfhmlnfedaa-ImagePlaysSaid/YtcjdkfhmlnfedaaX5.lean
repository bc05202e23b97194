/- Parts of the proof, one behind the other: I32, I33, I40, I41, I42, I43, I44, I45, I50, I46, I47, I51, R40, R41, R42, R43, R44, R45, R46, R47. -/
import Derived.Test.YtcjdkfhmlnfedaaX4
set_option linter.unusedSimpArgs false
set_option linter.unusedVariables false
section
namespace Go.Proofs.Ytcjdkfhmlnfedaa.HL
open Go Go.Proofs
set_option linter.unusedSimpArgs false
set_option linter.unusedVariables false
attribute [local irreducible] Lt Lq CW OW TW CallH
set_option maxRecDepth 100000 in
set_option maxHeartbeats 1000000 in
theorem clone_ok (H : Hp) (v : Value) (l : List Int) (hv : Holds H 1 v l.length (u8s l)) (hl : l.length ≤ 10000000) : CallH Try.prog 60 #[v] H (fun v' H' => Le H H' ∧ ∃ rs, OwnS H' 5 1 v' l.length (u8s l) rs ∧ ∀ r, rs = some r → H r = none) := by
 refine zaB (l := [_]) (rl := [.tmp 2]) (n := 8) Try.func60 rfl rfl rfl rfl rfl ?_
 simp only [envOf, Nat.reduceAdd]
 obtain ⟨a, cap, rfl⟩ := hv.form
 refine zad (fun K1 hK1 => ?_)
 refine zaa ?_
 refine zao rfl ?_
 refine zae ?_
 try simp only [Ex.thnH, Ex.inBlockH, ↓reduceIte, Nat.reduceEqDiff]
 refine hK1 _ _ ?_; try clear hK1 K1
 refine zad (fun K2 hK2 => ?_)
 refine zad (fun K3 hK3 => ?_)
 refine zaa ?_
 refine zam rfl ?_
 refine zac (fun K hK r => ?_)
 simp only [zaF, zaH, g_bool, zbo, zbk, g_slice, g_map, g_func, zbl, g_iface, zbe, g_nil_r, g_nil_l, eX, ↓reduceIte, Nat.reduceEqDiff, Int.reduceToNat]
 rw [e_eql _ _ _ _ (by simp)]
 rw [q_equal, q_slice_nil _ _ _ Try.underlying22]
 try simp only [eX, ↓reduceIte, Nat.reduceEqDiff, Int.reduceToNat]
 refine hK _ _ ?_; clear hK K
 refine zae ?_
 try simp only [Ex.thnH, Ex.inBlockH, ↓reduceIte, Nat.reduceEqDiff]
 refine hK3 _ _ ?_; try clear hK3 K3
 refine zaG (fun r => rfl) (fun c4 => ?_) (fun c4 => ?_)
 ·first
  |(exfalso; exact cnA c4; done)
  |skip
   (try simp only [decide_eq_true_eq, decide_eq_false_iff_not, Bool.not_eq_true, Bool.not_eq_false, Bool.and_eq_true, Bool.or_eq_true, Bool.or_eq_false_iff, Bool.not_eq_eq_eq_not, Bool.not_true, Bool.not_false] at c4)
   refine zad (fun K4 hK4 => ?_)
   refine zaa ?_
   refine zao rfl ?_
   refine zae ?_
   try simp only [Ex.thnH, Ex.inBlockH, ↓reduceIte, Nat.reduceEqDiff]
   refine hK4 _ _ ?_; try clear hK4 K4
   refine zaR ?_
   try simp only [Ex.thnH, Ex.inBlockH, ↓reduceIte, Nat.reduceEqDiff]
   have ha : a = none := by cases a with
    |none => rfl
    |some A => simp at c4
   subst ha
   have h0 : l = [] := by
    obtain ⟨h1, ⟨_, _, h2, h3⟩ | ⟨b, o, c, _, _, _, h2, _⟩⟩ := hv
    ·exact List.eq_nil_of_length_eq_zero h3
    ·cases h2
   subst h0
   exact ⟨[_], ⟨rfl, trivial⟩, _, Le.refl _, Le.refl _, none, OwnS.nil _ _ _, fun r hr => by cases hr⟩
 ·first
  |(exfalso; exact cnA c4; done)
  |skip
   (try simp only [decide_eq_true_eq, decide_eq_false_iff_not, Bool.not_eq_true, Bool.not_eq_false, Bool.and_eq_true, Bool.or_eq_true, Bool.or_eq_false_iff, Bool.not_eq_eq_eq_not, Bool.not_true, Bool.not_false] at c4)
   refine zaO ?_
   try simp only [Ex.thnH, Ex.inBlockH, ↓reduceIte, Nat.reduceEqDiff]
   refine hK2 _ _ ?_; try clear hK2 K2
   refine zad (fun K5 hK5 => ?_)
   refine zaa ?_
   refine zac (fun K hK r => ?_)
   simp only [zbn, List.map_toArray, List.map_cons, List.map_nil, eX, ↓reduceIte, Nat.reduceEqDiff, Int.reduceToNat]
   refine zbm (vs := []) Try.underlying22 sz5 zr5 rfl bsA (by first | decide | (simp; done)) ?_
   simp only [List.flatMap_cons, List.flatMap_nil, Value.cells, List.append_nil, List.cons_append, List.nil_append, List.length_cons, List.length_nil, Nat.zero_add, Nat.reduceAdd]
   intro b5 hb5
   have f5_H : H b5 = none := zaj lhA hb5
   try simp only [eX, ↓reduceIte, Nat.reduceEqDiff, Int.reduceToNat]
   refine hK _ _ ?_; clear hK K
   refine zam rfl ?_
   refine zac (fun K hK r => ?_)
   simp only [zaM, l_append, List.map_toArray, List.map_cons, List.map_nil, eX, ↓reduceIte, Nat.reduceEqDiff, Int.reduceToNat]
   refine Lt_appendNew Try.underlying22 sz5 by5 (by decide) zr5 rfl _ hbA (hv.le lhA) (PlainL.ints _ _) (by omega) ?_
   intro v7 H7 rs7 hg7 ho7 hr7
   have lH7_H : Le H H7 := hg7.le (H0 := H) lhA (fun r hr => by cases hr; exact f5_H)
   refine hK _ _ ?_; clear hK K
   refine zao rfl ?_
   refine zae ?_
   try simp only [Ex.thnH, Ex.inBlockH, ↓reduceIte, Nat.reduceEqDiff]
   refine hK5 _ _ ?_; try clear hK5 K5
   refine zaR ?_
   try simp only [Ex.thnH, Ex.inBlockH, ↓reduceIte, Nat.reduceEqDiff]
   exact ⟨[_], ⟨rfl, trivial⟩, _, Le.refl _, lH7_H, rs7, ho7, fun r hr => by
    rcases hr7 r hr with h | h
    ·subst h; exact f5_H
    ·exact zaj lhA h⟩
def chk (l : List Int) (i : Nat) : List Int := (l.drop (50 * i)).take 50
def chN (l : List Int) : Nat := (l.length + 49) / 50
theorem chk_len {l : List Int} {i : Nat} (h : i < chN l) : 0 < (chk l i).length ∧ (chk l i).length ≤ 50 ∧ (chk l i).length = min 50 (l.length - 50 * i) := by
  unfold chN at h; unfold chk; simp; omega
def TChunk (H0 : Hp) (l : List Int) : Nat → List Value → Hp → Prop := fun i args F => F = emptyHp ∧ ∃ v, args = [v] ∧ Holds H0 1 v (chk l i).length (u8s (chk l i))
theorem holds_chk {H : Hp} {a : Option Addr} {cap : Nat} {l : List Int} (hv : Holds H 1 (.slice a l.length cap) l.length (u8s l)) {i n : Nat} (hi : i < chN l) (hn : n = (chk l i).length) (m : Nat) (hm : 50 * i + n ≤ m) :
    Holds H 1 (.slice (if m = 50 * i then a else a.map (·.add (50 * i * 1))) (50 * i + n - 50 * i) (m - 50 * i)) (50 * i + n - 50 * i) (u8s (chk l i)) := by
  have hl := chk_len hi
  have h := Holds.slice (l := 50 * i) (h := 50 * i + n) (m := m) hv (by omega) (by omega) (by omega)
  have e : ((u8s l).drop (50 * i * 1)).take ((50 * i + n - 50 * i) * 1) = u8s (chk l i) := by
    unfold chk u8s
    rw [← List.map_drop, ← List.map_take, Nat.mul_one, Nat.mul_one]
    congr 1
    have e2 : 50 * i + n - 50 * i = n := by omega
    rw [e2, hn]
    unfold chk
    simp [List.take_eq_take_iff]
  rw [e] at h; exact h
set_option maxRecDepth 100000 in
set_option maxHeartbeats 1000000 in
theorem Chunk_ok (H : Hp) (a : Option Addr) (n cap : Nat) : CallH Try.prog 59 #[.slice a n cap, .int .i64 50] H (fun v' H' => ∃ b2 b3, H b2 = none ∧ H b3 = none ∧ b2 ≠ b3 ∧ v' = .func (.func 67) #[] #[.pointer (some ⟨b2, 0, none⟩), .pointer (some ⟨b3, 0, none⟩)] ∧ H' = (H.upd b2 (.cells #[.slice a n cap] 22)).upd b3 (.cells #[.int .i64 50] 3)) := by
 refine zaB (l := [_, _]) (rl := [.tmp 4]) (n := 9) Try.func59 rfl rfl rfl rfl rfl ?_
 simp only [envOf, Nat.reduceAdd]
 refine zad (fun K1 hK1 => ?_)
 refine zaa ?_
 refine zac (fun K hK r => ?_)
 simp only [x_box, Value.cells, eX, ↓reduceIte, Nat.reduceEqDiff, Int.reduceToNat]
 intro b2 hb2
 have f2_H : H b2 = none := zaj lhA hb2
 try simp only [eX, ↓reduceIte, Nat.reduceEqDiff, Int.reduceToNat]
 refine hK _ _ ?_; clear hK K
 refine zac (fun K hK r => ?_)
 simp only [x_box, Value.cells, eX, ↓reduceIte, Nat.reduceEqDiff, Int.reduceToNat]
 intro b3 hb3
 try have n3_b2 : b2 ≠ b3 := zai hbA hb3
 have f3_H : H b3 = none := zaj lhA hb3
 have n23 := n3_b2
 try simp only [eX, ↓reduceIte, Nat.reduceEqDiff, Int.reduceToNat]
 refine hK _ _ ?_; clear hK K
 refine zao rfl ?_
 refine zae ?_
 try simp only [Ex.thnH, Ex.inBlockH, ↓reduceIte, Nat.reduceEqDiff]
 refine hK1 _ _ ?_; try clear hK1 K1
 refine zad (fun K2 hK2 => ?_)
 refine zad (fun K3 hK3 => ?_)
 refine zaa ?_
 refine zac (fun K hK r => ?_)
 simp only [zan, eX, ↓reduceIte, Nat.reduceEqDiff, Int.reduceToNat]
 refine zak Try.underlying3 rfl hbA ldA ?_
 try simp only [eX, ↓reduceIte, Nat.reduceEqDiff, Int.reduceToNat]
 refine hK _ _ ?_; clear hK K
 refine zac (fun K hK r => ?_)
 simp (disch := (first | omega | decide)) only [zaF, zaH, b_lss, zaq, zar, zat, zau, zas, zav, Bool.not_true, Bool.not_false, eX, ↓reduceIte, Nat.reduceEqDiff, Int.reduceToNat]
 refine hK _ _ ?_; clear hK K
 refine zae ?_
 try simp only [Ex.thnH, Ex.inBlockH, ↓reduceIte, Nat.reduceEqDiff]
 refine hK3 _ _ ?_; try clear hK3 K3
 refine zaG (fun r => rfl) (fun c6 => ?_) (fun c6 => ?_)
 ·first
  |(exfalso; exact cnA c6; done)
  |skip
   (try simp only [decide_eq_true_eq, decide_eq_false_iff_not, Bool.not_eq_true, Bool.not_eq_false, Bool.and_eq_true, Bool.or_eq_true, Bool.or_eq_false_iff, Bool.not_eq_eq_eq_not, Bool.not_true, Bool.not_false] at c6)
   refine zaa ?_
   refine zac (fun K hK r => ?_)
   simp only [zbf, zbg, Try.underlying9, zal, eX, ↓reduceIte, Nat.reduceEqDiff, Int.reduceToNat]
   refine hK _ _ ?_; clear hK K
   refine zbq rfl (zaJ) (fun K hK r => ?_)
   simp only [x_panic, eX, ↓reduceIte, Nat.reduceEqDiff, Int.reduceToNat]
   fail "left out: TODO panic slot None"
 ·first
  |(exfalso; exact cnA c6; done)
  |skip
   (try simp only [decide_eq_true_eq, decide_eq_false_iff_not, Bool.not_eq_true, Bool.not_eq_false, Bool.and_eq_true, Bool.or_eq_true, Bool.or_eq_false_iff, Bool.not_eq_eq_eq_not, Bool.not_true, Bool.not_false] at c6)
   refine zaO ?_
   try simp only [Ex.thnH, Ex.inBlockH, ↓reduceIte, Nat.reduceEqDiff]
   refine hK2 _ _ ?_; try clear hK2 K2
   refine zad (fun K4 hK4 => ?_)
   refine zaa ?_
   refine zac (fun K hK r => ?_)
   simp only [x_makeFunc, List.map_toArray, List.map_cons, List.map_nil, eX, ↓reduceIte, Nat.reduceEqDiff, Int.reduceToNat]
   refine hK _ _ ?_; clear hK K
   refine zao rfl ?_
   refine zae ?_
   try simp only [Ex.thnH, Ex.inBlockH, ↓reduceIte, Nat.reduceEqDiff]
   refine hK4 _ _ ?_; try clear hK4 K4
   refine zaR ?_
   try simp only [Ex.thnH, Ex.inBlockH, ↓reduceIte, Nat.reduceEqDiff]
   exact ⟨[_], ⟨rfl, trivial⟩, _, Le.refl _, b2, b3, hb2, f3_H, n23, rfl, rfl⟩
set_option maxRecDepth 100000 in
set_option maxHeartbeats 4000000 in
theorem chunk1_ok (H0 : Hp) (b2 b3 : Nat) (a : Option Addr) (cap : Nat) (l : List Int) (hv : Holds H0 1 (.slice a l.length cap) l.length (u8s l)) (hcap : l.length ≤ cap) (h2 : H0 b2 = some (.cells #[.slice a l.length cap] 22)) (h3 : H0 b3 = some (.cells #[.int .i64 50] 3)) (hl : l.length ≤ 100000) (yf : Fn) (ya yb : Array Value) (J : Nat → Hp → Prop) (S : Hp → Prop) (H : Hp) (hle : ∀ i H, J i H → Le H0 H) (hy : ∀ i, i < chN l → ∀ H, J i H → ∀ args F, TChunk H0 l i args F → H.apart F → ValH Try.prog (.func yf ya yb) args.toArray (H.join F) (fun v H2 => ∃ H3, Le H3 H2 ∧ ((v = .bool true ∧ J (i + 1) H3) ∨ (v = .bool false ∧ S H3)))) (hj : J 0 H) :
 CallH Try.prog 67 #[.func yf ya yb, .pointer (some ⟨b2, 0, none⟩), .pointer (some ⟨b3, 0, none⟩)] H (fun _ H2 => ∃ H3, Le H3 H2 ∧ (J (chN l) H3 ∨ S H3)) := by
 refine zaB (l := [_, _, _]) (rl := []) (n := 31) Try.func67 rfl rfl rfl rfl rfl ?_
 simp only [envOf, Nat.reduceAdd]
 refine zad (fun K1 hK1 => ?_)
 refine zaa ?_
 refine zao rfl ?_
 refine zae ?_
 try simp only [Ex.thnH, Ex.inBlockH, ↓reduceIte, Nat.reduceEqDiff]
 refine hK1 _ _ ?_; try clear hK1 K1
 refine zaV ?_
 refine CW_loop (fun m e H_ => ∃ (k : Nat) (HJ : Hp), k ≤ chN l ∧ m = chN l - k ∧ J k HJ ∧ Le HJ H_ ∧ Env.has [(0, .func yf ya yb), (1, .pointer (some ⟨b2, 0, none⟩)), (2, .pointer (some ⟨b3, 0, none⟩)), (4, .int .i64 ((50 * k : Nat) : Int))] e) (chN l) ?_ ?_
 ·skip
  exact ⟨0, H, by omega, by omega, hj, Le.refl _, rfl, rfl, rfl, rfl, trivial⟩
 intro m_ e_ H_ hI_
 obtain ⟨k, HJ, hk, rfl, hJ, hlJ, he⟩ := hI_
 have hl0 := Le.trans (hle k HJ hJ) hlJ
 have hk2 := hl0 _ _ h2
 have hk3 := hl0 _ _ h3
 refine CW_env he.sub ?_; clear he e_
 refine zad (fun K2 hK2 => ?_)
 refine zad (fun K3 hK3 => ?_)
 refine zaa ?_
 refine zam rfl ?_
 refine zac (fun K hK r => ?_)
 simp only [zan, eX, ↓reduceIte, Nat.reduceEqDiff, Int.reduceToNat]
 refine zak Try.underlying22 rfl hbA ldA ?_
 try simp only [eX, ↓reduceIte, Nat.reduceEqDiff, Int.reduceToNat]
 refine hK _ _ ?_; clear hK K
 refine zac (fun K hK r => ?_)
 simp only [zaM, l_len, List.map_toArray, List.map_cons, List.map_nil, zaS _ _ Try.underlying22, eX, ↓reduceIte, Nat.reduceEqDiff, Int.reduceToNat]
 refine hK _ _ ?_; clear hK K
 refine zac (fun K hK r => ?_)
 simp (disch := (first | omega | decide)) only [zaF, zaH, b_lss, zaq, zar, zat, zau, zas, zav, Bool.not_true, Bool.not_false, eX, ↓reduceIte, Nat.reduceEqDiff, Int.reduceToNat]
 refine hK _ _ ?_; clear hK K
 refine zae ?_
 try simp only [Ex.thnH, Ex.inBlockH, ↓reduceIte, Nat.reduceEqDiff]
 refine hK3 _ _ ?_; try clear hK3 K3
 refine zaG (fun r => rfl) (fun c9 => ?_) (fun c9 => ?_)
 ·first
  |(exfalso; exact cnA c9; done)
  |skip
   (try simp only [decide_eq_true_eq, decide_eq_false_iff_not, Bool.not_eq_true, Bool.not_eq_false, Bool.and_eq_true, Bool.or_eq_true, Bool.or_eq_false_iff, Bool.not_eq_eq_eq_not, Bool.not_true, Bool.not_false] at c9)
   have hkN : k < chN l := by unfold chN; omega
   have hcl := chk_len hkN
   refine zaO ?_
   try simp only [Ex.thnH, Ex.inBlockH, ↓reduceIte, Nat.reduceEqDiff]
   refine hK2 _ _ ?_; try clear hK2 K2
   refine zad (fun K4 hK4 => ?_)
   refine zaV ?_
   refine zad (fun K5 hK5 => ?_)
   refine CW_drawE [1, 1, 0, 0, 0, 0, 0] [0, 1, 2, 3, 4, 5, 6] (by kernel_rfl) (by kernel_rfl) (fun R3 hR3 => ?_)
   apply TW_look rfl (zab (by decide)) rfl
   ·intro r
    simp only [zan, eX, ↓reduceIte, Nat.reduceEqDiff]
    refine zak Try.underlying3 rfl hbA ldA ?_
    exact ⟨rfl, Le.refl _⟩
   simp only [eX, ↓reduceIte, Nat.reduceEqDiff, Int.reduceToNat]
   apply TW_look rfl (zab (by decide)) rfl
   ·intro r
    simp only [zan, eX, ↓reduceIte, Nat.reduceEqDiff]
    refine zak Try.underlying22 rfl hbA ldA ?_
    exact ⟨rfl, Le.refl _⟩
   simp only [eX, ↓reduceIte, Nat.reduceEqDiff, Int.reduceToNat]
   apply zay rfl (zab (by decide)) rfl
   ·intro r
    simp only [zaU, eX, ↓reduceIte, Nat.reduceEqDiff]
    exact ⟨rfl, Le.refl _⟩
   simp only [eX, ↓reduceIte, Nat.reduceEqDiff, Int.reduceToNat]
   apply zay rfl (zab (by decide)) rfl
   ·intro r
    simp only [x_slice, Option.map_some, Option.map_none, eX, ↓reduceIte, Nat.reduceEqDiff]
    refine Lt_sliceS Try.underlying22 sz5 bound_none bound_none (bound_some ixA) bxA bxA bxA (by simp) ?_
    try simp only [zap, Nat.mul_one, Nat.zero_add, Int.reduceToNat, Nat.reduceSub, Nat.reduceEqDiff, ↓reduceIte]
    exact ⟨rfl, Le.refl _⟩
   simp only [eX, ↓reduceIte, Nat.reduceEqDiff, Int.reduceToNat]
   apply zay rfl (zab (by decide)) rfl
   ·intro r
    simp only [zaM, l_len, List.map_toArray, List.map_cons, List.map_nil, zaS _ _ Try.underlying22, eX, ↓reduceIte, Nat.reduceEqDiff]
    exact ⟨rfl, Le.refl _⟩
   simp only [eX, ↓reduceIte, Nat.reduceEqDiff, Int.reduceToNat]
   apply zay rfl (zab (by decide)) rfl
   ·intro r
    simp only [zaM, l_min, List.map_toArray, List.map_cons, List.map_nil, i_min2, eX, ↓reduceIte, Nat.reduceEqDiff]
    exact ⟨rfl, Le.refl _⟩
   simp only [eX, ↓reduceIte, Nat.reduceEqDiff, Int.reduceToNat]
   apply zay rfl (zab (by decide)) rfl
   ·intro r
    simp only [x_assign, eX, ↓reduceIte, Nat.reduceEqDiff]
    exact ⟨rfl, Le.refl _⟩
   simp only [eX, ↓reduceIte, Nat.reduceEqDiff, Int.reduceToNat]
   refine TW_nil ?_
   try simp only [Ex.thnH, Ex.inBlockH, ↓reduceIte, Nat.reduceEqDiff]
   refine hK5 _ _ ?_; try clear hK5 K5
   refine zad (fun K6 hK6 => ?_)
   refine zaa ?_
   refine zam rfl ?_
   refine zac (fun K hK r => ?_)
   simp only [zan, eX, ↓reduceIte, Nat.reduceEqDiff, Int.reduceToNat]
   refine zak Try.underlying22 rfl hbA ldA ?_
   try simp only [eX, ↓reduceIte, Nat.reduceEqDiff, Int.reduceToNat]
   refine hK _ _ ?_; clear hK K
   refine zam rfl ?_
   refine zam rfl ?_
   refine zam rfl ?_
   refine zac (fun K hK r => ?_)
   simp (disch := (first | omega | decide)) only [zaF, zaH, b_add, zaw, zaE, zaD, zaQ, eX, ↓reduceIte, Nat.reduceEqDiff, Int.reduceToNat]
   refine hK _ _ ?_; clear hK K
   refine zam rfl ?_
   refine zam rfl ?_
   refine zac (fun K hK r => ?_)
   simp (disch := (first | omega | decide)) only [zaF, zaH, b_add, zaw, zaE, zaD, zaQ, eX, ↓reduceIte, Nat.reduceEqDiff, Int.reduceToNat]
   refine hK _ _ ?_; clear hK K
   refine zac (fun K hK r => ?_)
   simp only [x_slice, Option.map_some, Option.map_none, eX, ↓reduceIte, Nat.reduceEqDiff, Int.reduceToNat]
   refine Lt_sliceS Try.underlying22 sz5 (bound_some ixA) (bound_some ixA) (bound_some ixA) bxA bxA bxA (by simp) ?_
   try simp only [zap, Nat.mul_one, Nat.zero_add, Int.reduceToNat, Nat.reduceSub, Nat.reduceEqDiff, ↓reduceIte]
   try simp only [eX, ↓reduceIte, Nat.reduceEqDiff, Int.reduceToNat]
   refine hK _ _ ?_; clear hK K
   refine zac (fun K hK r => ?_)
   simp only [x_call, List.map_toArray, List.map_cons, List.map_nil, eX, ↓reduceIte, Nat.reduceEqDiff, Int.reduceToNat]
   show ValH _ _ _ _ _
   have hmn : (if ((l.length - 50 * k : Nat) : Int) < 50 then ((l.length - 50 * k : Nat) : Int) else 50) = ((chk l k).length : Int) := by rw [hcl.2.2]; split <;> omega
   have hto : (((50 * k : Nat) : Int) + ((chk l k).length : Int)).toNat = 50 * k + (chk l k).length := by omega
   have e3 : 50 * k + (chk l k).length - 50 * k = (chk l k).length := by omega
   simp only [Int.toNat_natCast]
   simp only [hmn, hto, e3]
   have hh := holds_chk hv hkN rfl (50 * k + (chk l k).length) (Nat.le_refl _)
   simp only [Nat.mul_one, e3] at hh
   refine (Iter.yield0 (hy k hkN HJ hJ _ emptyHp ⟨rfl, _, rfl, hh⟩ (apart_empty _)) hlJ).mono ?_
   rintro v29 H29 ⟨t, H3, rfl, hl3, hyes, hno, _⟩
   try simp only [eX, ↓reduceIte, Nat.reduceEqDiff, Int.reduceToNat]
   refine hK _ _ ?_; clear hK K
   refine zac (fun K hK r => ?_)
   simp only [x_un, u_not, eX, ↓reduceIte, Nat.reduceEqDiff, Int.reduceToNat]
   refine hK _ _ ?_; clear hK K
   refine zae ?_
   try simp only [Ex.thnH, Ex.inBlockH, ↓reduceIte, Nat.reduceEqDiff]
   refine hK6 _ _ ?_; try clear hK6 K6
   refine zaG (fun r => rfl) (fun c30 => ?_) (fun c30 => ?_)
   ·first
    |(exfalso; exact cnA c30; done)
    |skip
     have q30 := c30
     refine zaR ?_
     try simp only [Ex.thnH, Ex.inBlockH, ↓reduceIte, Nat.reduceEqDiff]
     refine ⟨[], trivial, _, Le.refl _, H3, hl3, .inr (hno (by simpa using q30))⟩
   ·first
    |(exfalso; exact cnA c30; done)
    |skip
     have ht : t = true := by simpa using c30
     have hJ3 := hyes ht
     have hk3_ := hl3 _ _ (hle _ _ hJ3 _ _ h3)
     refine zaO ?_
     try simp only [Ex.thnH, Ex.inBlockH, ↓reduceIte, Nat.reduceEqDiff]
     refine hK4 _ _ ?_; try clear hK4 K4
     refine zaa ?_
     refine zam rfl ?_
     refine zac (fun K hK r => ?_)
     simp only [zan, eX, ↓reduceIte, Nat.reduceEqDiff, Int.reduceToNat]
     refine zak Try.underlying3 rfl hbA ldA ?_
     try simp only [eX, ↓reduceIte, Nat.reduceEqDiff, Int.reduceToNat]
     refine hK _ _ ?_; clear hK K
     refine zac (fun K hK r => ?_)
     simp (disch := (first | omega | decide)) only [zaF, zaH, b_add, zaw, zaE, zaD, zaQ, eX, ↓reduceIte, Nat.reduceEqDiff, Int.reduceToNat]
     refine hK _ _ ?_; clear hK K
     refine zao rfl ?_
     refine zae ?_
     try simp only [Ex.thnH, Ex.inBlockH, ↓reduceIte, Nat.reduceEqDiff]
     refine ⟨chN l - (k + 1), by omega, k + 1, H3, by omega, rfl, hJ3, hl3, rfl, rfl, rfl, ?_, trivial⟩
     show some (Value.int _ _) = some (Value.int _ _)
     first | (congr 2; done) | (congr 2; omega)
 ·first
  |(exfalso; exact cnA c9; done)
  |skip
   (try simp only [decide_eq_true_eq, decide_eq_false_iff_not, Bool.not_eq_true, Bool.not_eq_false, Bool.and_eq_true, Bool.or_eq_true, Bool.or_eq_false_iff, Bool.not_eq_eq_eq_not, Bool.not_true, Bool.not_false] at c9)
   have hkN : k = chN l := by unfold chN at hk ⊢; omega
   refine CW_exit ?_
   try simp only [Ex.thnH, Ex.inBlockH, ↓reduceIte, Nat.reduceEqDiff]
   subst hkN
   exact ⟨[], trivial, _, Le.refl _, HJ, hlJ, .inl hJ⟩
theorem iter_chunk (H0 : Hp) (b2 b3 : Nat) (a : Option Addr) (cap : Nat) (l : List Int) (hv : Holds H0 1 (.slice a l.length cap) l.length (u8s l)) (hcap : l.length ≤ cap) (h2 : H0 b2 = some (.cells #[.slice a l.length cap] 22)) (h3 : H0 b3 = some (.cells #[.int .i64 50] 3)) (hl : l.length ≤ 100000) :
  Iter Try.prog (.func (.func 67) #[] #[.pointer (some ⟨b2, 0, none⟩), .pointer (some ⟨b3, 0, none⟩)]) H0 (chN l) (TChunk H0 l) :=
  fun yf ya yb J S H hle hy hj => ValH_func bd67 (chunk1_ok H0 b2 b3 a cap l hv hcap h2 h3 hl yf ya yb J S H hle hy hj)
def TParts (l : List Int) : Nat → List Value → Hp → Prop := fun i args F => ∃ v r o, args = [.int .i64 i, v] ∧ F = emptyHp.upd r o ∧ OwnS F 5 1 v (chk l i).length (u8s (chk l i)) (some r)
set_option maxRecDepth 100000 in
set_option maxHeartbeats 4000000 in
theorem parts1_ok (H0 : Hp) (b1 : Nat) (a : Option Addr) (cap : Nat) (l : List Int) (hv : Holds H0 1 (.slice a l.length cap) l.length (u8s l)) (hcap : l.length ≤ cap) (h1 : H0 b1 = some (.cells #[.slice a l.length cap] 22)) (hl : l.length ≤ 100000) (yf : Fn) (ya yb : Array Value) (J : Nat → Hp → Prop) (S : Hp → Prop) (H : Hp) (hle : ∀ i H, J i H → Le H0 H) (hy : ∀ i, i < chN l → ∀ H, J i H → ∀ args F, TParts l i args F → H.apart F → ValH Try.prog (.func yf ya yb) args.toArray (H.join F) (fun v H2 => ∃ H3, Le H3 H2 ∧ ((v = .bool true ∧ J (i + 1) H3) ∨ (v = .bool false ∧ S H3)))) (hj : J 0 H) :
 CallH Try.prog 58 #[.func yf ya yb, .pointer (some ⟨b1, 0, none⟩)] H (fun _ H2 => ∃ H3, Le H3 H2 ∧ (J (chN l) H3 ∨ S H3)) := by
 refine zaB (l := [_, _]) (rl := []) (n := 16) Try.func58 rfl rfl rfl rfl rfl ?_
 simp only [envOf, Nat.reduceAdd]
 have hl0 := hle 0 H hj
 have h1_ := hl0 _ _ h1
 refine zad (fun K1 hK1 => ?_)
 refine zaa ?_
 refine zac (fun K hK r => ?_)
 simp only [x_box, Value.cells, eX, ↓reduceIte, Nat.reduceEqDiff, Int.reduceToNat]
 intro b2 hb2
 try have n2_b1 : b1 ≠ b2 := zai hbA hb2
 have f2_H : H b2 = none := zaj lhA hb2
 try simp only [eX, ↓reduceIte, Nat.reduceEqDiff, Int.reduceToNat]
 refine hK _ _ ?_; clear hK K
 refine zae ?_
 try simp only [Ex.thnH, Ex.inBlockH, ↓reduceIte, Nat.reduceEqDiff]
 refine hK1 _ _ ?_; try clear hK1 K1
 refine zad (fun K2 hK2 => ?_)
 refine zaa ?_
 refine zac (fun K hK r => ?_)
 simp only [x_alloc, zr3, zal, Value.cells, eX, ↓reduceIte, Nat.reduceEqDiff, Int.reduceToNat]
 intro b3 hb3
 try have n3_b1 : b1 ≠ b3 := zai hbA hb3
 try have n3_b2 : b2 ≠ b3 := zai hbA hb3
 have f3_H : H b3 = none := zaj lhA hb3
 try simp only [eX, ↓reduceIte, Nat.reduceEqDiff, Int.reduceToNat]
 refine hK _ _ ?_; clear hK K
 refine zbq rfl (zaJ) (fun K hK r => ?_)
 simp only [zaL, eX, ↓reduceIte, Nat.reduceEqDiff, Int.reduceToNat]
 refine zaY sz3 hbA bdA plA fzA ?_
 try simp only [setL0, setL1, setL2, setL3, setL4, setL5, setL6, setL7, setL8, setL9]
 try simp only [eX, ↓reduceIte, Nat.reduceEqDiff, Int.reduceToNat]
 refine hK _ _ ?_; clear hK K
 refine zae ?_
 try simp only [Ex.thnH, Ex.inBlockH, ↓reduceIte, Nat.reduceEqDiff]
 refine hK2 _ _ ?_; try clear hK2 K2
 refine zad (fun K3 hK3 => ?_)
 refine zaa ?_
 refine zac (fun K hK r => ?_)
 simp only [zan, eX, ↓reduceIte, Nat.reduceEqDiff, Int.reduceToNat]
 refine zak Try.underlying22 rfl hbA ldA ?_
 try simp only [eX, ↓reduceIte, Nat.reduceEqDiff, Int.reduceToNat]
 refine hK _ _ ?_; clear hK K
 refine zac (fun K hK r => ?_)
 simp only [zaT _ bd59, List.map_toArray, List.map_cons, List.map_nil, eX, ↓reduceIte, Nat.reduceEqDiff, Int.reduceToNat]
 refine (Chunk_ok _ a l.length cap).mono ?_
 rintro v6 H6 ⟨c2, c3, hc2, hc3, nc23, rfl, rfl⟩
 have nb2c2 : b2 ≠ c2 := zai hbA hc2
 have nb2c3 : b2 ≠ c3 := zai hbA hc3
 have nb3c2 : b3 ≠ c2 := zai hbA hc2
 have nb3c3 : b3 ≠ c3 := zai hbA hc3
 have fc2 : H c2 = none := zaj lhA hc2
 have fc3 : H c3 = none := zaj lhA hc3
 have gc2 := zaj hl0 fc2
 have gc3 := zaj hl0 fc3
 have hleC : Le H0 ((H0.upd c2 (.cells #[.slice a l.length cap] 22)).upd c3 (.cells #[.int .i64 50] 3)) := zaP (le_upd _ _ _ gc2) gc3
 try simp only [eX, ↓reduceIte, Nat.reduceEqDiff, Int.reduceToNat]
 refine hK _ _ ?_; clear hK K
 refine zae ?_
 try simp only [Ex.thnH, Ex.inBlockH, ↓reduceIte, Nat.reduceEqDiff]
 refine hK3 _ _ ?_; try clear hK3 K3
 refine zaV ?_
 refine CW_rangeFunc (fun r => rfl) (iter_chunk ((H0.upd c2 (.cells #[.slice a l.length cap] 22)).upd c3 (.cells #[.int .i64 50] 3)) c2 c3 a cap l (hv.le hleC) hcap ((zaA _ _ nc23).trans (zax _ _ _)) (zax _ _ _) hl) (fun i H_ => ∃ HJ, J i HJ ∧ Le HJ H_ ∧ H_ b2 = some (.cells #[.func yf ya yb] 134) ∧ HJ b2 = none ∧ H_ b3 = some (.cells #[.int .i64 (i : Int)] 3) ∧ HJ b3 = none ∧ H_ c2 = some (.cells #[.slice a l.length cap] 22) ∧ HJ c2 = none ∧ H_ c3 = some (.cells #[.int .i64 50] 3) ∧ HJ c3 = none) ?_ ?_ (by decide) ?_ ?_
 ·skip
  rintro i H_ ⟨HJ, hJ, hlJ, _, _, _, _, k2, _, k3, _⟩
  exact le_put (le_put (Le.trans (hle i HJ hJ) hlJ) k2) k3
 ·skip
  exact ⟨H, hj, lhA, (zaA _ _ nb2c3).trans ((zaA _ _ nb2c2).trans hbA), hb2, (zaA _ _ nb3c3).trans ((zaA _ _ nb3c2).trans (zax _ _ _)), f3_H, (zaA _ _ nc23).trans (zax _ _ _), fc2, zax _ _ _, fc3⟩
 ·intro l_ i_ hi_ H_ hI_ args_ F_ hT_ hF_
  obtain ⟨HJ, hJ, hlJ, k_b2, n_b2, k_b3, n_b3, k_c2, n_c2, k_c3, n_c3⟩ := hI_
  obtain ⟨rfl, v, rfl, hvh⟩ := hT_
  have hcl := chk_len hi_
  have hib : i_ ≤ 100000 := by unfold chN at hi_; omega
  have hleCH : Le ((H0.upd c2 (.cells #[.slice a l.length cap] 22)).upd c3 (.cells #[.int .i64 50] 3)) H_ := le_put (le_put (Le.trans (hle i_ HJ hJ) hlJ) k_c2) k_c3
  obtain ⟨av, cv, rfl⟩ := hvh.form
  rw [join_empty]
  refine ⟨rfl, ?_⟩
  simp only [putAll, List.zip_cons_cons, List.zip_nil_right, List.zip_nil_left, eX, ↓reduceIte, Nat.reduceEqDiff, Int.reduceToNat]
  refine zaa ?_
  refine zao rfl ?_
  refine zae ?_
  try simp only [Ex.thnH, Ex.inBlockH, ↓reduceIte, Nat.reduceEqDiff]
  first | refine ⟨rfl, ?_⟩ | refine ⟨trivial, ?_⟩
  refine zaV ?_
  refine zad (fun K4 hK4 => ?_)
  refine zad (fun K5 hK5 => ?_)
  refine CW_drawE [1, 1, 0, 2, 3, 0] [0, 1, 2, 3, 4, 5] (by kernel_rfl) (by kernel_rfl) (fun R4 hR4 => ?_)
  apply TW_look rfl (zab (by decide)) rfl
  ·intro r
   simp only [zan, eX, ↓reduceIte, Nat.reduceEqDiff]
   refine zak Try.underlying134 rfl hbA ldA ?_
   exact ⟨rfl, Le.refl _⟩
  simp only [eX, ↓reduceIte, Nat.reduceEqDiff, Int.reduceToNat]
  apply TW_look rfl (zab (by decide)) rfl
  ·intro r
   simp only [zan, eX, ↓reduceIte, Nat.reduceEqDiff]
   refine zak Try.underlying3 rfl hbA ldA ?_
   exact ⟨rfl, Le.refl _⟩
  simp only [eX, ↓reduceIte, Nat.reduceEqDiff, Int.reduceToNat]
  apply zay rfl (zab (by decide)) rfl
  ·intro r
   simp only [zaU, eX, ↓reduceIte, Nat.reduceEqDiff]
   exact ⟨rfl, Le.refl _⟩
  simp only [eX, ↓reduceIte, Nat.reduceEqDiff, Int.reduceToNat]
  refine TW_chain rfl (zab (by decide)) rfl (fun K hK r => ?_)
  simp only [zaT _ bd60, List.map_toArray, List.map_cons, List.map_nil, eX, ↓reduceIte, Nat.reduceEqDiff, Int.reduceToNat]
  refine (clone_ok _ _ (chk l i_) (hvh.le hleCH) (by omega)).mono ?_
  rintro v11 H11 ⟨hl11, rs11, ho11, hr11⟩
  obtain ⟨rb, ob, rfl, hro, hof⟩ := ho11.frag (by omega)
  have hrn := hr11 rb rfl
  try simp only [eX, ↓reduceIte, Nat.reduceEqDiff, Int.reduceToNat]
  refine hK _ _ leA ?_; clear hK K
  refine TW_last rfl (zab (by decide)) rfl (fun K hK r => ?_)
  simp only [x_call, List.map_toArray, List.map_cons, List.map_nil, eX, ↓reduceIte, Nat.reduceEqDiff, Int.reduceToNat]
  show ValH _ _ _ _ _
  have hKK : Le (HJ.join (emptyHp.upd rb ob)) H11 := join_le (Le.trans hlJ hl11) (le_put (le_empty _) hro)
  refine (Iter.yield (hy i_ hi_ HJ hJ [.int .i64 i_, v11] _ ⟨v11, rb, ob, rfl, rfl, hof⟩ (frag_apart (zaj hlJ hrn))) hKK).mono ?_
  rintro v12 H12 ⟨t, H3, rfl, hl3, hyes, hno, hkp⟩
  have q_b2 := hkp b2 _ (hl11 _ _ k_b2) n_b2 (frag_none (zai k_b2 hrn))
  have q_b3 := hkp b3 _ (hl11 _ _ k_b3) n_b3 (frag_none (zai k_b3 hrn))
  have q_c2 := hkp c2 _ (hl11 _ _ k_c2) n_c2 (frag_none (zai k_c2 hrn))
  have q_c3 := hkp c3 _ (hl11 _ _ k_c3) n_c3 (frag_none (zai k_c3 hrn))
  have kq_b3 := q_b3.1
  try simp only [eX, ↓reduceIte, Nat.reduceEqDiff, Int.reduceToNat]
  refine hK _ _ ?_; clear hK K
  apply zay rfl (zab (by decide)) rfl
  ·intro r
   simp only [x_un, u_not, eX, ↓reduceIte, Nat.reduceEqDiff]
   exact ⟨rfl, Le.refl _⟩
  simp only [eX, ↓reduceIte, Nat.reduceEqDiff, Int.reduceToNat]
  refine TW_nil ?_
  try simp only [Ex.thnH, Ex.inBlockH, ↓reduceIte, Nat.reduceEqDiff]
  refine hK5 _ _ ?_; try clear hK5 K5
  refine zaG (fun r => rfl) (fun c13 => ?_) (fun c13 => ?_)
  ·first
   |(exfalso; exact cnA c13; done)
   |skip
    have q13 := c13
    refine zaR ?_
    try simp only [Ex.thnH, Ex.inBlockH, ↓reduceIte, Nat.reduceEqDiff]
    exact ⟨[], trivial, _, Le.refl _, H3, hl3, .inr (hno (by simpa using q13))⟩
  ·first
   |(exfalso; exact cnA c13; done)
   |skip
    have ht : t = true := by simpa using c13
    have hJ3 := hyes ht
    refine zaO ?_
    try simp only [Ex.thnH, Ex.inBlockH, ↓reduceIte, Nat.reduceEqDiff]
    refine hK4 _ _ ?_; try clear hK4 K4
    refine zaa ?_
    refine zac (fun K hK r => ?_)
    simp only [zan, eX, ↓reduceIte, Nat.reduceEqDiff, Int.reduceToNat]
    refine zak Try.underlying3 rfl hbA ldA ?_
    try simp only [eX, ↓reduceIte, Nat.reduceEqDiff, Int.reduceToNat]
    refine hK _ _ ?_; clear hK K
    refine zac (fun K hK r => ?_)
    simp (disch := (first | omega | decide)) only [zaF, zaH, b_add, zaw, zaE, zaD, zaQ, eX, ↓reduceIte, Nat.reduceEqDiff, Int.reduceToNat]
    refine hK _ _ ?_; clear hK K
    refine zbq rfl (zaJ) (fun K hK r => ?_)
    simp only [zaL, eX, ↓reduceIte, Nat.reduceEqDiff, Int.reduceToNat]
    refine zaY sz3 hbA bdA plA fzA ?_
    try simp only [setL0, setL1, setL2, setL3, setL4, setL5, setL6, setL7, setL8, setL9]
    try simp only [eX, ↓reduceIte, Nat.reduceEqDiff, Int.reduceToNat]
    refine hK _ _ ?_; clear hK K
    refine zae ?_
    try simp only [Ex.thnH, Ex.inBlockH, ↓reduceIte, Nat.reduceEqDiff]
    exact ⟨H3, hJ3, zaP hl3 q_b3.2, (zaA _ _ n3_b2).trans q_b2.1, q_b2.2, (zax _ _ _), q_b3.2, (zaA _ _ (Ne.symm nb3c2)).trans q_c2.1, q_c2.2, (zaA _ _ (Ne.symm nb3c3)).trans q_c3.1, q_c3.2⟩
 intro H_ hI_
 obtain ⟨HJ, hJ, hlJ, _⟩ := hI_
 try simp only [Ex.thnH, Ex.inBlockH, ↓reduceIte, Nat.reduceEqDiff]
 exact ⟨[], trivial, _, Le.refl _, HJ, hlJ, .inl hJ⟩
set_option maxRecDepth 100000 in
set_option maxHeartbeats 1000000 in
theorem Parts_ok (H : Hp) (a : Option Addr) (n cap : Nat) : CallH Try.prog 34 #[.slice a n cap] H (fun v' H' => ∃ b1, H b1 = none ∧ v' = .func (.func 58) #[] #[.pointer (some ⟨b1, 0, none⟩)] ∧ H' = H.upd b1 (.cells #[.slice a n cap] 22)) := by
 refine zaB (l := [_]) (rl := [.tmp 2]) (n := 4) Try.func34 rfl rfl rfl rfl rfl ?_
 simp only [envOf, Nat.reduceAdd]
 refine zad (fun K1 hK1 => ?_)
 refine zaa ?_
 refine zac (fun K hK r => ?_)
 simp only [x_box, Value.cells, eX, ↓reduceIte, Nat.reduceEqDiff, Int.reduceToNat]
 intro b1 hb1
 have f1_H : H b1 = none := zaj lhA hb1
 try simp only [eX, ↓reduceIte, Nat.reduceEqDiff, Int.reduceToNat]
 refine hK _ _ ?_; clear hK K
 refine zao rfl ?_
 refine zae ?_
 try simp only [Ex.thnH, Ex.inBlockH, ↓reduceIte, Nat.reduceEqDiff]
 refine hK1 _ _ ?_; try clear hK1 K1
 refine zad (fun K2 hK2 => ?_)
 refine zaa ?_
 refine zac (fun K hK r => ?_)
 simp only [x_makeFunc, List.map_toArray, List.map_cons, List.map_nil, eX, ↓reduceIte, Nat.reduceEqDiff, Int.reduceToNat]
 refine hK _ _ ?_; clear hK K
 refine zao rfl ?_
 refine zae ?_
 try simp only [Ex.thnH, Ex.inBlockH, ↓reduceIte, Nat.reduceEqDiff]
 refine hK2 _ _ ?_; try clear hK2 K2
 refine zaR ?_
 try simp only [Ex.thnH, Ex.inBlockH, ↓reduceIte, Nat.reduceEqDiff]
 exact ⟨[_], ⟨rfl, trivial⟩, _, Le.refl _, b1, hb1, rfl, rfl⟩
theorem iter_parts (H0 : Hp) (b1 : Nat) (a : Option Addr) (cap : Nat) (l : List Int) (hv : Holds H0 1 (.slice a l.length cap) l.length (u8s l)) (hcap : l.length ≤ cap) (h1 : H0 b1 = some (.cells #[.slice a l.length cap] 22)) (hl : l.length ≤ 100000) :
  Iter Try.prog (.func (.func 58) #[] #[.pointer (some ⟨b1, 0, none⟩)]) H0 (chN l) (TParts l) :=
  fun yf ya yb J S H hle hy hj => ValH_func bd58 (parts1_ok H0 b1 a cap l hv hcap h1 hl yf ya yb J S H hle hy hj)
end Go.Proofs.Ytcjdkfhmlnfedaa.HL
end
section
namespace Go.Proofs.Ytcjdkfhmlnfedaa.HL
open Go Go.Proofs
set_option linter.unusedSimpArgs false
set_option linter.unusedVariables false
attribute [local irreducible] Lt Lq CW OW TW CallH
theorem chk_last {l : List Int} {k : Nat} (h : (l.drop (50 * k)).length ≤ 50) : chk l k = l.drop (50 * k) := List.take_of_length_le h
theorem chk_step {l : List Int} {k : Nat} : (l.take (50 * k)) ++ chk l k = l.take (50 * (k + 1)) := by
  unfold chk
  rw [show 50 * (k + 1) = 50 * k + 50 from by omega, List.take_add]
theorem vals_at {A : List Value} {c : Array Value} {o n : Nat} (h : ∀ j, j < n * 1 → c[o + j]? = A[j]?) (hn : n = A.length) (k : Nat) (hk : k < A.length) : c[o + k]? = some (A.getD k (Value.slice none 0 0)) := by
  rw [h k (by omega), List.getD_eq_getElem?_getD, List.getElem?_eq_getElem hk]; rfl
theorem getD_snoc {α : Type} (A : List α) (x d : α) (i : Nat) (h : i ≤ A.length) : (A ++ [x]).getD i d = if i = A.length then x else A.getD i d := by
  by_cases e : i = A.length
  · subst e; simp [List.getD_eq_getElem?_getD]
  · rw [if_neg e]; simp [List.getD_eq_getElem?_getD, List.getElem?_append_left (show i < A.length by omega)]
set_option maxRecDepth 100000 in
set_option maxHeartbeats 4000000 in
theorem rParts_ok (H : Hp) (a : Option Addr) (cap : Nat) (l : List Int) (hv : Holds H 1 (.slice a l.length cap) l.length (u8s l)) (hcap : l.length ≤ cap) (hl : l.length ≤ 100000) : CallH Try.prog 39 #[.slice a l.length cap] H (fun v' H' => Le H H' ∧ ∃ (vals : List Value) (rs : Option Nat), vals.length = chN l ∧ OwnS H' 22 1 v' (chN l) vals rs ∧ (∀ r, rs = some r → H r = none) ∧ ∀ i, i < chN l → Holds H 1 (vals.getD i (Value.slice none 0 0)) (chk l i).length (u8s (chk l i))) := by
 refine zaB (l := [_]) (rl := [.tmp 2]) (n := 22) Try.func39 rfl rfl rfl rfl rfl ?_
 simp only [envOf, Nat.reduceAdd]
 refine zad (fun K1 hK1 => ?_)
 refine zaa ?_
 refine zao rfl ?_
 refine zae ?_
 try simp only [Ex.thnH, Ex.inBlockH, ↓reduceIte, Nat.reduceEqDiff]
 refine hK1 _ _ ?_; try clear hK1 K1
 refine zad (fun K2 hK2 => ?_)
 refine zaa ?_
 refine zao rfl ?_
 refine zae ?_
 try simp only [Ex.thnH, Ex.inBlockH, ↓reduceIte, Nat.reduceEqDiff]
 refine hK2 _ _ ?_; try clear hK2 K2
 refine zad (fun K3 hK3 => ?_)
 refine zaV ?_
 refine CW_loop (fun m e H_ => ∃ (k : Nat) (a' : Option Addr) (n' cap' : Nat) (v3 : Value) (vals : List Value) (rs : Option Nat), n' = (l.drop (50 * k)).length ∧ m = n' ∧ n' ≤ cap' ∧ 50 * k ≤ l.length ∧ (k = 0 ∨ 0 < n') ∧ Holds H 1 (.slice a' n' cap') n' (u8s (l.drop (50 * k))) ∧ vals.length = k ∧ OwnS H_ 22 1 v3 k vals rs ∧ (∀ r, rs = some r → H r = none) ∧ Le H H_ ∧ (∀ i, i < k → Holds H 1 (vals.getD i (Value.slice none 0 0)) (chk l i).length (u8s (chk l i))) ∧ Env.has [(0, .slice a' n' cap'), (3, v3)] e) (l.length) ?_ ?_
 ·skip
  exact ⟨0, a, l.length, cap, _, [], none, by simp, rfl, hcap, by omega, .inl rfl, by simpa using hv, rfl, OwnS.nil _ _ _, (fun r hr => by cases hr), Le.refl _, (fun i hi => by omega), rfl, rfl, trivial⟩
 intro m_ e_ H_ hI_
 obtain ⟨k, a', n', cap', v3, vals, rs, hn', hm', hc', hk50, hk0, hh, hvl, hox, hrs, hle, hvals, he⟩ := hI_
 subst hm'
 have hdl : (l.drop (50 * k)).length = l.length - 50 * k := by simp
 refine CW_env he.sub ?_; clear he e_
 refine zad (fun K4 hK4 => ?_)
 refine zad (fun K5 hK5 => ?_)
 refine zaa ?_
 refine zam rfl ?_
 refine zac (fun K hK r => ?_)
 simp only [zaM, l_len, List.map_toArray, List.map_cons, List.map_nil, zaS _ _ Try.underlying22, eX, ↓reduceIte, Nat.reduceEqDiff, Int.reduceToNat]
 refine hK _ _ ?_; clear hK K
 refine zac (fun K hK r => ?_)
 simp (disch := (first | omega | decide)) only [zaF, zaH, b_gtr, zaq, zar, zat, zau, zas, zav, Bool.not_true, Bool.not_false, eX, ↓reduceIte, Nat.reduceEqDiff, Int.reduceToNat]
 refine hK _ _ ?_; clear hK K
 refine zae ?_
 try simp only [Ex.thnH, Ex.inBlockH, ↓reduceIte, Nat.reduceEqDiff]
 refine hK5 _ _ ?_; try clear hK5 K5
 refine zaG (fun r => rfl) (fun c6 => ?_) (fun c6 => ?_)
 ·first
  |(exfalso; exact cnA c6; done)
  |skip
   (try simp only [decide_eq_true_eq, decide_eq_false_iff_not, Bool.not_eq_true, Bool.not_eq_false, Bool.and_eq_true, Bool.or_eq_true, Bool.or_eq_false_iff, Bool.not_eq_eq_eq_not, Bool.not_true, Bool.not_false] at c6)
   refine zaO ?_
   try simp only [Ex.thnH, Ex.inBlockH, ↓reduceIte, Nat.reduceEqDiff]
   refine hK4 _ _ ?_; try clear hK4 K4
   refine zaV ?_
   refine zad (fun K6 hK6 => ?_)
   refine zaa ?_
   refine zam rfl ?_
   refine zam rfl ?_
   refine zac (fun K hK r => ?_)
   simp only [x_slice, Option.map_some, Option.map_none, eX, ↓reduceIte, Nat.reduceEqDiff, Int.reduceToNat]
   refine Lt_sliceS Try.underlying22 sz5 bound_none (bound_some ixA) bound_none bxA bxA bxA (by simp) ?_
   try simp only [zap, Nat.mul_one, Nat.zero_add, Int.reduceToNat, Nat.reduceSub, Nat.reduceEqDiff, ↓reduceIte]
   try simp only [eX, ↓reduceIte, Nat.reduceEqDiff, Int.reduceToNat]
   refine hK _ _ ?_; clear hK K
   refine zac (fun K hK r => ?_)
   simp only [zbn, List.map_toArray, List.map_cons, List.map_nil, eX, ↓reduceIte, Nat.reduceEqDiff, Int.reduceToNat]
   refine zbm (vs := [_]) Try.underlying101 sz22 zr22 rfl bsA (by first | decide | (simp; done)) ?_
   simp only [List.flatMap_cons, List.flatMap_nil, Value.cells, List.append_nil, List.cons_append, List.nil_append, List.length_cons, List.length_nil, Nat.zero_add, Nat.reduceAdd]
   intro b10 hb10
   have f10_H : H b10 = none := zaj lhA hb10
   try simp only [eX, ↓reduceIte, Nat.reduceEqDiff, Int.reduceToNat]
   refine hK _ _ ?_; clear hK K
   refine zac (fun K hK r => ?_)
   simp only [zaM, l_append, List.map_toArray, List.map_cons, List.map_nil, eX, ↓reduceIte, Nat.reduceEqDiff, Int.reduceToNat]
   refine Lt_append1 Try.underlying101 sz22 by22 (by decide) zr22 rfl _ (n := k) (hox.make hb10) hbA rfl (by omega) ?_
   intro v11 H11 rs11 hg11 ho11 hr11
   have lH11_H : Le H H11 := hg11.le (H0 := H) lhA (fun r hr => hrs r hr)
   have f11 : ∀ r, rs11 = some r → H r = none := fun r hr => by
    rcases hr11 r hr with h | h
    ·exact hrs r h
    ·exact zaj lhA h
   refine hK _ _ ?_; clear hK K
   refine zao rfl ?_
   refine zae ?_
   try simp only [Ex.thnH, Ex.inBlockH, ↓reduceIte, Nat.reduceEqDiff]
   refine hK6 _ _ ?_; try clear hK6 K6
   refine zaa ?_
   refine zam rfl ?_
   refine zac (fun K hK r => ?_)
   simp only [x_slice, Option.map_some, Option.map_none, eX, ↓reduceIte, Nat.reduceEqDiff, Int.reduceToNat]
   refine Lt_sliceS Try.underlying22 sz5 bound_none bound_none (bound_some ixA) bxA bxA bxA (by simp) ?_
   try simp only [zap, Nat.mul_one, Nat.zero_add, Int.reduceToNat, Nat.reduceSub, Nat.reduceEqDiff, ↓reduceIte]
   try simp only [eX, ↓reduceIte, Nat.reduceEqDiff, Int.reduceToNat]
   refine hK _ _ ?_; clear hK K
   refine zao rfl ?_
   refine zae ?_
   try simp only [Ex.thnH, Ex.inBlockH, ↓reduceIte, Nat.reduceEqDiff]
   have hs13 := Holds.slice (l := 50) (h := m_) (m := cap') hh (by omega) (by omega) (by omega)
   have e13 : ((u8s (l.drop (50 * k))).drop (50 * 1)).take ((m_ - 50) * 1) = u8s (l.drop (50 * (k + 1))) := by
    unfold u8s
    rw [← List.map_drop, ← List.map_take, List.drop_drop]
    congr 1
    rw [List.take_of_length_le (by simp; omega)]
    congr 1
   rw [e13] at hs13
   refine ⟨m_ - 50, by omega, k + 1, _, m_ - 50, cap' - 50, v11, vals ++ [_], rs11, by simp; omega, rfl, by omega, by omega, .inr (by omega), hs13, by simp [hvl], ho11, f11, lH11_H, ?_, rfl, rfl, trivial⟩
   intro i hi
   rw [getD_snoc _ _ _ _ (by omega)]
   by_cases e : i = vals.length
   ·rw [if_pos e, e, hvl]
    have hs9 := Holds.slice (l := 0) (h := 50) (m := cap') hh (by omega) (by omega) (by omega)
    have e9 : ((u8s (l.drop (50 * k))).drop (0 * 1)).take ((50 - 0) * 1) = u8s (chk l k) := by
     unfold chk u8s
     rw [Nat.zero_mul, List.drop_zero, Nat.sub_zero, Nat.mul_one, List.map_take]
    rw [e9] at hs9
    have e50 : (chk l k).length = 50 := by unfold chk; simp; omega
    rw [e50]; exact hs9
   ·rw [if_neg e]; exact hvals i (by omega)
 ·first
  |(exfalso; exact cnA c6; done)
  |skip
   (try simp only [decide_eq_true_eq, decide_eq_false_iff_not, Bool.not_eq_true, Bool.not_eq_false, Bool.and_eq_true, Bool.or_eq_true, Bool.or_eq_false_iff, Bool.not_eq_eq_eq_not, Bool.not_true, Bool.not_false] at c6)
   refine CW_exit ?_
   try simp only [Ex.thnH, Ex.inBlockH, ↓reduceIte, Nat.reduceEqDiff]
   refine hK3 _ _ ?_; try clear hK3 K3
   refine zad (fun K7 hK7 => ?_)
   refine zad (fun K8 hK8 => ?_)
   refine zaa ?_
   refine zam rfl ?_
   refine zac (fun K hK r => ?_)
   simp only [zaM, l_len, List.map_toArray, List.map_cons, List.map_nil, zaS _ _ Try.underlying22, eX, ↓reduceIte, Nat.reduceEqDiff, Int.reduceToNat]
   refine hK _ _ ?_; clear hK K
   refine zac (fun K hK r => ?_)
   simp (disch := (first | omega | decide)) only [zaF, zaH, b_gtr, zaq, zar, zat, zau, zas, zav, Bool.not_true, Bool.not_false, eX, ↓reduceIte, Nat.reduceEqDiff, Int.reduceToNat]
   refine hK _ _ ?_; clear hK K
   refine zae ?_
   try simp only [Ex.thnH, Ex.inBlockH, ↓reduceIte, Nat.reduceEqDiff]
   refine hK8 _ _ ?_; try clear hK8 K8
   refine zaG (fun r => rfl) (fun c16 => ?_) (fun c16 => ?_)
   ·first
    |(exfalso; exact cnA c16; done)
    |skip
     (try simp only [decide_eq_true_eq, decide_eq_false_iff_not, Bool.not_eq_true, Bool.not_eq_false, Bool.and_eq_true, Bool.or_eq_true, Bool.or_eq_false_iff, Bool.not_eq_eq_eq_not, Bool.not_true, Bool.not_false] at c16)
     refine zaa ?_
     refine zam rfl ?_
     refine zam rfl ?_
     refine zac (fun K hK r => ?_)
     simp only [zbn, List.map_toArray, List.map_cons, List.map_nil, eX, ↓reduceIte, Nat.reduceEqDiff, Int.reduceToNat]
     refine zbm (vs := [_]) Try.underlying101 sz22 zr22 rfl bsA (by first | decide | (simp; done)) ?_
     simp only [List.flatMap_cons, List.flatMap_nil, Value.cells, List.append_nil, List.cons_append, List.nil_append, List.length_cons, List.length_nil, Nat.zero_add, Nat.reduceAdd]
     intro b19 hb19
     have f19_H : H b19 = none := zaj lhA hb19
     try simp only [eX, ↓reduceIte, Nat.reduceEqDiff, Int.reduceToNat]
     refine hK _ _ ?_; clear hK K
     refine zac (fun K hK r => ?_)
     simp only [zaM, l_append, List.map_toArray, List.map_cons, List.map_nil, eX, ↓reduceIte, Nat.reduceEqDiff, Int.reduceToNat]
     refine Lt_append1 Try.underlying101 sz22 by22 (by decide) zr22 rfl _ (n := k) (hox.make hb19) hbA rfl (by omega) ?_
     intro v20 H20 rs20 hg20 ho20 hr20
     have lH20_H : Le H H20 := hg20.le (H0 := H) lhA (fun r hr => hrs r hr)
     have f20 : ∀ r, rs20 = some r → H r = none := fun r hr => by
      rcases hr20 r hr with h | h
      ·exact hrs r h
      ·exact zaj lhA h
     refine hK _ _ ?_; clear hK K
     refine zao rfl ?_
     refine zae ?_
     try simp only [Ex.thnH, Ex.inBlockH, ↓reduceIte, Nat.reduceEqDiff]
     refine hK7 _ _ ?_; try clear hK7 K7
     refine zad (fun K9 hK9 => ?_)
     refine zaa ?_
     refine zam rfl ?_
     refine zao rfl ?_
     refine zae ?_
     try simp only [Ex.thnH, Ex.inBlockH, ↓reduceIte, Nat.reduceEqDiff]
     refine hK9 _ _ ?_; try clear hK9 K9
     refine zaR ?_
     try simp only [Ex.thnH, Ex.inBlockH, ↓reduceIte, Nat.reduceEqDiff]
     have hN : ((k = 0 ∧ m_ = 0) ∧ chN l = k) ∨ (0 < m_ ∧ chN l = k + 1) := by unfold chN; omega
     first
     |(have hN' : chN l = k + 1 := by omega
       refine ⟨[_], ⟨rfl, trivial⟩, _, Le.refl _, lH20_H, vals ++ [_], rs20, by simp [hvl, hN'], by rw [hN']; exact ho20, f20, fun i hi => ?_⟩
       rw [getD_snoc _ _ _ _ (by omega)]
       by_cases e : i = vals.length
       ·rw [if_pos e, e, hvl, chk_last (by omega), ← hn']; exact hh
       ·rw [if_neg e]; exact hvals i (by omega))
     |(have hN' : chN l = k := by omega
       exact ⟨[_], ⟨rfl, trivial⟩, _, Le.refl _, hle, vals, rs, by rw [hN']; exact hvl, by rw [hN']; exact hox, hrs, fun i hi => hvals i (by omega)⟩)
   ·first
    |(exfalso; exact cnA c16; done)
    |skip
     (try simp only [decide_eq_true_eq, decide_eq_false_iff_not, Bool.not_eq_true, Bool.not_eq_false, Bool.and_eq_true, Bool.or_eq_true, Bool.or_eq_false_iff, Bool.not_eq_eq_eq_not, Bool.not_true, Bool.not_false] at c16)
     refine zaO ?_
     try simp only [Ex.thnH, Ex.inBlockH, ↓reduceIte, Nat.reduceEqDiff]
     refine hK7 _ _ ?_; try clear hK7 K7
     refine zad (fun K10 hK10 => ?_)
     refine zaa ?_
     refine zam rfl ?_
     refine zao rfl ?_
     refine zae ?_
     try simp only [Ex.thnH, Ex.inBlockH, ↓reduceIte, Nat.reduceEqDiff]
     refine hK10 _ _ ?_; try clear hK10 K10
     refine zaR ?_
     try simp only [Ex.thnH, Ex.inBlockH, ↓reduceIte, Nat.reduceEqDiff]
     have hN : ((k = 0 ∧ m_ = 0) ∧ chN l = k) ∨ (0 < m_ ∧ chN l = k + 1) := by unfold chN; omega
     first
     |(have hN' : chN l = k + 1 := by omega
       refine ⟨[_], ⟨rfl, trivial⟩, _, Le.refl _, lH20_H, vals ++ [_], rs20, by simp [hvl, hN'], by rw [hN']; exact ho20, f20, fun i hi => ?_⟩
       rw [getD_snoc _ _ _ _ (by omega)]
       by_cases e : i = vals.length
       ·rw [if_pos e, e, hvl, chk_last (by omega), ← hn']; exact hh
       ·rw [if_neg e]; exact hvals i (by omega))
     |(have hN' : chN l = k := by omega
       exact ⟨[_], ⟨rfl, trivial⟩, _, Le.refl _, hle, vals, rs, by rw [hN']; exact hvl, by rw [hN']; exact hox, hrs, fun i hi => hvals i (by omega)⟩)
set_option maxRecDepth 100000 in
set_option maxHeartbeats 1000000 in
theorem Need_ok (H : Hp) (n : Int) (h1 : -9223372036854775808 ≤ n) (h2 : n ≤ 9223372036854775807) : CallH Try.prog 53 #[.int .i64 n] H (fun v H' => v = .int .i64 (if n < 1 then 0 else (n - 1) / 50 + 1) ∧ H' = H) := by
 refine zaB (l := [_]) (rl := [.tmp 2]) (n := 9) Try.func53 rfl rfl rfl rfl rfl ?_
 simp only [envOf, Nat.reduceAdd]
 refine zad (fun K1 hK1 => ?_)
 refine zaa ?_
 refine zao rfl ?_
 refine zae ?_
 try simp only [Ex.thnH, Ex.inBlockH, ↓reduceIte, Nat.reduceEqDiff]
 refine hK1 _ _ ?_; try clear hK1 K1
 refine zad (fun K2 hK2 => ?_)
 refine zad (fun K3 hK3 => ?_)
 refine zaa ?_
 refine zam rfl ?_
 refine zac (fun K hK r => ?_)
 simp (disch := (first | omega | decide)) only [zaF, zaH, b_lss, zaq, zar, zat, zau, zas, zav, Bool.not_true, Bool.not_false, eX, ↓reduceIte, Nat.reduceEqDiff, Int.reduceToNat]
 refine hK _ _ ?_; clear hK K
 refine zae ?_
 try simp only [Ex.thnH, Ex.inBlockH, ↓reduceIte, Nat.reduceEqDiff]
 refine hK3 _ _ ?_; try clear hK3 K3
 refine zaG (fun r => rfl) (fun c4 => ?_) (fun c4 => ?_)
 ·first
  |(exfalso; exact cnA c4; done)
  |skip
   (try simp only [decide_eq_true_eq, decide_eq_false_iff_not, Bool.not_eq_true, Bool.not_eq_false, Bool.and_eq_true, Bool.or_eq_true, Bool.or_eq_false_iff, Bool.not_eq_eq_eq_not, Bool.not_true, Bool.not_false] at c4)
   refine zad (fun K4 hK4 => ?_)
   refine zaa ?_
   refine zao rfl ?_
   refine zae ?_
   try simp only [Ex.thnH, Ex.inBlockH, ↓reduceIte, Nat.reduceEqDiff]
   refine hK4 _ _ ?_; try clear hK4 K4
   refine zaR ?_
   try simp only [Ex.thnH, Ex.inBlockH, ↓reduceIte, Nat.reduceEqDiff]
   refine ⟨[_], ⟨rfl, trivial⟩, _, Le.refl _, ?_, rfl⟩
   show Value.int _ _ = _
   rw [if_pos (by first | assumption | omega)]
 ·first
  |(exfalso; exact cnA c4; done)
  |skip
   (try simp only [decide_eq_true_eq, decide_eq_false_iff_not, Bool.not_eq_true, Bool.not_eq_false, Bool.and_eq_true, Bool.or_eq_true, Bool.or_eq_false_iff, Bool.not_eq_eq_eq_not, Bool.not_true, Bool.not_false] at c4)
   refine zaO ?_
   try simp only [Ex.thnH, Ex.inBlockH, ↓reduceIte, Nat.reduceEqDiff]
   refine hK2 _ _ ?_; try clear hK2 K2
   refine zad (fun K5 hK5 => ?_)
   refine zaa ?_
   refine zam rfl ?_
   refine zac (fun K hK r => ?_)
   simp (disch := (first | omega | decide)) only [zaF, zaH, b_sub, zaw, zaE, zaD, zaQ, eX, ↓reduceIte, Nat.reduceEqDiff, Int.reduceToNat]
   refine hK _ _ ?_; clear hK K
   refine zac (fun K hK r => ?_)
   simp (disch := (first | omega | decide)) only [zaF, zaH, b_quo, zaw, zaE, zaD, zaQ, eX, ↓reduceIte, Nat.reduceEqDiff, Int.reduceToNat]
   refine hK _ _ ?_; clear hK K
   refine zac (fun K hK r => ?_)
   simp (disch := (first | omega | decide)) only [zaF, zaH, b_add, zaw, zaE, zaD, zaQ, eX, ↓reduceIte, Nat.reduceEqDiff, Int.reduceToNat]
   refine hK _ _ ?_; clear hK K
   refine zao rfl ?_
   refine zae ?_
   try simp only [Ex.thnH, Ex.inBlockH, ↓reduceIte, Nat.reduceEqDiff]
   refine hK5 _ _ ?_; try clear hK5 K5
   refine zaR ?_
   try simp only [Ex.thnH, Ex.inBlockH, ↓reduceIte, Nat.reduceEqDiff]
   refine ⟨[_], ⟨rfl, trivial⟩, _, Le.refl _, ?_, rfl⟩
   show Value.int _ _ = _
   have e0 : (n - 1).tdiv 50 = (n - 1) / 50 := Int.tdiv_eq_ediv_of_nonneg (by omega)
   first | (rw [if_neg (by omega)]; simp only [e0, zaw _ (show -9223372036854775808 ≤ n - 1 by omega) (show n - 1 ≤ 9223372036854775807 by omega)]; rw [zaw _ (by omega) (by omega)]; done) | (rw [if_neg (by omega)]; simp only [e0]; rw [zaw ((n - 1) / 50) (by omega) (by omega), zaw _ (by omega) (by omega)]) | (rw [if_neg (by omega)]; simp only [e0])
end Go.Proofs.Ytcjdkfhmlnfedaa.HL
end
section
namespace Go.Proofs.Ytcjdkfhmlnfedaa.HL
open Go Go.Proofs
set_option linter.unusedSimpArgs false
set_option linter.unusedVariables false
attribute [local irreducible] Lt Lq CW OW TW CallH
theorem Stn.side {H K F : Hp} {p : Nat} {s : St} (hA : Stn H K F p s) {G K' : Hp} (lG : Le G K') (hk : ∀ b o, K b = some o → H b = none → K' b = some o ∧ G b = none) : Stn G K' F p s := by
  have hx : ∀ b o, F b = some o → K' b = some o ∧ G b = none := fun b o hb => hk b o (hA.le b o hb) (by
    cases hc : H b with
    | none => rfl
    | some o' => have := hA.ap b (by rw [hc]; simp); rw [hb] at this; cases this)
  refine ⟨hA.set, fun b o hb => (hx b o hb).1, lG, fun b hb => ?_⟩
  cases hc : F b with
  | none => rfl
  | some o => exact absurd (hx b o hc).2 hb
theorem Stn.off {H K F : Hp} {p : Nat} {s : St} (hA : Stn H K F p s) {b : Nat} (hF : F b = none) (hH : H b = none) (o : Obj) : Stn H (K.upd b o) F p s := ⟨hA.set, zaP hA.le hF, zaP hA.old hH, hA.ap⟩
theorem Stn.del {H K F : Hp} {p : Nat} {s : St} (hA : Stn H K F p s) {b : Nat} (hF : F b = none) (hH : H b = none) : Stn H (K.del b) F p s :=
  ⟨hA.set, fun x o hx => (del_ne _ (fun e => by subst e; rw [hF] at hx; cases hx)).trans (hA.le x o hx), fun x o hx => (del_ne _ (fun e => by subst e; rw [hH] at hx; cases hx)).trans (hA.old x o hx), hA.ap⟩
def areaI (sz : Int) : Int := (max 0 (sz - 2)) / 2
def needI (n : Int) : Int := if n < 1 then 0 else (n - 1) / 50 + 1
def fitsI (sz n : Int) : Bool := decide (0 ≤ n) && decide (needI n ≤ areaI sz)
def askI (gen ar : Int) : Bool := decide (1 ≤ gen) && decide (gen ≤ 17179869183) && decide (0 ≤ ar) && decide (ar < 2)
def secI (gen : Int) (b : List Int) (i : Nat) : Sec := ⟨sealI (gen * 8192 + i + 1) 4 (chk b i), sealI_len _ _ _⟩
def St.saveN (s : St) (gen ar : Int) (b : List Int) : Nat → St × Option Int
  | 0 => (s, none)
  | n + 1 => match s.saveN gen ar b n with
    | (t, none) => t.wr 0 (2 + ar * areaI (s.sz 0) + n) (secI gen b n)
    | (t, some e) => (t, some e)
def St.save (s : St) (gen ar : Int) (b : List Int) : St × Option Int :=
  if askI gen ar = false then (s, some 1) else if fitsI (s.sz 0) b.length = false then (s, some 4) else match s.saveN gen ar b (chN b) with
    | (t, none) => t.fl 0
    | (t, some e) => (t, some e)
def St.loadN (s : St) (gen ar n : Int) : Nat → Option (List Int)
  | 0 => some []
  | k + 1 => match s.loadN gen ar n k with
    | none => none
    | some o => if isB (s.rd 0 (2 + ar * areaI (s.sz 0) + k)).1.b (gen * 8192 + k + 1) 4 = true ∧ ((isD (s.rd 0 (2 + ar * areaI (s.sz 0) + k)).1.b (gen * 8192 + k + 1) 4).length : Int) = min 50 (n - o.length) then some (o ++ isD (s.rd 0 (2 + ar * areaI (s.sz 0) + k)).1.b (gen * 8192 + k + 1) 4) else none
def St.load (s : St) (gen ar n : Int) : List Int × Option Int :=
  if askI gen ar = false then ([], some 1) else if n < 0 then ([], some 1) else if s.gone = true then ([], some 3) else if fitsI (s.sz 0) n = false then ([], some 9) else match s.loadN gen ar n (needI n).toNat with
    | none => ([], some 9)
    | some o => (o, none)
theorem areaI_le {sz : Int} (h : sz ≤ 5000) : 0 ≤ areaI sz ∧ areaI sz ≤ 2500 := by unfold areaI; omega
theorem needI_eq (b : List Int) : needI b.length = chN b := by unfold needI chN; split <;> omega
theorem needI_le {n : Int} : 0 ≤ needI n := by unfold needI; split <;> omega
set_option maxRecDepth 100000 in
set_option maxHeartbeats 1000000 in
theorem area_ok {H K F : Hp} {p : Nat} {s : St} (hA : Stn H K F p s) {n : Nat} (hs : Sm n s) (hz0 : 0 ≤ s.sz 0) (hz : s.sz 0 ≤ 5000) : CallH Try.prog 11 #[.pointer (some ⟨p, 0, none⟩)] K (fun v K' => v = .int .i64 (areaI (s.sz 0)) ∧ K' = K) := by
 refine zaB (l := [_]) (rl := [.tmp 2]) (n := 8) Try.func11 rfl rfl rfl rfl rfl ?_
 simp only [envOf, Nat.reduceAdd]
 refine zad (fun K1 hK1 => ?_)
 refine zaa ?_
 refine zao rfl ?_
 refine zae ?_
 try simp only [Ex.thnH, Ex.inBlockH, ↓reduceIte, Nat.reduceEqDiff]
 refine hK1 _ _ ?_; try clear hK1 K1
 refine zad (fun K2 hK2 => ?_)
 refine zaa ?_
 refine zam rfl ?_
 refine zac (fun K hK r => ?_)
 simp only [zaT _ bd31, List.map_toArray, List.map_cons, List.map_nil, eX, ↓reduceIte, Nat.reduceEqDiff, Int.reduceToNat]
 refine (sizeL hA hs 0).mono ?_
 rintro v H' ⟨rfl, rfl⟩
 try simp only [eX, ↓reduceIte, Nat.reduceEqDiff, Int.reduceToNat]
 refine hK _ _ ?_; clear hK K
 refine zac (fun K hK r => ?_)
 simp (disch := (first | omega | decide)) only [zaF, zaH, b_sub, zaw, zaE, zaD, zaQ, eX, ↓reduceIte, Nat.reduceEqDiff, Int.reduceToNat]
 refine hK _ _ ?_; clear hK K
 refine zac (fun K hK r => ?_)
 simp only [zaM, l_max, List.map_toArray, List.map_cons, List.map_nil, i_max2, eX, ↓reduceIte, Nat.reduceEqDiff, Int.reduceToNat]
 refine hK _ _ ?_; clear hK K
 refine zac (fun K hK r => ?_)
 simp (disch := (first | omega | decide)) only [zaF, zaH, b_quo, zaw, zaE, zaD, zaQ, eX, ↓reduceIte, Nat.reduceEqDiff, Int.reduceToNat]
 refine hK _ _ ?_; clear hK K
 refine zao rfl ?_
 refine zae ?_
 try simp only [Ex.thnH, Ex.inBlockH, ↓reduceIte, Nat.reduceEqDiff]
 refine hK2 _ _ ?_; try clear hK2 K2
 refine zaR ?_
 try simp only [Ex.thnH, Ex.inBlockH, ↓reduceIte, Nat.reduceEqDiff]
 refine ⟨[_], ⟨rfl, trivial⟩, _, Le.refl _, ?_, rfl⟩
 show Value.int _ _ = Value.int _ _
 congr 1
 unfold areaI
 have e : (if s.sz 0 - 2 > 0 then s.sz 0 - 2 else 0) = max 0 (s.sz 0 - 2) := by split <;> omega
 rw [e, Int.tdiv_eq_ediv_of_nonneg (by omega), zaw _ (by omega) (by omega)]
set_option maxRecDepth 100000 in
set_option maxHeartbeats 1000000 in
theorem fits_ok {H K F : Hp} {p : Nat} {s : St} (hA : Stn H K F p s) {n : Nat} (hs : Sm n s) (hz0 : 0 ≤ s.sz 0) (hz : s.sz 0 ≤ 5000) (l : Int) (h1 : -9223372036854775808 ≤ l) (h2 : l ≤ 9223372036854775807) : CallH Try.prog 26 #[.pointer (some ⟨p, 0, none⟩), .int .i64 l] K (fun v K' => v = .bool (fitsI (s.sz 0) l) ∧ K' = K) := by
 refine zaB (l := [_, _]) (rl := [.tmp 4]) (n := 14) Try.func26 rfl rfl rfl rfl rfl ?_
 simp only [envOf, Nat.reduceAdd]
 refine zad (fun K1 hK1 => ?_)
 refine zaa ?_
 refine zao rfl ?_
 refine zae ?_
 try simp only [Ex.thnH, Ex.inBlockH, ↓reduceIte, Nat.reduceEqDiff]
 refine hK1 _ _ ?_; try clear hK1 K1
 refine zad (fun K2 hK2 => ?_)
 refine zaa ?_
 refine zam rfl ?_
 refine zac (fun K hK r => ?_)
 simp (disch := (first | omega | decide)) only [zaF, zaH, b_geq, zaq, zar, zat, zau, zas, zav, Bool.not_true, Bool.not_false, eX, ↓reduceIte, Nat.reduceEqDiff, Int.reduceToNat]
 refine hK _ _ ?_; clear hK K
 refine zam rfl ?_
 (first | refine zbc (d := 7) rfl (fun g7 => ?_) (fun g7 => ?_) | skip)
 all_goals try (exfalso; exact cnA g7)
 all_goals (try simp only [decide_eq_true_eq, decide_eq_false_iff_not, Bool.not_eq_true, Bool.not_eq_false, Bool.and_eq_true, Bool.or_eq_true, Bool.or_eq_false_iff, Bool.not_eq_eq_eq_not, Bool.not_true, Bool.not_false] at g7)
 all_goals
  try simp only [eX, ↓reduceIte, Nat.reduceEqDiff, Int.reduceToNat]
  first
  |refine zaf rfl (zab (by decide)) rfl (fun K hK r => ?_)
   simp only [zaU, eX, ↓reduceIte, Nat.reduceEqDiff, Int.reduceToNat]
   refine hK _ _ ?_; clear hK K
  |refine zag rfl (zab (by decide)) rfl ?_
   simp only [eX, ↓reduceIte, Nat.reduceEqDiff, Int.reduceToNat]
  first
  |refine zaf rfl (zab (by decide)) rfl (fun K hK r => ?_)
   simp only [zaT _ bd53, List.map_toArray, List.map_cons, List.map_nil, eX, ↓reduceIte, Nat.reduceEqDiff, Int.reduceToNat]
   refine (Need_ok _ l h1 h2).mono ?_
   rintro v H' ⟨rfl, rfl⟩
   try simp only [eX, ↓reduceIte, Nat.reduceEqDiff, Int.reduceToNat]
   refine hK _ _ ?_; clear hK K
  |refine zag rfl (zab (by decide)) rfl ?_
   simp only [eX, ↓reduceIte, Nat.reduceEqDiff, Int.reduceToNat]
  first
  |refine zaf rfl (zab (by decide)) rfl (fun K hK r => ?_)
   simp only [zaU, eX, ↓reduceIte, Nat.reduceEqDiff, Int.reduceToNat]
   refine hK _ _ ?_; clear hK K
  |refine zag rfl (zab (by decide)) rfl ?_
   simp only [eX, ↓reduceIte, Nat.reduceEqDiff, Int.reduceToNat]
  first
  |refine zaf rfl (zab (by decide)) rfl (fun K hK r => ?_)
   simp only [zaT _ bd11, List.map_toArray, List.map_cons, List.map_nil, eX, ↓reduceIte, Nat.reduceEqDiff, Int.reduceToNat]
   refine (area_ok hA hs hz0 hz).mono ?_
   rintro v H' ⟨rfl, rfl⟩
   try simp only [eX, ↓reduceIte, Nat.reduceEqDiff, Int.reduceToNat]
   refine hK _ _ ?_; clear hK K
  |refine zag rfl (zab (by decide)) rfl ?_
   simp only [eX, ↓reduceIte, Nat.reduceEqDiff, Int.reduceToNat]
  first
  |refine zaf rfl (zab (by decide)) rfl (fun K hK r => ?_)
   simp (disch := (first | omega | decide)) only [zaF, zaH, b_leq, zaq, zar, zat, zau, zas, zav, Bool.not_true, Bool.not_false, eX, ↓reduceIte, Nat.reduceEqDiff, Int.reduceToNat]
   refine hK _ _ ?_; clear hK K
  |refine zag rfl (zab (by decide)) rfl ?_
   simp only [eX, ↓reduceIte, Nat.reduceEqDiff, Int.reduceToNat]
  refine zac (fun K hK r => ?_)
  simp only [zbp, zaZ, HL.ite_bool, if_true, if_false, Bool.false_eq_true, eX, ↓reduceIte, Nat.reduceEqDiff, Int.reduceToNat]
  refine hK _ _ ?_; clear hK K
  refine zao rfl ?_
  refine zae ?_
  try simp only [Ex.thnH, Ex.inBlockH, ↓reduceIte, Nat.reduceEqDiff]
  refine hK2 _ _ ?_; try clear hK2 K2
  refine zaR ?_
  try simp only [Ex.thnH, Ex.inBlockH, ↓reduceIte, Nat.reduceEqDiff]
  refine ⟨[_], ⟨rfl, trivial⟩, _, Le.refl _, ?_, rfl⟩
  show Value.bool _ = Value.bool _
  congr 1
  unfold fitsI needI
  first | (simp_all; done) | (rw [decide_eq_false (by assumption)]; rfl)
set_option maxRecDepth 100000 in
set_option maxHeartbeats 1000000 in
theorem asked_ok (K : Hp) (p : Nat) (gen ar : Int) : CallH Try.prog 33 #[.pointer (some ⟨p, 0, none⟩), .int .i64 gen, .int .i64 ar] K (fun v K' => v = errV (if askI gen ar = true then none else some 1) ∧ K' = K) := by
 refine zaB (l := [_, _, _]) (rl := [.tmp 6]) (n := 26) Try.func33 rfl rfl rfl rfl rfl ?_
 simp only [envOf, Nat.reduceAdd]
 refine zad (fun K1 hK1 => ?_)
 refine zaa ?_
 refine zao rfl ?_
 refine zae ?_
 try simp only [Ex.thnH, Ex.inBlockH, ↓reduceIte, Nat.reduceEqDiff]
 refine hK1 _ _ ?_; try clear hK1 K1
 refine zad (fun K2 hK2 => ?_)
 refine zad (fun K3 hK3 => ?_)
 refine zaa ?_
 refine zam rfl ?_
 refine zac (fun K hK r => ?_)
 simp only [zaF, zaH, g_bool, zbo, zbk, g_slice, g_map, g_func, zbl, g_iface, zbe, g_nil_r, g_nil_l, eX, ↓reduceIte, Nat.reduceEqDiff, Int.reduceToNat]
 rw [e_eql _ _ _ _ (by simp)]
 rw [q_equal]
 first | rw [q_ptr_nil _ _ _ Try.underlying31] | rw [q_nil_ptr _ _ _ Try.underlying31]
 try simp only [eX, ↓reduceIte, Nat.reduceEqDiff, Int.reduceToNat]
 refine hK _ _ ?_; clear hK K
 refine zam rfl ?_
 (first | refine zbc (d := 9) rfl (fun g9 => ?_) (fun g9 => ?_) | skip)
 all_goals try (exfalso; exact cnA g9)
 all_goals (try simp only [decide_eq_true_eq, decide_eq_false_iff_not, Bool.not_eq_true, Bool.not_eq_false, Bool.and_eq_true, Bool.or_eq_true, Bool.or_eq_false_iff, Bool.not_eq_eq_eq_not, Bool.not_true, Bool.not_false] at g9)
 all_goals
  try simp only [eX, ↓reduceIte, Nat.reduceEqDiff, Int.reduceToNat]
  first
  |refine zaf rfl (zab (by decide)) rfl (fun K hK r => ?_)
   simp only [zaU, eX, ↓reduceIte, Nat.reduceEqDiff, Int.reduceToNat]
   refine hK _ _ ?_; clear hK K
  |refine zag rfl (zab (by decide)) rfl ?_
   simp only [eX, ↓reduceIte, Nat.reduceEqDiff, Int.reduceToNat]
  first
  |refine zaf rfl (zab (by decide)) rfl (fun K hK r => ?_)
   simp (disch := (first | omega | decide)) only [zaF, zaH, b_lss, zaq, zar, zat, zau, zas, zav, Bool.not_true, Bool.not_false, eX, ↓reduceIte, Nat.reduceEqDiff, Int.reduceToNat]
   refine hK _ _ ?_; clear hK K
  |refine zag rfl (zab (by decide)) rfl ?_
   simp only [eX, ↓reduceIte, Nat.reduceEqDiff, Int.reduceToNat]
  refine zac (fun K hK r => ?_)
  simp only [zbp, zaZ, HL.ite_bool, if_true, if_false, Bool.false_eq_true, eX, ↓reduceIte, Nat.reduceEqDiff, Int.reduceToNat]
  refine hK _ _ ?_; clear hK K
  refine zam rfl ?_
  (first | refine zbc (d := 13) rfl (fun g13 => ?_) (fun g13 => ?_) | skip)
  all_goals try (exfalso; exact cnA g13)
  all_goals (try simp only [decide_eq_true_eq, decide_eq_false_iff_not, Bool.not_eq_true, Bool.not_eq_false, Bool.and_eq_true, Bool.or_eq_true, Bool.or_eq_false_iff, Bool.not_eq_eq_eq_not, Bool.not_true, Bool.not_false] at g13)
  all_goals
   try simp only [eX, ↓reduceIte, Nat.reduceEqDiff, Int.reduceToNat]
   first
   |refine zaf rfl (zab (by decide)) rfl (fun K hK r => ?_)
    simp only [zaU, eX, ↓reduceIte, Nat.reduceEqDiff, Int.reduceToNat]
    refine hK _ _ ?_; clear hK K
   |refine zag rfl (zab (by decide)) rfl ?_
    simp only [eX, ↓reduceIte, Nat.reduceEqDiff, Int.reduceToNat]
   first
   |refine zaf rfl (zab (by decide)) rfl (fun K hK r => ?_)
    simp (disch := (first | omega | decide)) only [zaF, zaH, b_gtr, zaq, zar, zat, zau, zas, zav, Bool.not_true, Bool.not_false, eX, ↓reduceIte, Nat.reduceEqDiff, Int.reduceToNat]
    refine hK _ _ ?_; clear hK K
   |refine zag rfl (zab (by decide)) rfl ?_
    simp only [eX, ↓reduceIte, Nat.reduceEqDiff, Int.reduceToNat]
   refine zac (fun K hK r => ?_)
   simp only [zbp, zaZ, HL.ite_bool, if_true, if_false, Bool.false_eq_true, eX, ↓reduceIte, Nat.reduceEqDiff, Int.reduceToNat]
   refine hK _ _ ?_; clear hK K
   refine zam rfl ?_
   (first | refine zbc (d := 17) rfl (fun g17 => ?_) (fun g17 => ?_) | skip)
   all_goals try (exfalso; exact cnA g17)
   all_goals (try simp only [decide_eq_true_eq, decide_eq_false_iff_not, Bool.not_eq_true, Bool.not_eq_false, Bool.and_eq_true, Bool.or_eq_true, Bool.or_eq_false_iff, Bool.not_eq_eq_eq_not, Bool.not_true, Bool.not_false] at g17)
   all_goals
    try simp only [eX, ↓reduceIte, Nat.reduceEqDiff, Int.reduceToNat]
    first
    |refine zaf rfl (zab (by decide)) rfl (fun K hK r => ?_)
     simp only [zaU, eX, ↓reduceIte, Nat.reduceEqDiff, Int.reduceToNat]
     refine hK _ _ ?_; clear hK K
    |refine zag rfl (zab (by decide)) rfl ?_
     simp only [eX, ↓reduceIte, Nat.reduceEqDiff, Int.reduceToNat]
    first
    |refine zaf rfl (zab (by decide)) rfl (fun K hK r => ?_)
     simp (disch := (first | omega | decide)) only [zaF, zaH, b_lss, zaq, zar, zat, zau, zas, zav, Bool.not_true, Bool.not_false, eX, ↓reduceIte, Nat.reduceEqDiff, Int.reduceToNat]
     refine hK _ _ ?_; clear hK K
    |refine zag rfl (zab (by decide)) rfl ?_
     simp only [eX, ↓reduceIte, Nat.reduceEqDiff, Int.reduceToNat]
    refine zac (fun K hK r => ?_)
    simp only [zbp, zaZ, HL.ite_bool, if_true, if_false, Bool.false_eq_true, eX, ↓reduceIte, Nat.reduceEqDiff, Int.reduceToNat]
    refine hK _ _ ?_; clear hK K
    refine zam rfl ?_
    (first | refine zbc (d := 21) rfl (fun g21 => ?_) (fun g21 => ?_) | skip)
    all_goals try (exfalso; exact cnA g21)
    all_goals (try simp only [decide_eq_true_eq, decide_eq_false_iff_not, Bool.not_eq_true, Bool.not_eq_false, Bool.and_eq_true, Bool.or_eq_true, Bool.or_eq_false_iff, Bool.not_eq_eq_eq_not, Bool.not_true, Bool.not_false] at g21)
    all_goals
     try simp only [eX, ↓reduceIte, Nat.reduceEqDiff, Int.reduceToNat]
     first
     |refine zaf rfl (zab (by decide)) rfl (fun K hK r => ?_)
      simp only [zaU, eX, ↓reduceIte, Nat.reduceEqDiff, Int.reduceToNat]
      refine hK _ _ ?_; clear hK K
     |refine zag rfl (zab (by decide)) rfl ?_
      simp only [eX, ↓reduceIte, Nat.reduceEqDiff, Int.reduceToNat]
     first
     |refine zaf rfl (zab (by decide)) rfl (fun K hK r => ?_)
      simp (disch := (first | omega | decide)) only [zaF, zaH, b_geq, zaq, zar, zat, zau, zas, zav, Bool.not_true, Bool.not_false, eX, ↓reduceIte, Nat.reduceEqDiff, Int.reduceToNat]
      refine hK _ _ ?_; clear hK K
     |refine zag rfl (zab (by decide)) rfl ?_
      simp only [eX, ↓reduceIte, Nat.reduceEqDiff, Int.reduceToNat]
     refine zac (fun K hK r => ?_)
     simp only [zbp, zaZ, HL.ite_bool, if_true, if_false, Bool.false_eq_true, eX, ↓reduceIte, Nat.reduceEqDiff, Int.reduceToNat]
     refine hK _ _ ?_; clear hK K
     refine zae ?_
     try simp only [Ex.thnH, Ex.inBlockH, ↓reduceIte, Nat.reduceEqDiff]
     refine hK3 _ _ ?_; try clear hK3 K3
     refine zaG (fun r => rfl) (fun c24 => ?_) (fun c24 => ?_)
     ·first
      |(exfalso; exact cnA c24; done)
      |skip
       (try simp only [decide_eq_true_eq, decide_eq_false_iff_not, Bool.not_eq_true, Bool.not_eq_false, Bool.and_eq_true, Bool.or_eq_true, Bool.or_eq_false_iff, Bool.not_eq_eq_eq_not, Bool.not_true, Bool.not_false] at c24)
       refine zad (fun K4 hK4 => ?_)
       refine zaa ?_
       refine zac (fun K hK r => ?_)
       simp only [zbf, zbg, Try.underlying73, zal, eX, ↓reduceIte, Nat.reduceEqDiff, Int.reduceToNat]
       refine hK _ _ ?_; clear hK K
       refine zao rfl ?_
       refine zae ?_
       try simp only [Ex.thnH, Ex.inBlockH, ↓reduceIte, Nat.reduceEqDiff]
       refine hK4 _ _ ?_; try clear hK4 K4
       refine zaR ?_
       try simp only [Ex.thnH, Ex.inBlockH, ↓reduceIte, Nat.reduceEqDiff]
       refine ⟨[_], ⟨rfl, trivial⟩, _, Le.refl _, ?_, rfl⟩
       have e : askI gen ar = false := by
        unfold askI
        simp only [Bool.and_eq_false_iff, decide_eq_false_iff_not]
        omega
       rw [if_neg (by rw [e]; simp)]
       rfl
     ·first
      |(exfalso; exact cnA c24; done)
      |skip
       (try simp only [decide_eq_true_eq, decide_eq_false_iff_not, Bool.not_eq_true, Bool.not_eq_false, Bool.and_eq_true, Bool.or_eq_true, Bool.or_eq_false_iff, Bool.not_eq_eq_eq_not, Bool.not_true, Bool.not_false] at c24)
       refine zaO ?_
       try simp only [Ex.thnH, Ex.inBlockH, ↓reduceIte, Nat.reduceEqDiff]
       refine hK2 _ _ ?_; try clear hK2 K2
       refine zad (fun K5 hK5 => ?_)
       refine zaa ?_
       refine zao rfl ?_
       refine zae ?_
       try simp only [Ex.thnH, Ex.inBlockH, ↓reduceIte, Nat.reduceEqDiff]
       refine hK5 _ _ ?_; try clear hK5 K5
       refine zaR ?_
       try simp only [Ex.thnH, Ex.inBlockH, ↓reduceIte, Nat.reduceEqDiff]
       refine ⟨[_], ⟨rfl, trivial⟩, _, Le.refl _, ?_, rfl⟩
       have e : askI gen ar = true := by
        unfold askI
        simp only [Bool.and_eq_true, decide_eq_true_eq]
        omega
       rw [if_pos e]
       rfl
set_option maxRecDepth 100000 in
set_option maxHeartbeats 1000000 in
theorem place_ok {H K F : Hp} {p : Nat} {s : St} (hA : Stn H K F p s) {n : Nat} (hs : Sm n s) (hz0 : 0 ≤ s.sz 0) (hz : s.sz 0 ≤ 5000) (gen ar i : Int) (hg : 0 ≤ gen ∧ gen ≤ 17179869183) (ha : 0 ≤ ar ∧ ar < 2) (hi : 0 ≤ i ∧ i ≤ 100000) : CallH Try.prog 35 #[.pointer (some ⟨p, 0, none⟩), .int .i64 gen, .int .i64 ar, .int .i64 i] K (fun v K' => v = .tuple #[.int .i64 (2 + ar * areaI (s.sz 0) + i), .int .i64 (gen * 8192 + i + 1)] ∧ K' = K) := by
 refine zaB (l := [_, _, _, _]) (rl := [.tmp 8, .tmp 9]) (n := 22) Try.func35 rfl rfl rfl rfl rfl ?_
 simp only [envOf, Nat.reduceAdd]
 have hal := areaI_le hz
 have hmul : 0 ≤ ar * areaI (s.sz 0) ∧ ar * areaI (s.sz 0) ≤ 2500 := by
  rcases (show ar = 0 ∨ ar = 1 by omega) with rfl | rfl
  ·omega
  ·omega
 refine zad (fun K1 hK1 => ?_)
 refine zaa ?_
 refine zao rfl ?_
 refine zao rfl ?_
 refine zae ?_
 try simp only [Ex.thnH, Ex.inBlockH, ↓reduceIte, Nat.reduceEqDiff]
 refine hK1 _ _ ?_; try clear hK1 K1
 refine zad (fun K2 hK2 => ?_)
 refine zaa ?_
 refine zam rfl ?_
 refine zam rfl ?_
 refine zac (fun K hK r => ?_)
 simp only [zaT _ bd11, List.map_toArray, List.map_cons, List.map_nil, eX, ↓reduceIte, Nat.reduceEqDiff, Int.reduceToNat]
 refine (area_ok hA hs hz0 hz).mono ?_
 rintro v H' ⟨rfl, rfl⟩
 try simp only [eX, ↓reduceIte, Nat.reduceEqDiff, Int.reduceToNat]
 refine hK _ _ ?_; clear hK K
 refine zac (fun K hK r => ?_)
 simp (disch := (first | omega | decide)) only [zaF, zaH, b_mul, zaw, zaE, zaD, zaQ, eX, ↓reduceIte, Nat.reduceEqDiff, Int.reduceToNat]
 refine hK _ _ ?_; clear hK K
 refine zac (fun K hK r => ?_)
 simp (disch := (first | omega | decide)) only [zaF, zaH, b_add, zaw, zaE, zaD, zaQ, eX, ↓reduceIte, Nat.reduceEqDiff, Int.reduceToNat]
 refine hK _ _ ?_; clear hK K
 refine zam rfl ?_
 refine zac (fun K hK r => ?_)
 simp (disch := (first | omega | decide)) only [zaF, zaH, b_add, zaw, zaE, zaD, zaQ, eX, ↓reduceIte, Nat.reduceEqDiff, Int.reduceToNat]
 refine hK _ _ ?_; clear hK K
 refine zam rfl ?_
 refine zac (fun K hK r => ?_)
 simp (disch := (first | omega | decide)) only [zaF, zaH, b_mul, zaw, zaE, zaD, zaQ, eX, ↓reduceIte, Nat.reduceEqDiff, Int.reduceToNat]
 refine hK _ _ ?_; clear hK K
 refine zam rfl ?_
 refine zac (fun K hK r => ?_)
 simp (disch := (first | omega | decide)) only [zaF, zaH, b_add, zaw, zaE, zaD, zaQ, eX, ↓reduceIte, Nat.reduceEqDiff, Int.reduceToNat]
 refine hK _ _ ?_; clear hK K
 refine zac (fun K hK r => ?_)
 simp (disch := (first | omega | decide)) only [zaF, zaH, b_add, zaw, zaE, zaD, zaQ, eX, ↓reduceIte, Nat.reduceEqDiff, Int.reduceToNat]
 refine hK _ _ ?_; clear hK K
 refine zao rfl ?_
 refine zao rfl ?_
 refine zae ?_
 try simp only [Ex.thnH, Ex.inBlockH, ↓reduceIte, Nat.reduceEqDiff]
 refine hK2 _ _ ?_; try clear hK2 K2
 refine zaR ?_
 try simp only [Ex.thnH, Ex.inBlockH, ↓reduceIte, Nat.reduceEqDiff]
 refine ⟨[_, _], ⟨rfl, rfl, trivial⟩, _, Le.refl _, rfl, rfl⟩
end Go.Proofs.Ytcjdkfhmlnfedaa.HL
end
section
namespace Go.Proofs.Ytcjdkfhmlnfedaa.HL
open Go Go.Proofs
set_option linter.unusedSimpArgs false
set_option linter.unusedVariables false
attribute [local irreducible] Lt Lq CW OW TW CallH
theorem wr_szE (s : St) (dev i : Int) (x : Sec) (z : Int) : (s.wr dev i x).1.sz z = s.sz z := by
  rcases wr_cases s dev i x with ⟨e, _⟩ | ⟨e, _⟩ | ⟨e, _⟩
  · rw [e]
  · rw [e]; unfold St.sz; rw [step_dv]
  · rw [e]
    unfold St.sz
    show (if 0 ≤ z ∧ z < ((s.dv.set dev.toNat _).length : Int) then ((s.dv.set dev.toNat _).getD z.toNat default).size else 0) = _
    rw [List.length_set]
    by_cases h : 0 ≤ z ∧ z < s.dv.length
    · rw [if_pos h, if_pos h, getD_set]
      split
      · rename_i e2; rw [e2.1]; rfl
      · rfl
    · rw [if_neg h, if_neg h]
theorem saveN_sz (s : St) (gen ar : Int) (b : List Int) (z : Int) : ∀ k, (s.saveN gen ar b k).1.sz z = s.sz z
  | 0 => rfl
  | k + 1 => by
    have ih := saveN_sz s gen ar b z k
    unfold St.saveN
    split
    · rename_i t h; rw [wr_szE]; rw [h] at ih; exact ih
    · rename_i t e h; rw [h] at ih; exact ih
theorem saveN_sm {n : Nat} {s : St} (hs : Sm n s) (gen ar : Int) (b : List Int) : ∀ k, Sm (n + k) (s.saveN gen ar b k).1
  | 0 => hs
  | k + 1 => by
    have ih := saveN_sm hs gen ar b k
    unfold St.saveN
    split
    · rename_i t h; rw [h] at ih; exact ih.wr _ _ _
    · rename_i t e h; rw [h] at ih; exact ih.up (by omega)
theorem saveN_next {s : St} {gen ar : Int} {b : List Int} {k : Nat} (h : (s.saveN gen ar b k).2 = none) : s.saveN gen ar b (k + 1) = (s.saveN gen ar b k).1.wr 0 (2 + ar * areaI (s.sz 0) + k) (secI gen b k) := by
  conv => lhs; unfold St.saveN
  generalize s.saveN gen ar b k = q at *
  obtain ⟨t, e⟩ := q
  cases h; rfl
theorem saveN_stop {s : St} {gen ar : Int} {b : List Int} {k : Nat} {e : Int} (h : (s.saveN gen ar b k).2 = some e) : ∀ m, s.saveN gen ar b (k + m) = s.saveN gen ar b k
  | 0 => rfl
  | m + 1 => by
    have ih := saveN_stop h m
    show s.saveN gen ar b ((k + m) + 1) = _
    conv => lhs; unfold St.saveN
    rw [ih]
    generalize s.saveN gen ar b k = q at *
    obtain ⟨t, e'⟩ := q
    cases h; rfl
theorem save_stop {s : St} {gen ar : Int} {b : List Int} (h1 : askI gen ar = true) (h2 : fitsI (s.sz 0) b.length = true) {k : Nat} (hk : k ≤ chN b) {e : Int} (h : (s.saveN gen ar b k).2 = some e) : s.save gen ar b = s.saveN gen ar b k := by
  have hs := saveN_stop h (chN b - k)
  rw [show k + (chN b - k) = chN b from by omega] at hs
  unfold St.save
  rw [if_neg (by rw [h1]; simp), if_neg (by rw [h2]; simp), hs]
  generalize s.saveN gen ar b k = q at *
  obtain ⟨t, e'⟩ := q
  cases h; rfl
theorem save_all {s : St} {gen ar : Int} {b : List Int} (h1 : askI gen ar = true) (h2 : fitsI (s.sz 0) b.length = true) (h : (s.saveN gen ar b (chN b)).2 = none) : s.save gen ar b = (s.saveN gen ar b (chN b)).1.fl 0 := by
  unfold St.save
  rw [if_neg (by rw [h1]; simp), if_neg (by rw [h2]; simp)]
  generalize s.saveN gen ar b (chN b) = q at *
  obtain ⟨t, e'⟩ := q
  cases h; rfl
theorem ask_iff {gen ar : Int} : askI gen ar = true ↔ (1 ≤ gen ∧ gen ≤ 17179869183) ∧ 0 ≤ ar ∧ ar < 2 := by
  unfold askI
  simp only [Bool.and_eq_true, decide_eq_true_eq]
  constructor
  · rintro ⟨⟨⟨h1, h2⟩, h3⟩, h4⟩; exact ⟨⟨h1, h2⟩, h3, h4⟩
  · rintro ⟨⟨h1, h2⟩, h3, h4⟩; exact ⟨⟨⟨h1, h2⟩, h3⟩, h4⟩
theorem seal_fine {gen : Int} {b : List Int} {i : Nat} (hg : 1 ≤ gen ∧ gen ≤ 17179869183) (hi : i ≤ 100000) : badI (gen * 8192 + i + 1) 4 (chk b i) = none := by
  unfold badI
  rw [if_neg (by omega), if_neg (by unfold chk; rw [List.length_take]; omega)]
end Go.Proofs.Ytcjdkfhmlnfedaa.HL
end
section
namespace Go.Proofs.Ytcjdkfhmlnfedaa.HL
open Go Go.Proofs
set_option linter.unusedSimpArgs false
set_option linter.unusedVariables false
attribute [local irreducible] Lt Lq CW OW TW CallH
theorem plain_errV (o : Option Int) : plainCell (errV o) = true := by cases o <;> rfl
set_option maxRecDepth 100000 in
set_option maxHeartbeats 8000000 in
theorem saveL {Q H F : Hp} {p : Nat} {s : St} (hA : Stn Q H F p s) {n : Nat} (hs : Sm n s) (hn : n ≤ 100000) (hz0 : 0 ≤ s.sz 0) (hz : s.sz 0 ≤ 5000) (gen ar : Int) (ba : Option Addr) (bc : Nat) (b : List Int) (hb : Holds Q 1 (.slice ba b.length bc) b.length (u8s b)) (hbc : b.length ≤ bc) (hbl : b.length ≤ 2000) : CallH Try.prog 14 #[.pointer (some ⟨p, 0, none⟩), .int .i64 gen, .int .i64 ar, .slice ba b.length bc] H (fun v H' => v = errV (s.save gen ar b).2 ∧ ∃ F', Stn Q H' F' p (s.save gen ar b).1) := by
 refine zaB (l := [_, _, _, _]) (rl := [.cell 8 33]) (n := 61) Try.func14 rfl rfl rfl rfl rfl ?_
 simp only [envOf, Nat.reduceAdd]
 refine zad (fun K1 hK1 => ?_)
 refine zaa ?_
 refine zac (fun K hK r => ?_)
 simp only [x_box, Value.cells, eX, ↓reduceIte, Nat.reduceEqDiff, Int.reduceToNat]
 intro b4 hb4
 have f4_H : H b4 = none := zaj lhA hb4
 try simp only [eX, ↓reduceIte, Nat.reduceEqDiff, Int.reduceToNat]
 refine hK _ _ ?_; clear hK K
 refine zac (fun K hK r => ?_)
 simp only [x_box, Value.cells, eX, ↓reduceIte, Nat.reduceEqDiff, Int.reduceToNat]
 intro b5 hb5
 try have n5_b4 : b4 ≠ b5 := zai hbA hb5
 have f5_H : H b5 = none := zaj lhA hb5
 try simp only [eX, ↓reduceIte, Nat.reduceEqDiff, Int.reduceToNat]
 refine hK _ _ ?_; clear hK K
 refine zac (fun K hK r => ?_)
 simp only [x_box, Value.cells, eX, ↓reduceIte, Nat.reduceEqDiff, Int.reduceToNat]
 intro b6 hb6
 try have n6_b4 : b4 ≠ b6 := zai hbA hb6
 try have n6_b5 : b5 ≠ b6 := zai hbA hb6
 have f6_H : H b6 = none := zaj lhA hb6
 try simp only [eX, ↓reduceIte, Nat.reduceEqDiff, Int.reduceToNat]
 refine hK _ _ ?_; clear hK K
 refine zac (fun K hK r => ?_)
 simp only [x_alloc, zr33, zal, Value.cells, eX, ↓reduceIte, Nat.reduceEqDiff, Int.reduceToNat]
 intro b8 hb8
 try have n8_b4 : b4 ≠ b8 := zai hbA hb8
 try have n8_b5 : b5 ≠ b8 := zai hbA hb8
 try have n8_b6 : b6 ≠ b8 := zai hbA hb8
 have f8_H : H b8 = none := zaj lhA hb8
 have hA4 := hA.put (hA.fresh hb4) (.cells #[.pointer (some ⟨p, 0, none⟩)] 31)
 have hA5 := hA4.put (hA4.fresh hb5) (.cells #[.int .i64 gen] 3)
 have hA6 := hA5.put (hA5.fresh hb6) (.cells #[.int .i64 ar] 3)
 have hA8 : Stn ((((Q.upd b4 (.cells #[.pointer (some ⟨p, 0, none⟩)] 31)).upd b5 (.cells #[.int .i64 gen] 3)).upd b6 (.cells #[.int .i64 ar] 3)).upd b8 (.cells #[.nilIface] 33)) _ F p s := hA6.put (hA6.fresh hb8) (.cells #[.nilIface] 33)
 have q4 : Q b4 = none := zaj hA.old hb4
 have q5 : Q b5 = none := zaj hA.old (upd_none hb5)
 have q6 : Q b6 = none := zaj hA.old (upd_none (upd_none hb6))
 have q8 : Q b8 = none := zaj hA.old (upd_none (upd_none (upd_none hb8)))
 have lQ : Le Q ((((Q.upd b4 (.cells #[.pointer (some ⟨p, 0, none⟩)] 31)).upd b5 (.cells #[.int .i64 gen] 3)).upd b6 (.cells #[.int .i64 ar] 3)).upd b8 (.cells #[.nilIface] 33)) := zaP (zaP (zaP (le_upd _ _ _ q4) q5) q6) q8
 try simp only [eX, ↓reduceIte, Nat.reduceEqDiff, Int.reduceToNat]
 refine hK _ _ ?_; clear hK K
 refine zae ?_
 try simp only [Ex.thnH, Ex.inBlockH, ↓reduceIte, Nat.reduceEqDiff]
 refine hK1 _ _ ?_; try clear hK1 K1
 refine zad (fun K2 hK2 => ?_)
 refine zad (fun K3 hK3 => ?_)
 refine zaa ?_
 refine zac (fun K hK r => ?_)
 simp only [zan, eX, ↓reduceIte, Nat.reduceEqDiff, Int.reduceToNat]
 refine zak Try.underlying31 rfl hbA ldA ?_
 try simp only [eX, ↓reduceIte, Nat.reduceEqDiff, Int.reduceToNat]
 refine hK _ _ ?_; clear hK K
 refine zac (fun K hK r => ?_)
 simp only [zan, eX, ↓reduceIte, Nat.reduceEqDiff, Int.reduceToNat]
 refine zak Try.underlying3 rfl hbA ldA ?_
 try simp only [eX, ↓reduceIte, Nat.reduceEqDiff, Int.reduceToNat]
 refine hK _ _ ?_; clear hK K
 refine zac (fun K hK r => ?_)
 simp only [zan, eX, ↓reduceIte, Nat.reduceEqDiff, Int.reduceToNat]
 refine zak Try.underlying3 rfl hbA ldA ?_
 try simp only [eX, ↓reduceIte, Nat.reduceEqDiff, Int.reduceToNat]
 refine hK _ _ ?_; clear hK K
 refine zac (fun K hK r => ?_)
 simp only [zaT _ bd33, List.map_toArray, List.map_cons, List.map_nil, eX, ↓reduceIte, Nat.reduceEqDiff, Int.reduceToNat]
 refine (asked_ok _ p gen ar).mono ?_
 rintro v H' ⟨rfl, rfl⟩
 try simp only [eX, ↓reduceIte, Nat.reduceEqDiff, Int.reduceToNat]
 refine hK _ _ ?_; clear hK K
 refine zao rfl ?_
 refine zae ?_
 try simp only [Ex.thnH, Ex.inBlockH, ↓reduceIte, Nat.reduceEqDiff]
 refine hK3 _ _ ?_; try clear hK3 K3
 refine zad (fun K4 hK4 => ?_)
 refine zaa ?_
 refine zam rfl ?_
 refine zac (fun K hK r => ?_)
 simp only [zaF, zaH, g_bool, zbo, zbk, g_slice, g_map, g_func, zbl, g_err, g_iface, zbe, g_nil_r, g_nil_l, eX, ↓reduceIte, Nat.reduceEqDiff, Int.reduceToNat]
 first | rw [b_err_neq _ _ Try.underlying33] | (rw [e_neq _ _ _ _ (by simp), q_equal]; first | rw [q_iface_nil _ _ _ Try.underlying33] | rw [q_nil_iface _ _ _ Try.underlying33] | rw [q_nil_nil _ _ _ Try.underlying33])
 try simp only [eX, ↓reduceIte, Nat.reduceEqDiff, Int.reduceToNat]
 refine hK _ _ ?_; clear hK K
 refine zae ?_
 try simp only [Ex.thnH, Ex.inBlockH, ↓reduceIte, Nat.reduceEqDiff]
 refine hK4 _ _ ?_; try clear hK4 K4
 refine zaG (fun r => rfl) (fun c22 => ?_) (fun c22 => ?_)
 ·first
  |(exfalso; exact cnA c22; done)
  |skip
   have hask : askI gen ar = false := by
    cases h : askI gen ar with
    |false => rfl
    |true => rw [h] at c22; cases c22
   refine zad (fun K5 hK5 => ?_)
   refine zaa ?_
   refine zam rfl ?_
   refine zbq rfl (zaJ) (fun K hK r => ?_)
   simp only [zaL, eX, ↓reduceIte, Nat.reduceEqDiff, Int.reduceToNat]
   refine zaY sz33 hbA bdA (plain_errV _) fzA ?_
   try simp only [setL0, setL1, setL2, setL3]
   refine hK _ _ ?_; clear hK K
   refine zae ?_
   try simp only [Ex.thnH, Ex.inBlockH, ↓reduceIte, Nat.reduceEqDiff]
   refine hK5 _ _ ?_; try clear hK5 K5
   refine zaR ?_
   try simp only [Ex.thnH, Ex.inBlockH, ↓reduceIte, Nat.reduceEqDiff]
   have hsv : s.save gen ar b = (s, some 1) := by unfold St.save; rw [if_pos hask]
   rw [hsv]
   refine ⟨[_], ⟨⟨_, rfl, Lq_load1 Try.underlying33 rfl hbA ldA⟩, trivial⟩, _, Le.refl _, ?_, _, (hA8.less lQ).off (hA8.ap b8 (by rw [zax]; simp)) q8 _⟩
   show errV _ = errV _
   rw [hask]
   rfl
 ·first
  |(exfalso; exact cnA c22; done)
  |skip
   have hask : askI gen ar = true := by
    cases h : askI gen ar with
    |true => rfl
    |false => rw [h] at c22; cases c22
   obtain ⟨hgn, hrn⟩ := ask_iff.1 hask
   refine zaO ?_
   try simp only [Ex.thnH, Ex.inBlockH, ↓reduceIte, Nat.reduceEqDiff]
   refine hK2 _ _ ?_; try clear hK2 K2
   refine zad (fun K6 hK6 => ?_)
   refine zad (fun K7 hK7 => ?_)
   refine zaa ?_
   refine zac (fun K hK r => ?_)
   simp only [zan, eX, ↓reduceIte, Nat.reduceEqDiff, Int.reduceToNat]
   refine zak Try.underlying31 rfl hbA ldA ?_
   try simp only [eX, ↓reduceIte, Nat.reduceEqDiff, Int.reduceToNat]
   refine hK _ _ ?_; clear hK K
   refine zam rfl ?_
   refine zac (fun K hK r => ?_)
   simp only [zaM, l_len, List.map_toArray, List.map_cons, List.map_nil, zaS _ _ Try.underlying22, eX, ↓reduceIte, Nat.reduceEqDiff, Int.reduceToNat]
   refine hK _ _ ?_; clear hK K
   refine zac (fun K hK r => ?_)
   simp only [zaT _ bd26, List.map_toArray, List.map_cons, List.map_nil, eX, ↓reduceIte, Nat.reduceEqDiff, Int.reduceToNat]
   refine (fits_ok hA8 hs hz0 hz b.length (by omega) (by omega)).mono ?_
   rintro v H' ⟨rfl, rfl⟩
   try simp only [eX, ↓reduceIte, Nat.reduceEqDiff, Int.reduceToNat]
   refine hK _ _ ?_; clear hK K
   refine zac (fun K hK r => ?_)
   simp only [x_un, u_not, eX, ↓reduceIte, Nat.reduceEqDiff, Int.reduceToNat]
   refine hK _ _ ?_; clear hK K
   refine zae ?_
   try simp only [Ex.thnH, Ex.inBlockH, ↓reduceIte, Nat.reduceEqDiff]
   refine hK7 _ _ ?_; try clear hK7 K7
   refine zaG (fun r => rfl) (fun c28 => ?_) (fun c28 => ?_)
   ·first
    |(exfalso; exact cnA c28; done)
    |skip
     have hfit : fitsI (s.sz 0) b.length = false := by simpa using c28
     refine zad (fun K8 hK8 => ?_)
     refine zaa ?_
     refine zac (fun K hK r => ?_)
     simp only [zbf, zbg, Try.underlying73, zal, eX, ↓reduceIte, Nat.reduceEqDiff, Int.reduceToNat]
     refine hK _ _ ?_; clear hK K
     refine zbq rfl (zaJ) (fun K hK r => ?_)
     simp only [zaL, eX, ↓reduceIte, Nat.reduceEqDiff, Int.reduceToNat]
     refine zaY sz33 hbA bdA plA fzA ?_
     try simp only [setL0, setL1, setL2, setL3]
     refine hK _ _ ?_; clear hK K
     refine zae ?_
     try simp only [Ex.thnH, Ex.inBlockH, ↓reduceIte, Nat.reduceEqDiff]
     refine hK8 _ _ ?_; try clear hK8 K8
     refine zaR ?_
     try simp only [Ex.thnH, Ex.inBlockH, ↓reduceIte, Nat.reduceEqDiff]
     have hsv : s.save gen ar b = (s, some 4) := by unfold St.save; rw [if_neg (by rw [hask]; simp), if_pos hfit]
     rw [hsv]
     refine ⟨[_], ⟨⟨_, rfl, Lq_load1 Try.underlying33 rfl hbA ldA⟩, trivial⟩, _, Le.refl _, ?_, _, (hA8.less lQ).off (hA8.ap b8 (by rw [zax]; simp)) q8 _⟩
     rfl
   ·first
    |(exfalso; exact cnA c28; done)
    |skip
     have hfit : fitsI (s.sz 0) b.length = true := by simpa using c28
     refine zaO ?_
     try simp only [Ex.thnH, Ex.inBlockH, ↓reduceIte, Nat.reduceEqDiff]
     refine hK6 _ _ ?_; try clear hK6 K6
     refine zad (fun K9 hK9 => ?_)
     refine zad (fun K10 hK10 => ?_)
     refine zaa ?_
     refine zam rfl ?_
     refine zac (fun K hK r => ?_)
     simp only [zaT _ bd34, List.map_toArray, List.map_cons, List.map_nil, eX, ↓reduceIte, Nat.reduceEqDiff, Int.reduceToNat]
     refine (Parts_ok _ ba b.length bc).mono ?_
     rintro v31 H31 ⟨b1, hb1, rfl, rfl⟩
     have hAP := hA8.put (hA8.fresh hb1) (.cells #[.slice ba b.length bc] 22)
     obtain ⟨HQ1, hHQ1⟩ : ∃ G : Hp, G = ((((Q.upd b4 (.cells #[.pointer (some ⟨p, 0, none⟩)] 31)).upd b5 (.cells #[.int .i64 gen] 3)).upd b6 (.cells #[.int .i64 ar] 3)).upd b8 (.cells #[.nilIface] 33)).upd b1 (.cells #[.slice ba b.length bc] 22) := ⟨_, rfl⟩
     rw [← hHQ1] at hAP
     have z8 : ((((Q.upd b4 (.cells #[.pointer (some ⟨p, 0, none⟩)] 31)).upd b5 (.cells #[.int .i64 gen] 3)).upd b6 (.cells #[.int .i64 ar] 3)).upd b8 (.cells #[.nilIface] 33)) b8 = some (.cells #[.nilIface] 33) := zax _ _ _
     have lQ1 : Le ((((Q.upd b4 (.cells #[.pointer (some ⟨p, 0, none⟩)] 31)).upd b5 (.cells #[.int .i64 gen] 3)).upd b6 (.cells #[.int .i64 ar] 3)).upd b8 (.cells #[.nilIface] 33)) HQ1 := by rw [hHQ1]; exact le_upd _ _ _ (zaj hA8.old hb1)
     have w4 := lQ1 b4 (.cells #[.pointer (some ⟨p, 0, none⟩)] 31) hbA
     have w5 := lQ1 b5 (.cells #[.int .i64 gen] 3) hbA
     have w6 := lQ1 b6 (.cells #[.int .i64 ar] 3) hbA
     have w8 := lQ1 b8 _ z8
     have w1 : HQ1 b1 = some (.cells #[.slice ba b.length bc] 22) := by rw [hHQ1]; exact zax _ _ _
     have lHQ1 : Le Q HQ1 := Le.trans lQ lQ1
     try simp only [eX, ↓reduceIte, Nat.reduceEqDiff, Int.reduceToNat]
     refine hK _ _ ?_; clear hK K
     refine zae ?_
     try simp only [Ex.thnH, Ex.inBlockH, ↓reduceIte, Nat.reduceEqDiff]
     refine hK10 _ _ ?_; try clear hK10 K10
     refine zaV ?_
     refine CW_rangeFunc (fun r => rfl) (iter_parts HQ1 b1 ba bc b (hb.le lHQ1) hbc w1 (by omega)) (fun i H_ => ∃ F', Stn HQ1 H_ F' p (s.saveN gen ar b i).1 ∧ (s.saveN gen ar b i).2 = none) ?_ ?_ (by decide) ?_ ?_
     ·skip
      rintro i H_ ⟨F', h, _⟩
      exact h.old
     ·skip
      exact ⟨F, hAP, rfl⟩
     ·intro l_ i_ hi_ H_ hI_ args_ F_ hT_ hF_
      obtain ⟨F_, hJ, hJe⟩ := hI_
      obtain ⟨pv, rp, op, rfl, rfl, hop⟩ := hT_
      have hiN : i_ ≤ 50 := by unfold chN at hi_; omega
      have hSi := saveN_sm hs gen ar b i_
      obtain ⟨pa, pc, rfl⟩ := hop.holds.form
      obtain ⟨KH, hKd⟩ : ∃ KH : Hp, KH = H_.join (emptyHp.upd rp op) := ⟨_, rfl⟩
      have hHK : Le H_ KH := by rw [hKd]; exact le_join _ _
      have hopK : OwnS KH 5 1 (.slice pa (chk b i_).length pc) (chk b i_).length (u8s (chk b i_)) (some rp) := by rw [hKd]; exact hop.le (le_join_r hF_)
      rw [← hKd]
      have hJK := hJ.more hHK
      have k4 := hJK.old _ _ w4
      have k5 := hJK.old _ _ w5
      have k6 := hJK.old _ _ w6
      refine ⟨rfl, ?_⟩
      simp only [putAll, List.zip_cons_cons, List.zip_nil_right, List.zip_nil_left, eX, ↓reduceIte, Nat.reduceEqDiff, Int.reduceToNat]
      refine zad (fun K11 hK11 => ?_)
      refine zaa ?_
      refine zao rfl ?_
      refine zae ?_
      try simp only [Ex.thnH, Ex.inBlockH, ↓reduceIte, Nat.reduceEqDiff]
      refine hK11 _ _ ?_; try clear hK11 K11
      refine zaa ?_
      refine zao rfl ?_
      refine zae ?_
      try simp only [Ex.thnH, Ex.inBlockH, ↓reduceIte, Nat.reduceEqDiff]
      first | refine ⟨rfl, ?_⟩ | refine ⟨trivial, ?_⟩
      refine zaV ?_
      refine zad (fun K12 hK12 => ?_)
      refine zaa ?_
      refine zac (fun K hK r => ?_)
      simp only [zan, eX, ↓reduceIte, Nat.reduceEqDiff, Int.reduceToNat]
      refine zak Try.underlying31 rfl hbA ldA ?_
      try simp only [eX, ↓reduceIte, Nat.reduceEqDiff, Int.reduceToNat]
      refine hK _ _ ?_; clear hK K
      refine zac (fun K hK r => ?_)
      simp only [zan, eX, ↓reduceIte, Nat.reduceEqDiff, Int.reduceToNat]
      refine zak Try.underlying3 rfl hbA ldA ?_
      try simp only [eX, ↓reduceIte, Nat.reduceEqDiff, Int.reduceToNat]
      refine hK _ _ ?_; clear hK K
      refine zac (fun K hK r => ?_)
      simp only [zan, eX, ↓reduceIte, Nat.reduceEqDiff, Int.reduceToNat]
      refine zak Try.underlying3 rfl hbA ldA ?_
      try simp only [eX, ↓reduceIte, Nat.reduceEqDiff, Int.reduceToNat]
      refine hK _ _ ?_; clear hK K
      refine zam rfl ?_
      refine zac (fun K hK r => ?_)
      simp only [zaT _ bd35, List.map_toArray, List.map_cons, List.map_nil, eX, ↓reduceIte, Nat.reduceEqDiff, Int.reduceToNat]
      refine (place_ok hJK hSi (by rw [saveN_sz]; exact hz0) (by rw [saveN_sz]; exact hz) gen ar i_ (by omega) (by omega) (by omega)).mono ?_
      rintro v H' ⟨rfl, hq⟩
      have hq := hq.symm
      subst hq
      try simp only [eX, ↓reduceIte, Nat.reduceEqDiff, Int.reduceToNat]
      refine hK _ _ ?_; clear hK K
      refine zam rfl ?_
      refine zac (fun K hK r => ?_)
      simp only [zaW, zaX, List.getElem?_toArray, List.getElem?_cons_zero, List.getElem?_cons_succ, zal, eX, ↓reduceIte, Nat.reduceEqDiff, Int.reduceToNat]
      refine hK _ _ ?_; clear hK K
      refine zac (fun K hK r => ?_)
      simp only [zaW, zaX, List.getElem?_toArray, List.getElem?_cons_zero, List.getElem?_cons_succ, zal, eX, ↓reduceIte, Nat.reduceEqDiff, Int.reduceToNat]
      refine hK _ _ ?_; clear hK K
      refine zao rfl ?_
      refine zao rfl ?_
      refine zae ?_
      try simp only [Ex.thnH, Ex.inBlockH, ↓reduceIte, Nat.reduceEqDiff]
      refine hK12 _ _ ?_; try clear hK12 K12
      refine zad (fun K13 hK13 => ?_)
      refine zaa ?_
      refine zam rfl ?_
      refine zam rfl ?_
      refine zac (fun K hK r => ?_)
      simp only [x_build, bp99, List.map_toArray, List.map_cons, List.map_nil, eX, ↓reduceIte, Nat.reduceEqDiff, Int.reduceToNat]
      rw [fill_one rfl clA bdA]
      rw [fill_one rfl clA bdA]
      rw [fill_one rfl clA bdA]
      simp only [fill_nil, zal, List.setIfInBounds_toArray, List.set_cons_zero, List.set_cons_succ]
      try simp only [eX, ↓reduceIte, Nat.reduceEqDiff, Int.reduceToNat]
      refine hK _ _ ?_; clear hK K
      refine zac (fun K hK r => ?_)
      simp only [zaT _ bd36, List.map_toArray, List.map_cons, List.map_nil, eX, ↓reduceIte, Nat.reduceEqDiff, Int.reduceToNat]
      refine (Seal_ok _ _ 4 _ (chk b i_) hopK.holds).mono ?_
      rintro v H' ⟨rfl, hq⟩
      have hq := hq.symm
      subst hq
      rw [seal_fine (by omega) (by omega), saveN_sz]
      try simp only [eX, ↓reduceIte, Nat.reduceEqDiff, Int.reduceToNat]
      refine hK _ _ ?_; clear hK K
      refine zam rfl ?_
      refine zac (fun K hK r => ?_)
      simp only [zaW, zaX, List.getElem?_toArray, List.getElem?_cons_zero, List.getElem?_cons_succ, zal, eX, ↓reduceIte, Nat.reduceEqDiff, Int.reduceToNat]
      refine hK _ _ ?_; clear hK K
      refine zac (fun K hK r => ?_)
      simp only [zaW, zaX, List.getElem?_toArray, List.getElem?_cons_zero, List.getElem?_cons_succ, zal, eX, ↓reduceIte, Nat.reduceEqDiff, Int.reduceToNat]
      refine hK _ _ ?_; clear hK K
      refine zac (fun K hK r => ?_)
      simp only [x_alloc, zr45, zal, Value.cells, eX, ↓reduceIte, Nat.reduceEqDiff, Int.reduceToNat]
      intro b14 hb14
      try have n14_b4 : b4 ≠ b14 := zai hbA hb14
      have f14_KH : KH b14 = none := zaj lhA hb14
      try simp only [eX, ↓reduceIte, Nat.reduceEqDiff, Int.reduceToNat]
      refine hK _ _ ?_; clear hK K
      refine zbq rfl (zaJ) (fun K hK r => ?_)
      simp only [zaL, eX, ↓reduceIte, Nat.reduceEqDiff, Int.reduceToNat]
      refine zaz sz45 (by simp [Sec.h, sealI_len]) hbA (by simp [Sec.h, sealI_len]) (PlainL.ints _ _) (by decide) ?_
      try simp only [upd_upd]
      refine hK _ _ ?_; clear hK K
      refine zao rfl ?_
      refine zae ?_
      try simp only [Ex.thnH, Ex.inBlockH, ↓reduceIte, Nat.reduceEqDiff]
      refine hK13 _ _ ?_; try clear hK13 K13
      refine zad (fun K14 hK14 => ?_)
      refine zad (fun K15 hK15 => ?_)
      refine zaa ?_
      refine zam rfl ?_
      refine zac (fun K hK r => ?_)
      simp only [zaF, zaH, g_bool, zbo, zbk, g_slice, g_map, g_func, zbl, g_err, g_iface, zbe, g_nil_r, g_nil_l, eX, ↓reduceIte, Nat.reduceEqDiff, Int.reduceToNat]
      first | rw [b_err_neq _ _ Try.underlying33] | (rw [e_neq _ _ _ _ (by simp), q_equal]; first | rw [q_iface_nil _ _ _ Try.underlying33] | rw [q_nil_iface _ _ _ Try.underlying33] | rw [q_nil_nil _ _ _ Try.underlying33])
      try simp only [eX, ↓reduceIte, Nat.reduceEqDiff, Int.reduceToNat]
      refine hK _ _ ?_; clear hK K
      refine zae ?_
      try simp only [Ex.thnH, Ex.inBlockH, ↓reduceIte, Nat.reduceEqDiff]
      refine hK15 _ _ ?_; try clear hK15 K15
      refine zaG (fun r => rfl) (fun c50 => ?_) (fun c50 => ?_)
      ·exfalso; exact cnA c50
      refine zaO ?_
      try simp only [Ex.thnH, Ex.inBlockH, ↓reduceIte, Nat.reduceEqDiff]
      refine hK14 _ _ ?_; try clear hK14 K14
      refine zad (fun K16 hK16 => ?_)
      refine zaa ?_
      refine zac (fun K hK r => ?_)
      simp only [zan, eX, ↓reduceIte, Nat.reduceEqDiff, Int.reduceToNat]
      refine zak Try.underlying31 rfl hbA ldA ?_
      try simp only [eX, ↓reduceIte, Nat.reduceEqDiff, Int.reduceToNat]
      refine hK _ _ ?_; clear hK K
      refine zam rfl ?_
      refine zac (fun K hK r => ?_)
      simp only [zan, eX, ↓reduceIte, Nat.reduceEqDiff, Int.reduceToNat]
      refine zaN Try.underlying45 rfl sz45 hbA (by simp [Sec.h, sealI_len]) ?_
      refine hK _ _ ?_; clear hK K
      refine zac (fun K hK r => ?_)
      simp only [zaT _ bd21, List.map_toArray, List.map_cons, List.map_nil, eX, ↓reduceIte, Nat.reduceEqDiff, Int.reduceToNat]
      have hJ14 := hJK.put (hJK.fresh hb14) (.cells (secI gen b i_).c.toArray 45)
      refine (writeL hJ14 hSi (by omega) 0 (2 + ar * areaI (s.sz 0) + i_) (secI gen b i_)).mono ?_
      rintro v55 H55 ⟨rfl, F55, hS55'⟩
      have hS55 : Stn HQ1 H55 F55 p _ := hS55'.less (le_upd _ _ _ (zaj hJK.old hb14))
      clear hS55'
      rw [← saveN_next hJe] at hS55 ⊢
      have k8 := hS55.old _ _ w8
      have f8 := hS55.ap b8 (by rw [w8]; simp)
      try simp only [eX, ↓reduceIte, Nat.reduceEqDiff, Int.reduceToNat]
      refine hK _ _ ?_; clear hK K
      refine zao rfl ?_
      refine zae ?_
      try simp only [Ex.thnH, Ex.inBlockH, ↓reduceIte, Nat.reduceEqDiff]
      refine hK16 _ _ ?_; try clear hK16 K16
      refine zad (fun K17 hK17 => ?_)
      refine zaa ?_
      refine zam rfl ?_
      refine zac (fun K hK r => ?_)
      simp only [zaF, zaH, g_bool, zbo, zbk, g_slice, g_map, g_func, zbl, g_err, g_iface, zbe, g_nil_r, g_nil_l, eX, ↓reduceIte, Nat.reduceEqDiff, Int.reduceToNat]
      first | rw [b_err_neq _ _ Try.underlying33] | (rw [e_neq _ _ _ _ (by simp), q_equal]; first | rw [q_iface_nil _ _ _ Try.underlying33] | rw [q_nil_iface _ _ _ Try.underlying33] | rw [q_nil_nil _ _ _ Try.underlying33])
      try simp only [eX, ↓reduceIte, Nat.reduceEqDiff, Int.reduceToNat]
      refine hK _ _ ?_; clear hK K
      refine zae ?_
      try simp only [Ex.thnH, Ex.inBlockH, ↓reduceIte, Nat.reduceEqDiff]
      refine hK17 _ _ ?_; try clear hK17 K17
      refine zaG (fun r => rfl) (fun c57 => ?_) (fun c57 => ?_)
      ·first
       |(exfalso; exact cnA c57; done)
       |skip
        obtain ⟨ev, hev⟩ : ∃ ev, (s.saveN gen ar b (i_ + 1)).2 = some ev := Option.isSome_iff_exists.1 c57
        refine zad (fun K18 hK18 => ?_)
        refine zaa ?_
        refine zam rfl ?_
        refine zbq rfl (zaJ) (fun K hK r => ?_)
        simp only [zaL, eX, ↓reduceIte, Nat.reduceEqDiff, Int.reduceToNat]
        refine zaY sz33 hbA bdA (plain_errV _) fzA ?_
        try simp only [setL0, setL1, setL2, setL3]
        refine hK _ _ ?_; clear hK K
        refine zae ?_
        try simp only [Ex.thnH, Ex.inBlockH, ↓reduceIte, Nat.reduceEqDiff]
        refine hK18 _ _ ?_; try clear hK18 K18
        refine zaR ?_
        try simp only [Ex.thnH, Ex.inBlockH, ↓reduceIte, Nat.reduceEqDiff]
        have hsv := save_stop hask hfit (show i_ + 1 ≤ chN b by omega) hev
        rw [hsv]
        refine ⟨[_], ⟨⟨_, rfl, Lq_load1 Try.underlying33 rfl hbA ldA⟩, trivial⟩, _, Le.refl _, ?_, _, (hS55.less lHQ1).off f8 q8 _⟩
        rfl
      ·first
       |(exfalso; exact cnA c57; done)
       |skip
        have hev : (s.saveN gen ar b (i_ + 1)).2 = none := by
         cases h : (s.saveN gen ar b (i_ + 1)).2 with
         |none => rfl
         |some z => rw [h] at c57; cases c57
        refine zaO ?_
        try simp only [Ex.thnH, Ex.inBlockH, ↓reduceIte, Nat.reduceEqDiff]
        exact ⟨F55, hS55, hev⟩
     intro H_ hI_
     obtain ⟨F_, hJ, hJe⟩ := hI_
     have hSi := saveN_sm hs gen ar b (chN b)
     have hN50 : chN b ≤ 50 := by unfold chN; omega
     have k4 := hJ.old _ _ w4
     try simp only [Ex.thnH, Ex.inBlockH, ↓reduceIte, Nat.reduceEqDiff]
     refine hK9 _ _ ?_; try clear hK9 K9
     refine zad (fun K19 hK19 => ?_)
     refine zaa ?_
     refine zac (fun K hK r => ?_)
     simp only [zan, eX, ↓reduceIte, Nat.reduceEqDiff, Int.reduceToNat]
     refine zak Try.underlying31 rfl hbA ldA ?_
     try simp only [eX, ↓reduceIte, Nat.reduceEqDiff, Int.reduceToNat]
     refine hK _ _ ?_; clear hK K
     refine zac (fun K hK r => ?_)
     simp only [zaT _ bd37, List.map_toArray, List.map_cons, List.map_nil, eX, ↓reduceIte, Nat.reduceEqDiff, Int.reduceToNat]
     refine (flushL hJ hSi (by omega) 0).mono ?_
     rintro v60 H60 ⟨rfl, F60, hS60⟩
     rw [← save_all hask hfit hJe] at hS60 ⊢
     have k8 := hS60.old _ _ w8
     have f8 := hS60.ap b8 (by rw [w8]; simp)
     try simp only [eX, ↓reduceIte, Nat.reduceEqDiff, Int.reduceToNat]
     refine hK _ _ ?_; clear hK K
     refine zbq rfl (zaJ) (fun K hK r => ?_)
     simp only [zaL, eX, ↓reduceIte, Nat.reduceEqDiff, Int.reduceToNat]
     refine zaY sz33 hbA bdA (plain_errV _) fzA ?_
     try simp only [setL0, setL1, setL2, setL3]
     refine hK _ _ ?_; clear hK K
     refine zae ?_
     try simp only [Ex.thnH, Ex.inBlockH, ↓reduceIte, Nat.reduceEqDiff]
     refine hK19 _ _ ?_; try clear hK19 K19
     refine zaR ?_
     try simp only [Ex.thnH, Ex.inBlockH, ↓reduceIte, Nat.reduceEqDiff]
     refine ⟨[_], ⟨⟨_, rfl, Lq_load1 Try.underlying33 rfl hbA ldA⟩, trivial⟩, _, Le.refl _, ?_, _, (hS60.less lHQ1).off f8 q8 _⟩
     rfl
end Go.Proofs.Ytcjdkfhmlnfedaa.HL
end
section
namespace Go.Proofs.Ytcjdkfhmlnfedaa.HL
open Go Go.Proofs
set_option linter.unusedSimpArgs false
set_option linter.unusedVariables false
attribute [local irreducible] Lt Lq CW OW TW CallH
theorem rd_fine {s : St} (hg : s.gone = false) {at_ : Int} (h0 : 0 ≤ at_) (h1 : at_ < s.sz 0) : (s.rd 0 at_).2 = none := by
  unfold St.sz at h1
  split at h1
  · rename_i h
    unfold St.rd
    rw [if_neg (by rw [hg]; simp), if_pos]
    unfold St.has
    rw [Bool.and_eq_true, decide_eq_true_eq, decide_eq_true_eq]
    exact ⟨h, h0, h1⟩
  · omega
theorem at_fine {sz ar n : Int} {k : Nat} (ha : 0 ≤ ar ∧ ar < 2) (hf : fitsI sz n = true) (hk : (k : Int) < needI n) : 0 ≤ 2 + ar * areaI sz + k ∧ 2 + ar * areaI sz + k < sz := by
  unfold fitsI at hf
  simp only [Bool.and_eq_true, decide_eq_true_eq] at hf
  have h2 := hf.2
  unfold areaI at *
  rcases (show ar = 0 ∨ ar = 1 by omega) with rfl | rfl <;> omega
theorem loadN_some {s : St} {gen ar n : Int} {k : Nat} {o : List Int} (h : s.loadN gen ar n k = some o) (h1 : isB (s.rd 0 (2 + ar * areaI (s.sz 0) + k)).1.b (gen * 8192 + k + 1) 4 = true) (h2 : ((isD (s.rd 0 (2 + ar * areaI (s.sz 0) + k)).1.b (gen * 8192 + k + 1) 4).length : Int) = min 50 (n - o.length)) : s.loadN gen ar n (k + 1) = some (o ++ isD (s.rd 0 (2 + ar * areaI (s.sz 0) + k)).1.b (gen * 8192 + k + 1) 4) := by
  unfold St.loadN
  rw [h]
  simp only
  rw [if_pos ⟨h1, h2⟩]
theorem loadN_no {s : St} {gen ar n : Int} {k : Nat} {o : List Int} (h : s.loadN gen ar n k = some o) (h1 : ¬ (isB (s.rd 0 (2 + ar * areaI (s.sz 0) + k)).1.b (gen * 8192 + k + 1) 4 = true ∧ ((isD (s.rd 0 (2 + ar * areaI (s.sz 0) + k)).1.b (gen * 8192 + k + 1) 4).length : Int) = min 50 (n - o.length))) : ∀ m, s.loadN gen ar n (k + 1 + m) = none
  | 0 => by
    show s.loadN gen ar n (k + 1) = none
    unfold St.loadN
    rw [h]
    simp only
    rw [if_neg h1]
  | m + 1 => by
    show s.loadN gen ar n ((k + 1 + m) + 1) = none
    unfold St.loadN
    rw [loadN_no h h1 m]
theorem isD_len (L : List Int) (a b : Int) : (isD L a b).length ≤ 50 := by
  unfold isD; split
  · exact opD_len L
  · exact Nat.zero_le _
theorem load_none {s : St} {gen ar n : Int} (h1 : askI gen ar = true) (h2 : ¬ n < 0) (h3 : s.gone = false) (h4 : fitsI (s.sz 0) n = true) (h5 : s.loadN gen ar n (needI n).toNat = none) : s.load gen ar n = ([], some 9) := by
  unfold St.load
  rw [if_neg (by rw [h1]; simp), if_neg h2, if_neg (by rw [h3]; simp), if_neg (by rw [h4]; simp), h5]
theorem load_some {s : St} {gen ar n : Int} {o : List Int} (h1 : askI gen ar = true) (h2 : ¬ n < 0) (h3 : s.gone = false) (h4 : fitsI (s.sz 0) n = true) (h5 : s.loadN gen ar n (needI n).toNat = some o) : s.load gen ar n = (o, none) := by
  unfold St.load
  rw [if_neg (by rw [h1]; simp), if_neg h2, if_neg (by rw [h3]; simp), if_neg (by rw [h4]; simp), h5]
theorem min50 (x : Int) : (if x < 50 then x else 50) = min 50 x := by split <;> omega
set_option maxRecDepth 100000 in
set_option maxHeartbeats 8000000 in
theorem loadL {Q H F : Hp} {p : Nat} {s : St} (hA : Stn Q H F p s) {n : Nat} (hs : Sm n s) (hn : n ≤ 100000) (hz0 : 0 ≤ s.sz 0) (hz : s.sz 0 ≤ 5000) (gen ar l : Int) (hby : ∀ k : Nat, (k : Int) < needI l → ByteL (s.rd 0 (2 + ar * areaI (s.sz 0) + k)).1.b) (hl1 : -9223372036854775808 ≤ l) (hl2 : l ≤ 9223372036854775807) : CallH Try.prog 23 #[.pointer (some ⟨p, 0, none⟩), .int .i64 gen, .int .i64 ar, .int .i64 l] H (fun v H' => Le H H' ∧ ∃ x rs, v = .tuple #[x, errV (s.load gen ar l).2] ∧ OwnS H' 5 1 x (s.load gen ar l).1.length (u8s (s.load gen ar l).1) rs ∧ ∀ r, rs = some r → H r = none) := by
 refine zaB (l := [_, _, _, _]) (rl := [.tmp 8, .tmp 9]) (n := 86) Try.func23 rfl rfl rfl rfl rfl ?_
 simp only [envOf, Nat.reduceAdd]
 refine zad (fun K1 hK1 => ?_)
 refine zaa ?_
 refine zao rfl ?_
 refine zao rfl ?_
 refine zae ?_
 try simp only [Ex.thnH, Ex.inBlockH, ↓reduceIte, Nat.reduceEqDiff]
 refine hK1 _ _ ?_; try clear hK1 K1
 refine zad (fun K2 hK2 => ?_)
 refine zad (fun K3 hK3 => ?_)
 refine zaa ?_
 refine zam rfl ?_
 refine zam rfl ?_
 refine zam rfl ?_
 refine zac (fun K hK r => ?_)
 simp only [zaT _ bd33, List.map_toArray, List.map_cons, List.map_nil, eX, ↓reduceIte, Nat.reduceEqDiff, Int.reduceToNat]
 refine (asked_ok _ p gen ar).mono ?_
 rintro v H' ⟨rfl, hq⟩
 have hq := hq.symm
 subst hq
 try simp only [eX, ↓reduceIte, Nat.reduceEqDiff, Int.reduceToNat]
 refine hK _ _ ?_; clear hK K
 refine zao rfl ?_
 refine zae ?_
 try simp only [Ex.thnH, Ex.inBlockH, ↓reduceIte, Nat.reduceEqDiff]
 refine hK3 _ _ ?_; try clear hK3 K3
 refine zad (fun K4 hK4 => ?_)
 refine zaa ?_
 refine zam rfl ?_
 refine zac (fun K hK r => ?_)
 simp only [zaF, zaH, g_bool, zbo, zbk, g_slice, g_map, g_func, zbl, g_err, g_iface, zbe, g_nil_r, g_nil_l, eX, ↓reduceIte, Nat.reduceEqDiff, Int.reduceToNat]
 first | rw [b_err_neq _ _ Try.underlying33] | (rw [e_neq _ _ _ _ (by simp), q_equal]; first | rw [q_iface_nil _ _ _ Try.underlying33] | rw [q_nil_iface _ _ _ Try.underlying33] | rw [q_nil_nil _ _ _ Try.underlying33])
 try simp only [eX, ↓reduceIte, Nat.reduceEqDiff, Int.reduceToNat]
 refine hK _ _ ?_; clear hK K
 refine zae ?_
 try simp only [Ex.thnH, Ex.inBlockH, ↓reduceIte, Nat.reduceEqDiff]
 refine hK4 _ _ ?_; try clear hK4 K4
 refine zaG (fun r => rfl) (fun c24 => ?_) (fun c24 => ?_)
 ·first
  |(exfalso; exact cnA c24; done)
  |skip
   have hask : askI gen ar = false := by
    cases h : askI gen ar with
    |false => rfl
    |true => rw [h] at c24; cases c24
   refine zad (fun K5 hK5 => ?_)
   refine zaa ?_
   refine zam rfl ?_
   refine zao rfl ?_
   refine zao rfl ?_
   refine zae ?_
   try simp only [Ex.thnH, Ex.inBlockH, ↓reduceIte, Nat.reduceEqDiff]
   refine hK5 _ _ ?_; try clear hK5 K5
   refine zaR ?_
   try simp only [Ex.thnH, Ex.inBlockH, ↓reduceIte, Nat.reduceEqDiff]
   have hld : s.load gen ar l = ([], some 1) := by
    unfold St.load
    rw [if_pos hask]
   rw [hld]
   refine ⟨[_, _], ⟨rfl, rfl, trivial⟩, _, Le.refl _, Le.refl _, _, none, ?_, OwnS.nil _ _ _, fun r hr => by cases hr⟩
   show Value.tuple _ = Value.tuple _
   rw [hask]; rfl
 ·first
  |(exfalso; exact cnA c24; done)
  |skip
   have hask : askI gen ar = true := by
    cases h : askI gen ar with
    |true => rfl
    |false => rw [h] at c24; cases c24
   obtain ⟨hgn, hrn⟩ := ask_iff.1 hask
   refine zaO ?_
   try simp only [Ex.thnH, Ex.inBlockH, ↓reduceIte, Nat.reduceEqDiff]
   refine hK2 _ _ ?_; try clear hK2 K2
   refine zad (fun K6 hK6 => ?_)
   refine zaV ?_
   refine zad (fun K7 hK7 => ?_)
   refine zaa ?_
   refine zam rfl ?_
   refine zac (fun K hK r => ?_)
   simp (disch := (first | omega | decide)) only [zaF, zaH, b_lss, zaq, zar, zat, zau, zas, zav, Bool.not_true, Bool.not_false, eX, ↓reduceIte, Nat.reduceEqDiff, Int.reduceToNat]
   refine hK _ _ ?_; clear hK K
   refine zao rfl ?_
   refine zae ?_
   try simp only [Ex.thnH, Ex.inBlockH, ↓reduceIte, Nat.reduceEqDiff]
   refine hK7 _ _ ?_; try clear hK7 K7
   refine zaG (fun r => rfl) (fun c26 => ?_) (fun c26 => ?_)
   ·first
    |(exfalso; exact cnA c26; done)
    |skip
     (try simp only [decide_eq_true_eq, decide_eq_false_iff_not, Bool.not_eq_true, Bool.not_eq_false, Bool.and_eq_true, Bool.or_eq_true, Bool.or_eq_false_iff, Bool.not_eq_eq_eq_not, Bool.not_true, Bool.not_false] at c26)
     refine zad (fun K8 hK8 => ?_)
     refine zaa ?_
     refine zac (fun K hK r => ?_)
     simp only [zbf, zbg, Try.underlying73, zal, eX, ↓reduceIte, Nat.reduceEqDiff, Int.reduceToNat]
     refine hK _ _ ?_; clear hK K
     refine zao rfl ?_
     refine zao rfl ?_
     refine zae ?_
     try simp only [Ex.thnH, Ex.inBlockH, ↓reduceIte, Nat.reduceEqDiff]
     refine hK8 _ _ ?_; try clear hK8 K8
     refine zaR ?_
     try simp only [Ex.thnH, Ex.inBlockH, ↓reduceIte, Nat.reduceEqDiff]
     have hld : s.load gen ar l = ([], some 1) := by
      unfold St.load
      rw [if_neg (by rw [hask]; simp), if_pos (by omega)]
     rw [hld]
     refine ⟨[_, _], ⟨rfl, rfl, trivial⟩, _, Le.refl _, Le.refl _, _, none, ?_, OwnS.nil _ _ _, fun r hr => by cases hr⟩
     show Value.tuple _ = Value.tuple _
     rfl
   ·first
    |(exfalso; exact cnA c26; done)
    |skip
     (try simp only [decide_eq_true_eq, decide_eq_false_iff_not, Bool.not_eq_true, Bool.not_eq_false, Bool.and_eq_true, Bool.or_eq_true, Bool.or_eq_false_iff, Bool.not_eq_eq_eq_not, Bool.not_true, Bool.not_false] at c26)
     have hln : ¬ l < 0 := by omega
     refine zad (fun K9 hK9 => ?_)
     refine zaa ?_
     refine zam rfl ?_
     refine zac (fun K hK r => ?_)
     simp only [zaT _ bd52, List.map_toArray, List.map_cons, List.map_nil, eX, ↓reduceIte, Nat.reduceEqDiff, Int.reduceToNat]
     refine (downL hA).mono ?_
     rintro v H' ⟨rfl, hq⟩
     have hq := hq.symm
     subst hq
     try simp only [eX, ↓reduceIte, Nat.reduceEqDiff, Int.reduceToNat]
     refine hK _ _ ?_; clear hK K
     refine zao rfl ?_
     refine zae ?_
     try simp only [Ex.thnH, Ex.inBlockH, ↓reduceIte, Nat.reduceEqDiff]
     refine hK9 _ _ ?_; try clear hK9 K9
     refine zaG (fun r => rfl) (fun c30 => ?_) (fun c30 => ?_)
     ·first
      |(exfalso; exact cnA c30; done)
      |skip
       have hgo : s.gone = true := c30
       refine zad (fun K10 hK10 => ?_)
       refine zaa ?_
       refine zac (fun K hK r => ?_)
       simp only [zbf, zbg, Try.underlying73, zal, eX, ↓reduceIte, Nat.reduceEqDiff, Int.reduceToNat]
       refine hK _ _ ?_; clear hK K
       refine zao rfl ?_
       refine zao rfl ?_
       refine zae ?_
       try simp only [Ex.thnH, Ex.inBlockH, ↓reduceIte, Nat.reduceEqDiff]
       refine hK10 _ _ ?_; try clear hK10 K10
       refine zaR ?_
       try simp only [Ex.thnH, Ex.inBlockH, ↓reduceIte, Nat.reduceEqDiff]
       have hld : s.load gen ar l = ([], some 3) := by
        unfold St.load
        rw [if_neg (by rw [hask]; simp), if_neg hln, if_pos hgo]
       rw [hld]
       refine ⟨[_, _], ⟨rfl, rfl, trivial⟩, _, Le.refl _, Le.refl _, _, none, ?_, OwnS.nil _ _ _, fun r hr => by cases hr⟩
       show Value.tuple _ = Value.tuple _
       rfl
     ·first
      |(exfalso; exact cnA c30; done)
      |skip
       have hgo : s.gone = false := by simpa using c30
       refine zad (fun K11 hK11 => ?_)
       refine zaa ?_
       refine zam rfl ?_
       refine zam rfl ?_
       refine zac (fun K hK r => ?_)
       simp only [zaT _ bd26, List.map_toArray, List.map_cons, List.map_nil, eX, ↓reduceIte, Nat.reduceEqDiff, Int.reduceToNat]
       refine (fits_ok hA hs hz0 hz l hl1 hl2).mono ?_
       rintro v H' ⟨rfl, hq⟩
       have hq := hq.symm
       subst hq
       try simp only [eX, ↓reduceIte, Nat.reduceEqDiff, Int.reduceToNat]
       refine hK _ _ ?_; clear hK K
       refine zac (fun K hK r => ?_)
       simp only [x_un, u_not, eX, ↓reduceIte, Nat.reduceEqDiff, Int.reduceToNat]
       refine hK _ _ ?_; clear hK K
       refine zao rfl ?_
       refine zae ?_
       try simp only [Ex.thnH, Ex.inBlockH, ↓reduceIte, Nat.reduceEqDiff]
       refine hK11 _ _ ?_; try clear hK11 K11
       refine zaG (fun r => rfl) (fun c34 => ?_) (fun c34 => ?_)
       ·first
        |(exfalso; exact cnA c34; done)
        |skip
         have hfit : fitsI (s.sz 0) l = false := by simpa using c34
         refine zad (fun K12 hK12 => ?_)
         refine zaa ?_
         refine zac (fun K hK r => ?_)
         simp only [zbf, zbg, Try.underlying73, zal, eX, ↓reduceIte, Nat.reduceEqDiff, Int.reduceToNat]
         refine hK _ _ ?_; clear hK K
         refine zao rfl ?_
         refine zao rfl ?_
         refine zae ?_
         try simp only [Ex.thnH, Ex.inBlockH, ↓reduceIte, Nat.reduceEqDiff]
         refine hK12 _ _ ?_; try clear hK12 K12
         refine zaR ?_
         try simp only [Ex.thnH, Ex.inBlockH, ↓reduceIte, Nat.reduceEqDiff]
         have hld : s.load gen ar l = ([], some 9) := by
          unfold St.load
          rw [if_neg (by rw [hask]; simp), if_neg hln, if_neg (by rw [hgo]; simp), if_pos hfit]
         rw [hld]
         refine ⟨[_, _], ⟨rfl, rfl, trivial⟩, _, Le.refl _, Le.refl _, _, none, ?_, OwnS.nil _ _ _, fun r hr => by cases hr⟩
         show Value.tuple _ = Value.tuple _
         rfl
       ·first
        |(exfalso; exact cnA c34; done)
        |skip
         have hfit : fitsI (s.sz 0) l = true := by simpa using c34
         have hnd : needI l ≤ 2500 := by
          have h := hfit
          unfold fitsI at h
          simp only [Bool.and_eq_true, decide_eq_true_eq] at h
          have := areaI_le hz
          omega
         have hnd0 := needI_le (n := l)
         refine zaO ?_
         try simp only [Ex.thnH, Ex.inBlockH, ↓reduceIte, Nat.reduceEqDiff]
         refine hK6 _ _ ?_; try clear hK6 K6
         refine zad (fun K13 hK13 => ?_)
         refine zaa ?_
         refine zao rfl ?_
         refine zae ?_
         try simp only [Ex.thnH, Ex.inBlockH, ↓reduceIte, Nat.reduceEqDiff]
         refine hK13 _ _ ?_; try clear hK13 K13
         refine zad (fun K14 hK14 => ?_)
         refine zad (fun K15 hK15 => ?_)
         refine zaa ?_
         refine zam rfl ?_
         refine zac (fun K hK r => ?_)
         simp only [zaT _ bd53, List.map_toArray, List.map_cons, List.map_nil, eX, ↓reduceIte, Nat.reduceEqDiff, Int.reduceToNat]
         refine (Need_ok _ l hl1 hl2).mono ?_
         rintro v H' ⟨rfl, hq⟩
         have hq := hq.symm
         subst hq
         rw [show (if l < 1 then 0 else (l - 1) / 50 + 1) = (((needI l).toNat : Nat) : Int) from by rw [Int.toNat_of_nonneg needI_le]; rfl]
         try simp only [eX, ↓reduceIte, Nat.reduceEqDiff, Int.reduceToNat]
         refine hK _ _ ?_; clear hK K
         refine zam rfl ?_
         refine zae ?_
         try simp only [Ex.thnH, Ex.inBlockH, ↓reduceIte, Nat.reduceEqDiff]
         refine hK15 _ _ ?_; try clear hK15 K15
         refine zaV ?_
         refine CW_loop (fun m_ e H_ => ∃ (k : Nat) (v : Value) (rs : Option Nat) (out : List Int), k ≤ (needI l).toNat ∧ m_ = (needI l).toNat - k ∧ s.loadN gen ar l k = some out ∧ OwnS H_ 5 1 v out.length (u8s out) rs ∧ (∀ r, rs = some r → H r = none) ∧ Le H H_ ∧ out.length ≤ 50 * k ∧ Env.has [(0, .pointer (some ⟨p, 0, none⟩)), (1, .int .i64 gen), (2, .int .i64 ar), (3, .int .i64 l), (11, v), (41, .int .i64 ((needI l).toNat : Int)), (42, .int .i64 k)] e) ((needI l).toNat) ?_ ?_
         ·skip
          exact ⟨0, _, none, [], by omega, by omega, rfl, OwnS.nil _ _ _, (fun r hr => by cases hr), Le.refl _, by simp, rfl, rfl, rfl, rfl, rfl, rfl, rfl, trivial⟩
         intro m_ e_ H_ hI_
         obtain ⟨k, v, rs, out, hk, rfl, hN, hO, hrs, hlH, hlo, he⟩ := hI_
         refine CW_env he.sub ?_; clear he e_
         obtain ⟨va, vc, rfl⟩ := hO.holds.form
         refine zad (fun K16 hK16 => ?_)
         refine zaa ?_
         refine zac (fun K hK r => ?_)
         simp (disch := (first | omega | decide)) only [zaF, zaH, b_lss, zaq, zar, zat, zau, zas, zav, Bool.not_true, Bool.not_false, eX, ↓reduceIte, Nat.reduceEqDiff, Int.reduceToNat]
         refine hK _ _ ?_; clear hK K
         refine zae ?_
         try simp only [Ex.thnH, Ex.inBlockH, ↓reduceIte, Nat.reduceEqDiff]
         refine hK16 _ _ ?_; try clear hK16 K16
         refine zad (fun K17 hK17 => ?_)
         refine zaG (fun r => rfl) (fun c43 => ?_) (fun c43 => ?_)
         ·first
          |(exfalso; exact cnA c43; done)
          |skip
           (try simp only [decide_eq_true_eq, decide_eq_false_iff_not, Bool.not_eq_true, Bool.not_eq_false, Bool.and_eq_true, Bool.or_eq_true, Bool.or_eq_false_iff, Bool.not_eq_eq_eq_not, Bool.not_true, Bool.not_false] at c43)
           have hat := at_fine hrn hfit (show (k : Int) < needI l by omega)
           refine zaO ?_
           try simp only [Ex.thnH, Ex.inBlockH, ↓reduceIte, Nat.reduceEqDiff]
           refine hK17 _ _ ?_; try clear hK17 K17
           refine zad (fun K18 hK18 => ?_)
           refine zaV ?_
           refine zad (fun K19 hK19 => ?_)
           refine zaa ?_
           refine zam rfl ?_
           refine zao rfl ?_
           refine zae ?_
           try simp only [Ex.thnH, Ex.inBlockH, ↓reduceIte, Nat.reduceEqDiff]
           refine hK19 _ _ ?_; try clear hK19 K19
           refine zad (fun K20 hK20 => ?_)
           refine zaa ?_
           refine zam rfl ?_
           refine zam rfl ?_
           refine zam rfl ?_
           refine zam rfl ?_
           refine zac (fun K hK r => ?_)
           simp only [zaT _ bd35, List.map_toArray, List.map_cons, List.map_nil, eX, ↓reduceIte, Nat.reduceEqDiff, Int.reduceToNat]
           refine (place_ok (hA.more hlH) hs hz0 hz gen ar k (by omega) (by omega) (by omega)).mono ?_
           rintro v H' ⟨rfl, hq⟩
           have hq := hq.symm
           subst hq
           try simp only [eX, ↓reduceIte, Nat.reduceEqDiff, Int.reduceToNat]
           refine hK _ _ ?_; clear hK K
           refine zam rfl ?_
           refine zac (fun K hK r => ?_)
           simp only [zaW, zaX, List.getElem?_toArray, List.getElem?_cons_zero, List.getElem?_cons_succ, zal, eX, ↓reduceIte, Nat.reduceEqDiff, Int.reduceToNat]
           refine hK _ _ ?_; clear hK K
           refine zac (fun K hK r => ?_)
           simp only [zaW, zaX, List.getElem?_toArray, List.getElem?_cons_zero, List.getElem?_cons_succ, zal, eX, ↓reduceIte, Nat.reduceEqDiff, Int.reduceToNat]
           refine hK _ _ ?_; clear hK K
           refine zao rfl ?_
           refine zao rfl ?_
           refine zae ?_
           try simp only [Ex.thnH, Ex.inBlockH, ↓reduceIte, Nat.reduceEqDiff]
           refine hK20 _ _ ?_; try clear hK20 K20
           refine zad (fun K21 hK21 => ?_)
           refine zaa ?_
           refine zam rfl ?_
           refine zam rfl ?_
           refine zac (fun K hK r => ?_)
           simp only [zaT _ bd54, List.map_toArray, List.map_cons, List.map_nil, eX, ↓reduceIte, Nat.reduceEqDiff, Int.reduceToNat]
           refine (readL (hA.more hlH) hs (by omega) 0 (2 + ar * areaI (s.sz 0) + k)).mono ?_
           rintro v H' ⟨rfl, hq⟩
           have hq := hq.symm
           subst hq
           rw [rd_fine hgo hat.1 hat.2]
           try simp only [eX, ↓reduceIte, Nat.reduceEqDiff, Int.reduceToNat]
           refine hK _ _ ?_; clear hK K
           refine zam rfl ?_
           refine zac (fun K hK r => ?_)
           simp only [zaW, zaX, List.getElem?_toArray, List.getElem?_cons_zero, List.getElem?_cons_succ, zal, eX, ↓reduceIte, Nat.reduceEqDiff, Int.reduceToNat]
           refine hK _ _ ?_; clear hK K
           refine zac (fun K hK r => ?_)
           simp only [zaW, zaX, List.getElem?_toArray, List.getElem?_cons_zero, List.getElem?_cons_succ, zal, eX, ↓reduceIte, Nat.reduceEqDiff, Int.reduceToNat]
           refine hK _ _ ?_; clear hK K
           refine zac (fun K hK r => ?_)
           simp only [x_alloc, zr45, zal, Value.cells, eX, ↓reduceIte, Nat.reduceEqDiff, Int.reduceToNat]
           intro b15 hb15
           have f15_H : H b15 = none := zaj lhA hb15
           try simp only [eX, ↓reduceIte, Nat.reduceEqDiff, Int.reduceToNat]
           refine hK _ _ ?_; clear hK K
           refine zbq rfl (zaJ) (fun K hK r => ?_)
           simp only [zaL, eX, ↓reduceIte, Nat.reduceEqDiff, Int.reduceToNat]
           refine zaz sz45 (by simp [Sec.h]) hbA (by simp [Sec.h]) (PlainL.ints _ _) (by decide) ?_
           try simp only [upd_upd]
           refine hK _ _ ?_; clear hK K
           refine zao rfl ?_
           refine zae ?_
           try simp only [Ex.thnH, Ex.inBlockH, ↓reduceIte, Nat.reduceEqDiff]
           refine hK21 _ _ ?_; try clear hK21 K21
           refine zad (fun K22 hK22 => ?_)
           refine zad (fun K23 hK23 => ?_)
           refine zaa ?_
           refine zam rfl ?_
           refine zac (fun K hK r => ?_)
           simp only [zaF, zaH, g_bool, zbo, zbk, g_slice, g_map, g_func, zbl, g_err, g_iface, zbe, g_nil_r, g_nil_l, eX, ↓reduceIte, Nat.reduceEqDiff, Int.reduceToNat]
           first | rw [b_err_neq _ _ Try.underlying33] | (rw [e_neq _ _ _ _ (by simp), q_equal]; first | rw [q_iface_nil _ _ _ Try.underlying33] | rw [q_nil_iface _ _ _ Try.underlying33] | rw [q_nil_nil _ _ _ Try.underlying33])
           try simp only [eX, ↓reduceIte, Nat.reduceEqDiff, Int.reduceToNat]
           refine hK _ _ ?_; clear hK K
           refine zae ?_
           try simp only [Ex.thnH, Ex.inBlockH, ↓reduceIte, Nat.reduceEqDiff]
           refine hK23 _ _ ?_; try clear hK23 K23
           refine zaG (fun r => rfl) (fun c60 => ?_) (fun c60 => ?_)
           ·exfalso; exact cnA c60
           refine zaO ?_
           try simp only [Ex.thnH, Ex.inBlockH, ↓reduceIte, Nat.reduceEqDiff]
           refine hK22 _ _ ?_; try clear hK22 K22
           refine zad (fun K24 hK24 => ?_)
           refine zaa ?_
           refine zac (fun K hK r => ?_)
           simp only [zan, eX, ↓reduceIte, Nat.reduceEqDiff, Int.reduceToNat]
           refine zaN Try.underlying45 rfl sz45 hbA (by simp [Sec.h]) ?_
           refine hK _ _ ?_; clear hK K
           refine zam rfl ?_
           refine zac (fun K hK r => ?_)
           simp only [zaT _ bd55, List.map_toArray, List.map_cons, List.map_nil, eX, ↓reduceIte, Nat.reduceEqDiff, Int.reduceToNat]
           refine (Is_R _ (s.rd 0 (2 + ar * areaI (s.sz 0) + k)).1.b (gen * 8192 + k + 1) 4 (s.rd 0 (2 + ar * areaI (s.sz 0) + k)).1.h (hby k (by omega))).mono ?_
           rintro v65 H65 ⟨x65, ⟨l65, rs65, ho65, hr65⟩, rfl⟩
           obtain ⟨xa, xc, rfl⟩ := ho65.holds.form
           have l65b : Le H_ H65 := Le.trans (le_upd _ _ _ hb15) l65
           have hO65 := hO.le l65b
           have lH65 : Le H H65 := Le.trans hlH l65b
           try simp only [eX, ↓reduceIte, Nat.reduceEqDiff, Int.reduceToNat]
           refine hK _ _ ?_; clear hK K
           refine zam rfl ?_
           refine zac (fun K hK r => ?_)
           simp only [zaW, zaX, List.getElem?_toArray, List.getElem?_cons_zero, List.getElem?_cons_succ, zal, eX, ↓reduceIte, Nat.reduceEqDiff, Int.reduceToNat]
           refine hK _ _ ?_; clear hK K
           refine zac (fun K hK r => ?_)
           simp only [zaW, zaX, List.getElem?_toArray, List.getElem?_cons_zero, List.getElem?_cons_succ, zal, eX, ↓reduceIte, Nat.reduceEqDiff, Int.reduceToNat]
           refine hK _ _ ?_; clear hK K
           refine zao rfl ?_
           refine zao rfl ?_
           refine zae ?_
           try simp only [Ex.thnH, Ex.inBlockH, ↓reduceIte, Nat.reduceEqDiff]
           refine hK24 _ _ ?_; try clear hK24 K24
           refine zad (fun K25 hK25 => ?_)
           refine zad (fun K26 hK26 => ?_)
           refine zaa ?_
           refine zam rfl ?_
           refine zac (fun K hK r => ?_)
           simp only [x_un, u_not, eX, ↓reduceIte, Nat.reduceEqDiff, Int.reduceToNat]
           refine hK _ _ ?_; clear hK K
           refine zam rfl ?_
           (first | refine zbc (d := 70) rfl (fun g70 => ?_) (fun g70 => ?_) | skip)
           all_goals try (exfalso; exact cnA g70)
           all_goals (try simp only [decide_eq_true_eq, decide_eq_false_iff_not, Bool.not_eq_true, Bool.not_eq_false, Bool.and_eq_true, Bool.or_eq_true, Bool.or_eq_false_iff, Bool.not_eq_eq_eq_not, Bool.not_true, Bool.not_false] at g70)
           all_goals
            try simp only [eX, ↓reduceIte, Nat.reduceEqDiff, Int.reduceToNat]
            first
            |refine zaf rfl (zab (by decide)) rfl (fun K hK r => ?_)
             simp only [zaU, eX, ↓reduceIte, Nat.reduceEqDiff, Int.reduceToNat]
             refine hK _ _ ?_; clear hK K
            |refine zag rfl (zab (by decide)) rfl ?_
             simp only [eX, ↓reduceIte, Nat.reduceEqDiff, Int.reduceToNat]
            first
            |refine zaf rfl (zab (by decide)) rfl (fun K hK r => ?_)
             simp only [zaM, l_len, List.map_toArray, List.map_cons, List.map_nil, zaS _ _ Try.underlying22, eX, ↓reduceIte, Nat.reduceEqDiff, Int.reduceToNat]
             refine hK _ _ ?_; clear hK K
            |refine zag rfl (zab (by decide)) rfl ?_
             simp only [eX, ↓reduceIte, Nat.reduceEqDiff, Int.reduceToNat]
            first
            |refine zaf rfl (zab (by decide)) rfl (fun K hK r => ?_)
             simp only [zaU, eX, ↓reduceIte, Nat.reduceEqDiff, Int.reduceToNat]
             refine hK _ _ ?_; clear hK K
            |refine zag rfl (zab (by decide)) rfl ?_
             simp only [eX, ↓reduceIte, Nat.reduceEqDiff, Int.reduceToNat]
            first
            |refine zaf rfl (zab (by decide)) rfl (fun K hK r => ?_)
             simp only [zaU, eX, ↓reduceIte, Nat.reduceEqDiff, Int.reduceToNat]
             refine hK _ _ ?_; clear hK K
            |refine zag rfl (zab (by decide)) rfl ?_
             simp only [eX, ↓reduceIte, Nat.reduceEqDiff, Int.reduceToNat]
            first
            |refine zaf rfl (zab (by decide)) rfl (fun K hK r => ?_)
             simp only [zaM, l_len, List.map_toArray, List.map_cons, List.map_nil, zaS _ _ Try.underlying22, eX, ↓reduceIte, Nat.reduceEqDiff, Int.reduceToNat]
             refine hK _ _ ?_; clear hK K
            |refine zag rfl (zab (by decide)) rfl ?_
             simp only [eX, ↓reduceIte, Nat.reduceEqDiff, Int.reduceToNat]
            first
            |refine zaf rfl (zab (by decide)) rfl (fun K hK r => ?_)
             simp (disch := (first | omega | decide)) only [zaF, zaH, b_sub, zaw, zaE, zaD, zaQ, eX, ↓reduceIte, Nat.reduceEqDiff, Int.reduceToNat]
             refine hK _ _ ?_; clear hK K
            |refine zag rfl (zab (by decide)) rfl ?_
             simp only [eX, ↓reduceIte, Nat.reduceEqDiff, Int.reduceToNat]
            first
            |refine zaf rfl (zab (by decide)) rfl (fun K hK r => ?_)
             simp only [zaM, l_min, List.map_toArray, List.map_cons, List.map_nil, i_min2, eX, ↓reduceIte, Nat.reduceEqDiff, Int.reduceToNat]
             refine hK _ _ ?_; clear hK K
            |refine zag rfl (zab (by decide)) rfl ?_
             simp only [eX, ↓reduceIte, Nat.reduceEqDiff, Int.reduceToNat]
            first
            |refine zaf rfl (zab (by decide)) rfl (fun K hK r => ?_)
             simp (disch := (first | omega | decide)) only [zaF, zaH, b_neq, zaq, zar, zat, zau, zas, zav, Bool.not_true, Bool.not_false, eX, ↓reduceIte, Nat.reduceEqDiff, Int.reduceToNat]
             refine hK _ _ ?_; clear hK K
            |refine zag rfl (zab (by decide)) rfl ?_
             simp only [eX, ↓reduceIte, Nat.reduceEqDiff, Int.reduceToNat]
            refine zac (fun K hK r => ?_)
            simp only [zbp, zaZ, HL.ite_bool, if_true, if_false, Bool.false_eq_true, eX, ↓reduceIte, Nat.reduceEqDiff, Int.reduceToNat]
            refine hK _ _ ?_; clear hK K
            refine zae ?_
            try simp only [Ex.thnH, Ex.inBlockH, ↓reduceIte, Nat.reduceEqDiff]
            refine hK26 _ _ ?_; try clear hK26 K26
            refine zaG (fun r => rfl) (fun c79 => ?_) (fun c79 => ?_)
            ·first
             |(exfalso; exact cnA c79; done)
             |skip
              skip
              refine zad (fun K27 hK27 => ?_)
              refine zaa ?_
              refine zac (fun K hK r => ?_)
              simp only [zbf, zbg, Try.underlying73, zal, eX, ↓reduceIte, Nat.reduceEqDiff, Int.reduceToNat]
              refine hK _ _ ?_; clear hK K
              refine zao rfl ?_
              refine zao rfl ?_
              refine zae ?_
              try simp only [Ex.thnH, Ex.inBlockH, ↓reduceIte, Nat.reduceEqDiff]
              refine hK27 _ _ ?_; try clear hK27 K27
              refine zaR ?_
              try simp only [Ex.thnH, Ex.inBlockH, ↓reduceIte, Nat.reduceEqDiff]
              have hno : ¬ (isB (s.rd 0 (2 + ar * areaI (s.sz 0) + k)).1.b (gen * 8192 + k + 1) 4 = true ∧ ((isD (s.rd 0 (2 + ar * areaI (s.sz 0) + k)).1.b (gen * 8192 + k + 1) 4).length : Int) = min 50 (l - out.length)) := fun hh => by
               first
               |(rw [g70] at hh; cases hh.1; done)
               |(rw [min50, decide_eq_true hh.2] at c79; cases c79; done)
              have h0 := loadN_no hN hno ((needI l).toNat - (k + 1))
              rw [show k + 1 + ((needI l).toNat - (k + 1)) = (needI l).toNat from by omega] at h0
              rw [load_none hask hln hgo hfit h0]
              exact ⟨[_, _], ⟨rfl, rfl, trivial⟩, _, Le.refl _, lH65, _, none, rfl, OwnS.nil _ _ _, fun r hr => by cases hr⟩
            ·first
             |(exfalso; exact cnA c79; done)
             |skip
              skip
              refine zaO ?_
              try simp only [Ex.thnH, Ex.inBlockH, ↓reduceIte, Nat.reduceEqDiff]
              refine hK25 _ _ ?_; try clear hK25 K25
              refine zaa ?_
              refine zam rfl ?_
              refine zam rfl ?_
              refine zac (fun K hK r => ?_)
              simp only [zaM, l_append, List.map_toArray, List.map_cons, List.map_nil, eX, ↓reduceIte, Nat.reduceEqDiff, Int.reduceToNat]
              have hyes : isB (s.rd 0 (2 + ar * areaI (s.sz 0) + k)).1.b (gen * 8192 + k + 1) 4 = true ∧ ((isD (s.rd 0 (2 + ar * areaI (s.sz 0) + k)).1.b (gen * 8192 + k + 1) 4).length : Int) = min 50 (l - out.length) := by
               refine ⟨g70, Classical.byContradiction fun hE => ?_⟩
               rw [min50, decide_eq_false hE] at c79
               cases c79
              have hdl := isD_len (s.rd 0 (2 + ar * areaI (s.sz 0) + k)).1.b (gen * 8192 + k + 1) 4
              refine Lt_append Try.underlying22 Try.underlying22 (by simp) sz5 by5 (by decide) zr5 rfl _ (n := out.length) (m := (isD (s.rd 0 (2 + ar * areaI (s.sz 0) + k)).1.b (gen * 8192 + k + 1) 4).length) (ds := u8s (isD (s.rd 0 (2 + ar * areaI (s.sz 0) + k)).1.b (gen * 8192 + k + 1) 4)) hO65 (fun Kx => len_holds ho65.holds Kx) (fun Kx => first_slice ho65.holds Kx) (by simp) (fun v hv => by obtain ⟨i, _, rfl⟩ := List.mem_map.1 hv; exact plain_int _ _) (by omega) ?_
              intro v83 H83 rs83 hg83 ho83 hr83
              have lH83 : Le H H83 := fun z o hz => hg83.known z o (lH65 z o hz) (fun e => by rw [hrs z e] at hz; cases hz)
              have hrs83 : ∀ r, rs83 = some r → H r = none := fun r e => (hr83 r e).elim (hrs r) (fun hn => zaj lH65 hn)
              refine hK _ _ ?_; clear hK K
              refine zao rfl ?_
              refine zae ?_
              try simp only [Ex.thnH, Ex.inBlockH, ↓reduceIte, Nat.reduceEqDiff]
              refine hK18 _ _ ?_; try clear hK18 K18
              refine zaa ?_
              refine zac (fun K hK r => ?_)
              simp (disch := (first | omega | decide)) only [zaF, zaH, b_add, zaw, zaE, zaD, zaQ, eX, ↓reduceIte, Nat.reduceEqDiff, Int.reduceToNat]
              refine hK _ _ ?_; clear hK K
              refine zam rfl ?_
              refine zae ?_
              try simp only [Ex.thnH, Ex.inBlockH, ↓reduceIte, Nat.reduceEqDiff]
              exact ⟨(needI l).toNat - (k + 1), by omega, k + 1, _, rs83, _, by omega, rfl, loadN_some hN hyes.1 hyes.2, by rw [List.length_append, show u8s (out ++ isD (s.rd 0 (2 + ar * areaI (s.sz 0) + k)).1.b (gen * 8192 + k + 1) 4) = u8s out ++ u8s (isD (s.rd 0 (2 + ar * areaI (s.sz 0) + k)).1.b (gen * 8192 + k + 1) 4) from List.map_append]; exact ho83, hrs83, lH83, by rw [List.length_append]; omega, rfl, rfl, rfl, rfl, rfl, rfl, rfl, trivial⟩
         ·first
          |(exfalso; exact cnA c43; done)
          |skip
           (try simp only [decide_eq_true_eq, decide_eq_false_iff_not, Bool.not_eq_true, Bool.not_eq_false, Bool.and_eq_true, Bool.or_eq_true, Bool.or_eq_false_iff, Bool.not_eq_eq_eq_not, Bool.not_true, Bool.not_false] at c43)
           have hkn : k = (needI l).toNat := by omega
           refine CW_exit ?_
           try simp only [Ex.thnH, Ex.inBlockH, ↓reduceIte, Nat.reduceEqDiff]
           refine hK14 _ _ ?_; try clear hK14 K14
           refine zad (fun K28 hK28 => ?_)
           refine zaa ?_
           refine zam rfl ?_
           refine zao rfl ?_
           refine zao rfl ?_
           refine zae ?_
           try simp only [Ex.thnH, Ex.inBlockH, ↓reduceIte, Nat.reduceEqDiff]
           refine hK28 _ _ ?_; try clear hK28 K28
           refine zaR ?_
           try simp only [Ex.thnH, Ex.inBlockH, ↓reduceIte, Nat.reduceEqDiff]
           rw [load_some hask hln hgo hfit (by rw [← hkn]; exact hN)]
           exact ⟨[_, _], ⟨rfl, rfl, trivial⟩, _, Le.refl _, hlH, _, rs, rfl, hO, hrs⟩
end Go.Proofs.Ytcjdkfhmlnfedaa.HL
end
section
namespace Go.Proofs.Ytcjdkfhmlnfedaa.HL
open Go Go.Proofs
set_option linter.unusedSimpArgs false
set_option linter.unusedVariables false
attribute [local irreducible] Lt Lq CW OW TW CallH
theorem lastW_app (w : Wt) (i : Int) : ∀ l : List Wt, lastW (l ++ [w]) i = if w.at_ = i then some w.x else lastW l i
  | [] => by
    show (match lastW [] i with | some x => some x | none => if w.at_ = i then some w.x else none) = _
    rfl
  | v :: r => by
    show (match lastW (r ++ [w]) i with | some x => some x | none => if v.at_ = i then some v.x else none) = _
    rw [lastW_app w i r]
    by_cases h : w.at_ = i
    · simp only [if_pos h]
    · simp only [if_neg h]; rfl
theorem stN_all (ws : List Wt) (s : Int → Sec) : ∀ n, n ≤ ws.length → ∀ i, stN (fun _ => some 0) ws s n i = (lastW (ws.take n) i).getD (s i)
  | 0, _, i => rfl
  | n + 1, hn, i => by
    have e : ws.take (n + 1) = ws.take n ++ [ws.getD n default] := by
      rw [List.take_add_one, List.getElem?_eq_getElem (by omega), List.getD_eq_getElem?_getD, List.getElem?_eq_getElem (by omega)]; rfl
    rw [e, lastW_app]
    show (if i = (ws.getD n default).at_ then torn (ws.getD n default).x _ 0 else stN (fun _ => some 0) ws s n i) = _
    by_cases h : i = (ws.getD n default).at_
    · rw [if_pos h, if_pos h.symm]; simp [torn]
    · rw [if_neg h, if_neg (Ne.symm h)]; exact stN_all ws s n (by omega) i
abbrev St.r0 (s : St) (z : Int) : Sec := (s.dv.getD 0 default).read z
structure Up (s : St) (sz : Int) : Prop where
  ar : s.armed = false
  go : s.gone = false
  len : 1 ≤ s.dv.length
  sz : (s.dv.getD 0 default).size = sz
theorem Up.sz0 {s : St} {z : Int} (h : Up s z) : s.sz 0 = z := by
  have := h.len
  unfold St.sz
  rw [if_pos (by omega)]
  exact h.sz
theorem Up.step {s : St} {z : Int} (h : Up s z) : s.step.2 = true ∧ s.step.1.dv = s.dv ∧ s.step.1.armed = false ∧ s.step.1.gone = false := by
  unfold St.step
  rw [if_neg (by rw [h.ar, h.go]; simp)]
  exact ⟨rfl, rfl, h.ar, h.go⟩
theorem Up.wr {s : St} {sz : Int} (h : Up s sz) {i : Int} (h0 : 0 ≤ i) (h1 : i < sz) (x : Sec) : (s.wr 0 i x).2 = none ∧ Up (s.wr 0 i x).1 sz ∧ ∀ z, (s.wr 0 i x).1.r0 z = if z = i then x else s.r0 z := by
  obtain ⟨e1, e2, e3, e4⟩ := h.step
  have hl := h.len
  rcases wr_cases s 0 i x with ⟨_, _, hh⟩ | ⟨_, _, hh, _⟩ | ⟨a1, a2, _, _⟩
  · exfalso
    have : s.has 0 i = true := by
      unfold St.has
      rw [Bool.and_eq_true, decide_eq_true_eq, decide_eq_true_eq]
      exact ⟨⟨Int.le_refl _, by omega⟩, h0, by rw [show (0 : Int).toNat = 0 from rfl, h.sz]; exact h1⟩
    rw [hh] at this; cases this
  · rw [e1] at hh; cases hh
  · have hd : (s.wr 0 i x).1.dv.getD 0 default = (s.dv.getD 0 default).put ⟨i, x⟩ := by
      rw [a1]
      show (s.dv.set (0 : Int).toNat _).getD 0 default = _
      rw [getD_set, if_pos ⟨rfl, by show 0 < _; omega⟩]; rfl
    refine ⟨a2, ⟨by rw [a1]; exact e3, by rw [a1]; exact e4, by rw [a1]; simp; omega, by rw [hd]; exact h.sz⟩, fun z => ?_⟩
    show ((s.wr 0 i x).1.dv.getD 0 default).read z = _
    rw [hd]
    show (lastW ((s.dv.getD 0 default).wait ++ [⟨i, x⟩]) z).getD _ = _
    rw [lastW_app]
    by_cases e : z = i
    · rw [if_pos e, if_pos e.symm]; rfl
    · rw [if_neg e, if_neg (Ne.symm e)]; rfl
theorem Up.fl {s : St} {sz : Int} (h : Up s sz) : (s.fl 0).2 = none ∧ Up (s.fl 0).1 sz ∧ ((s.fl 0).1.dv.getD 0 default).wait = [] ∧ ∀ z, (s.fl 0).1.r0 z = s.r0 z := by
  obtain ⟨e1, e2, e3, e4⟩ := h.step
  have hl := h.len
  rcases fl_cases s 0 with ⟨_, _, hh⟩ | ⟨_, _, hh, _⟩ | ⟨a1, a2, _, _⟩
  · exact absurd ⟨Int.le_refl _, by omega⟩ hh
  · rw [e1] at hh; cases hh
  · have hd : (s.fl 0).1.dv.getD 0 default = (s.dv.getD 0 default).settle (fun _ => some 0) := by
      rw [a1]
      show (s.dv.set (0 : Int).toNat _).getD 0 default = _
      rw [getD_set, if_pos ⟨rfl, by show 0 < _; omega⟩]; rfl
    refine ⟨a2, ⟨by rw [a1]; exact e3, by rw [a1]; exact e4, by rw [a1]; simp; omega, by rw [hd]; exact h.sz⟩, by rw [hd]; rfl, fun z => ?_⟩
    show ((s.fl 0).1.dv.getD 0 default).read z = _
    rw [hd]
    show stN (fun _ => some 0) _ _ _ z = _
    rw [stN_all _ _ _ (Nat.le_refl _), List.take_of_length_le (Nat.le_refl _)]; rfl
theorem Up.rd {s : St} {sz : Int} (h : Up s sz) {z : Int} (h0 : 0 ≤ z) (h1 : z < sz) : s.rd 0 z = (s.r0 z, none) := by
  have hl := h.len
  unfold St.rd
  rw [if_neg (by rw [h.go]; simp), if_pos]
  · rfl
  · unfold St.has
    rw [Bool.and_eq_true, decide_eq_true_eq, decide_eq_true_eq]
    exact ⟨⟨Int.le_refl _, by omega⟩, h0, by rw [show (0 : Int).toNat = 0 from rfl, h.sz]; exact h1⟩
def rdK (s : St) (gen at_ : Int) (b : List Int) : Nat → Int → Sec
  | 0, z => s.r0 z
  | k + 1, z => if z = at_ + k then secI gen b k else rdK s gen at_ b k z
theorem rdK_at (s : St) (gen at_ : Int) (b : List Int) {i : Nat} : ∀ {k : Nat}, i < k → rdK s gen at_ b k (at_ + i) = secI gen b i
  | k + 1, h => by
    unfold rdK
    by_cases e : i = k
    · rw [if_pos (by rw [e]), e]
    · rw [if_neg (by omega)]; exact rdK_at s gen at_ b (by omega)
theorem Up.saveN {s : St} {sz : Int} (h : Up s sz) {gen ar : Int} {b : List Int} (ha : 0 ≤ ar ∧ ar < 2) (hf : fitsI sz b.length = true) : ∀ k, k ≤ chN b → (s.saveN gen ar b k).2 = none ∧ Up (s.saveN gen ar b k).1 sz ∧ ∀ z, (s.saveN gen ar b k).1.r0 z = rdK s gen (2 + ar * areaI sz) b k z
  | 0, _ => ⟨rfl, h, fun z => rfl⟩
  | k + 1, hk => by
    obtain ⟨h1, h2, h3⟩ := Up.saveN h (gen := gen) ha hf k (by omega)
    have hat := at_fine ha hf (k := k) (by rw [needI_eq]; omega)
    rw [saveN_next h1, h.sz0]
    obtain ⟨q1, q2, q3⟩ := h2.wr hat.1 hat.2 (secI gen b k)
    refine ⟨q1, q2, fun z => ?_⟩
    rw [q3, h3]; rfl
theorem Up.save {s : St} {sz : Int} (h : Up s sz) {gen ar : Int} {b : List Int} (hk : askI gen ar = true) (hf : fitsI sz b.length = true) : (s.save gen ar b).2 = none ∧ Up (s.save gen ar b).1 sz ∧ ((s.save gen ar b).1.dv.getD 0 default).wait = [] ∧ ∀ z, (s.save gen ar b).1.r0 z = rdK s gen (2 + ar * areaI sz) b (chN b) z := by
  obtain ⟨h1, h2, h3⟩ := h.saveN (gen := gen) (ask_iff.1 hk).2 hf (chN b) (Nat.le_refl _)
  rw [save_all hk (by rw [h.sz0]; exact hf) h1]
  obtain ⟨q1, q2, q3, q4⟩ := h2.fl
  exact ⟨q1, q2, q3, fun z => by rw [q4, h3]⟩
theorem is_seal {st st' : Int} {d : List Int} (h : badI st 4 d = none) : isB (sealI st 4 d) st' 4 = decide (st = st') ∧ (st = st' → isD (sealI st 4 d) st' 4 = d) := by
  have ho := open_vals (by rw [sealI_eq h]; exact open_seal h : openI (sealI st 4 d) = some (st, 4, d))
  have e : isB (sealI st 4 d) st' 4 = decide (st = st') := by
    unfold isB; rw [ho.1, ho.2.1, ho.2.2.2]; simp
  refine ⟨e, fun hs => ?_⟩
  unfold isD
  rw [e, if_pos (by simp [hs]), ho.2.2.1]
theorem secI_fine {gen : Int} {b : List Int} {i : Nat} (hg : 1 ≤ gen ∧ gen ≤ 17179869183) (hi : i ≤ 100000) (st : Int) : isB (secI gen b i).b st 4 = decide (gen * 8192 + i + 1 = st) ∧ (gen * 8192 + i + 1 = st → isD (secI gen b i).b st 4 = chk b i) := is_seal (seal_fine hg hi)
theorem Up.load {s : St} {sz : Int} (h : Up s sz) {gen ar : Int} {b : List Int} (hk : askI gen ar = true) (hf : fitsI sz b.length = true) (hb : b.length ≤ 100000) (hr : ∀ i : Nat, i < chN b → s.r0 (2 + ar * areaI sz + i) = secI gen b i) : s.load gen ar b.length = (b, none) := by
  have hak := ask_iff.1 hk
  have key : ∀ k, k ≤ chN b → s.loadN gen ar b.length k = some (b.take (50 * k)) := by
    intro k
    induction k with
    | zero => intro _; simp [St.loadN]
    | succ k ih =>
      intro hk'
      have hat := at_fine hak.2 hf (k := k) (by rw [needI_eq]; omega)
      have hread : (s.rd 0 (2 + ar * areaI (s.sz 0) + k)).1 = secI gen b k := by
        rw [h.sz0, h.rd hat.1 hat.2, hr k (by omega)]
      have hs := secI_fine (b := b) (i := k) hak.1 (by unfold chN at hk'; omega) (gen * 8192 + k + 1)
      have hcl := chk_len (l := b) (i := k) (by omega)
      rw [loadN_some (ih (by omega)) (by rw [hread, hs.1]; simp) (by rw [hread, hs.2 rfl, List.length_take]; unfold chN at hk'; omega), hread, hs.2 rfl, chk_step]
  rw [load_some hk (by omega) h.go (by rw [h.sz0]; exact hf) (by rw [needI_eq, Int.toNat_natCast]; exact key _ (Nat.le_refl _))]
  rw [List.take_of_length_le (by unfold chN; omega)]
end Go.Proofs.Ytcjdkfhmlnfedaa.HL
end
section
namespace Go.Proofs.Ytcjdkfhmlnfedaa.HL
open Go Go.Proofs
set_option linter.unusedSimpArgs false
set_option linter.unusedVariables false
attribute [local irreducible] Lt Lq CW OW TW CallH
theorem Up.loadN {s : St} {sz : Int} (h : Up s sz) {gen ar n : Int} {b : List Int} (hk : askI gen ar = true) (hf : fitsI sz b.length = true) (hb : b.length ≤ 100000) (hr : ∀ i : Nat, i < chN b → s.r0 (2 + ar * areaI sz + i) = secI gen b i) : ∀ k, k ≤ chN b → (∀ i : Nat, i < k → ((chk b i).length : Int) = min 50 (n - 50 * i)) → s.loadN gen ar n k = some (b.take (50 * k)) := by
  have hak := ask_iff.1 hk
  intro k
  induction k with
  | zero => intro _ _; simp [St.loadN]
  | succ k ih =>
    intro hk' hn
    have hat := at_fine hak.2 hf (k := k) (by rw [needI_eq]; omega)
    have hread : (s.rd 0 (2 + ar * areaI (s.sz 0) + k)).1 = secI gen b k := by
      rw [h.sz0, h.rd hat.1 hat.2, hr k (by omega)]
    have hs := secI_fine (b := b) (i := k) hak.1 (by unfold chN at hk'; omega) (gen * 8192 + k + 1)
    have hln := hn k (by omega)
    rw [loadN_some (ih (by omega) (fun i hi => hn i (by omega))) (by rw [hread, hs.1]; simp) (by rw [hread, hs.2 rfl, hln, List.length_take]; unfold chN at hk'; omega), hread, hs.2 rfl, chk_step]
def s60 (gen : Int) (b : List Int) : St := ((newSt [60]).save gen 0 b).1
theorem chk_byte' {l : List Int} (h : ByteL l) (k : Nat) : ByteL (chk l k) := fun x hx => h x (List.mem_of_mem_drop (List.mem_of_mem_take hx))
theorem rdK_byte {s : St} {gen at_ : Int} {b : List Int} (hb : ByteL b) (h0 : ∀ z, ByteL (s.r0 z).b) : ∀ k z, ByteL (rdK s gen at_ b k z).b
  | 0, z => h0 z
  | k + 1, z => by
    unfold rdK
    split
    · exact sealI_byte (chk_byte' hb k)
    · exact rdK_byte hb h0 k z
theorem zero_byte : ByteL Sec.zero.b := fun x hx => by
  have : x ∈ List.replicate 64 (0 : Int) := hx
  rw [List.mem_replicate] at this
  rw [this.2]; decide
theorem rd_byte {s : St} (h : ∀ z, ByteL (s.r0 z).b) (i : Int) : ByteL (s.rd 0 i).1.b := by
  unfold St.rd
  split
  · exact zero_byte
  split
  · exact h i
  · exact zero_byte
section
variable {gen : Int} {b : List Int}
end
end Go.Proofs.Ytcjdkfhmlnfedaa.HL
end
section
namespace Go.Proofs.Ytcjdkfhmlnfedaa.HL
open Go Go.Proofs
set_option linter.unusedSimpArgs false
set_option linter.unusedVariables false
attribute [local irreducible] Lt Lq CW OW TW CallH
structure IS (s : St) (sz : Int) (V : Nat → Sec) (N : Nat) : Prop where
  len : 1 ≤ s.dv.length
  size : (s.dv.getD 0 default).size = sz
  sure : ∀ i : Nat, i < N → (s.dv.getD 0 default).sure (2 + i) = V i
  wait : ∀ w ∈ (s.dv.getD 0 default).wait, ∀ i : Nat, i < N → w.at_ ≠ 2 + i
theorem IS.congr {s t : St} {sz : Int} {V : Nat → Sec} {N : Nat} (h : IS s sz V N) (e : t.dv = s.dv) : IS t sz V N := ⟨by rw [e]; exact h.len, by rw [e]; exact h.size, by rw [e]; exact h.sure, by rw [e]; exact h.wait⟩
theorem IS.dev {s t : St} {sz : Int} {V : Nat → Sec} {N : Nat} (h : IS s sz V N) {d : Dv} (e : t.dv = s.dv.set 0 d) (h1 : d.size = sz) (h2 : ∀ i : Nat, i < N → d.sure (2 + i) = V i) (h3 : ∀ w ∈ d.wait, ∀ i : Nat, i < N → w.at_ ≠ 2 + i) : IS t sz V N := by
  have hl := h.len
  have hd : t.dv.getD 0 default = d := by rw [e, getD_set, if_pos ⟨rfl, by omega⟩]
  exact ⟨by rw [e]; simp; omega, by rw [hd]; exact h1, by rw [hd]; exact h2, by rw [hd]; exact h3⟩
theorem IS.wr {s : St} {sz : Int} {V : Nat → Sec} {N : Nat} (h : IS s sz V N) {z : Int} (hz : (N : Int) + 2 ≤ z) (x : Sec) : IS (s.wr 0 z x).1 sz V N := by
  rcases wr_cases s 0 z x with ⟨e, _⟩ | ⟨e, _⟩ | ⟨e, _⟩
  · rw [e]; exact h
  · rw [e]; exact h.congr (step_dv s)
  · rw [e]
    refine h.dev (d := (s.dv.getD 0 default).put ⟨z, x⟩) rfl h.size h.sure (fun w hw i hi => ?_)
    rcases List.mem_append.1 hw with hm | hm
    · exact h.wait w hm i hi
    · simp at hm; subst hm; show z ≠ _; omega
theorem IS.stN {ws : List Wt} {s0 : Int → Sec} {N : Nat} (hw : ∀ w ∈ ws, ∀ i : Nat, i < N → w.at_ ≠ 2 + i) (kept : Nat → Option Int) {i : Nat} (hi : i < N) : ∀ n, n ≤ ws.length → Go.Proofs.Ytcjdkfhmlnfedaa.HL.stN kept ws s0 n (2 + i) = s0 (2 + i)
  | 0, _ => rfl
  | n + 1, hn => by
    have ih := IS.stN (s0 := s0) hw kept hi n (by omega)
    have hm : ws.getD n default ∈ ws := by
      rw [List.getD_eq_getElem?_getD, List.getElem?_eq_getElem (by omega)]; exact List.getElem_mem _
    cases hk : kept n with
    | none =>
      show (match kept n with | none => Go.Proofs.Ytcjdkfhmlnfedaa.HL.stN kept ws s0 n | some t => _) _ = _
      rw [hk]; exact ih
    | some t =>
      show (match kept n with | none => Go.Proofs.Ytcjdkfhmlnfedaa.HL.stN kept ws s0 n | some t => _) _ = _
      rw [hk]
      simp only
      rw [if_neg (Ne.symm (hw _ hm i hi))]
      exact ih
theorem IS.settle {s : St} {sz : Int} {V : Nat → Sec} {N : Nat} (h : IS s sz V N) (kept : Nat → Option Int) : ((s.dv.getD 0 default).settle kept).size = sz ∧ (∀ i : Nat, i < N → ((s.dv.getD 0 default).settle kept).sure (2 + i) = V i) ∧ ∀ w ∈ ((s.dv.getD 0 default).settle kept).wait, ∀ i : Nat, i < N → w.at_ ≠ 2 + i :=
  ⟨h.size, fun i hi => (IS.stN h.wait kept hi _ (Nat.le_refl _)).trans (h.sure i hi), fun w hw => by simp [Dv.settle] at hw⟩
theorem IS.fl {s : St} {sz : Int} {V : Nat → Sec} {N : Nat} (h : IS s sz V N) : IS (s.fl 0).1 sz V N := by
  rcases fl_cases s 0 with ⟨e, _⟩ | ⟨e, _⟩ | ⟨e, _⟩
  · rw [e]; exact h
  · rw [e]; exact h.congr (step_dv s)
  · rw [e]
    obtain ⟨h1, h2, h3⟩ := h.settle (fun _ => some 0)
    exact h.dev rfl h1 h2 h3
theorem IS.cr {s : St} {sz : Int} {V : Nat → Sec} {N : Nat} (h : IS s sz V N) (l : List Kp) : IS (s.cr l) sz V N ∧ ((s.cr l).dv.getD 0 default).wait = [] := by
  have hl := h.len
  have hd : (s.cr l).dv.getD 0 default = (s.dv.getD 0 default).settle (fun n => keepOf l (0 : Nat) n) := by
    simp [St.cr, List.getD_eq_getElem?_getD, List.getElem?_mapIdx, List.getElem?_eq_getElem (show 0 < s.dv.length by omega)]
  obtain ⟨h1, h2, h3⟩ := h.settle (fun n => keepOf l (0 : Nat) n)
  exact ⟨⟨by simp [St.cr]; omega, by rw [hd]; exact h1, by rw [hd]; exact h2, by rw [hd]; exact h3⟩, by rw [hd]; rfl⟩
theorem IS.sz0 {s : St} {sz : Int} {V : Nat → Sec} {N : Nat} (h : IS s sz V N) : s.sz 0 = sz := by
  have := h.len
  unfold St.sz
  rw [if_pos (by omega)]
  exact h.size
theorem IS.saveN {s : St} {sz : Int} {V : Nat → Sec} {N : Nat} (h : IS s sz V N) (hN : (N : Int) ≤ areaI sz) (gen : Int) (b : List Int) : ∀ k, IS (s.saveN gen 1 b k).1 sz V N
  | 0 => h
  | k + 1 => by
    have ih := IS.saveN h hN gen b k
    unfold St.saveN
    split
    · rename_i t e
      rw [e] at ih
      exact ih.wr (by rw [h.sz0]; omega) _
    · rename_i t e2 e; rw [e] at ih; exact ih
theorem IS.save {s : St} {sz : Int} {V : Nat → Sec} {N : Nat} (h : IS s sz V N) (hN : (N : Int) ≤ areaI sz) (gen : Int) (b : List Int) : IS (s.save gen 1 b).1 sz V N := by
  unfold St.save
  split
  · exact h
  split
  · exact h
  have hk := h.saveN hN gen b (chN b)
  split
  · rename_i t e; rw [e] at hk; exact hk.fl
  · rename_i t e2 e; rw [e] at hk; exact hk
theorem Sm.save {n : Nat} {s : St} (h : Sm n s) (gen ar : Int) (b : List Int) : Sm (n + chN b) (s.save gen ar b).1 := by
  unfold St.save
  split
  · exact h.up (by omega)
  split
  · exact h.up (by omega)
  have hk := saveN_sm h gen ar b (chN b)
  split
  · rename_i t e; rw [e] at hk; exact hk.fl 0
  · rename_i t e2 e; rw [e] at hk; exact hk
theorem IS.last {s : St} {sz : Int} {gen : Int} {b : List Int} (h : IS s sz (secI gen b) (chN b)) (l : List Kp) (hk : askI gen 0 = true) (hf : fitsI sz b.length = true) (hb : b.length ≤ 100000) : (s.cr l).load gen 0 b.length = (b, none) ∧ ∀ i : Nat, i < chN b → ((s.cr l).rd 0 (2 + 0 * areaI ((s.cr l).sz 0) + i)).1 = secI gen b i := by
  obtain ⟨h1, h2⟩ := h.cr l
  have hu : Up (s.cr l) sz := ⟨rfl, rfl, h1.len, h1.size⟩
  have hr : ∀ i : Nat, i < chN b → (s.cr l).r0 (2 + 0 * areaI sz + i) = secI gen b i := fun i hi => by
    rw [show (2 + 0 * areaI sz + (i : Int)) = 2 + i from by omega]
    unfold St.r0 Dv.read
    rw [h2]
    exact h1.sure i hi
  refine ⟨hu.load hk hf hb hr, fun i hi => ?_⟩
  have hat := at_fine (ask_iff.1 hk).2 hf (k := i) (by rw [needI_eq]; omega)
  rw [hu.sz0, hu.rd hat.1 hat.2]
  exact hr i hi
end Go.Proofs.Ytcjdkfhmlnfedaa.HL
end
section
namespace Go.Proofs.Ytcjdkfhmlnfedaa.HL
open Go Go.Proofs
set_option linter.unusedSimpArgs false
set_option linter.unusedVariables false
attribute [local irreducible] Lt Lq CW OW TW CallH
end Go.Proofs.Ytcjdkfhmlnfedaa.HL
end
section
namespace Go.Proofs.Ytcjdkfhmlnfedaa.HL
open Go Go.Proofs
set_option linter.unusedSimpArgs false
set_option linter.unusedVariables false
attribute [local irreducible] Lt Lq CW OW TW CallH
def alB : List Int := [116, 101, 120, 116]
def alS : St := ((newSt [9]).save 1 1 alB).1
theorem al_up0 : Up (newSt [9]) 9 := ⟨rfl, rfl, by decide, rfl⟩
theorem al_ask : askI 1 1 = true := by decide
theorem al_fit : fitsI 9 alB.length = true := by decide
theorem al_up : ((newSt [9]).save 1 1 alB).2 = none ∧ Up alS 9 ∧ ∀ z, alS.r0 z = rdK (newSt [9]) 1 (2 + 1 * areaI 9) alB (chN alB) z := by
  obtain ⟨q1, q2, _, q4⟩ := al_up0.save al_ask al_fit
  exact ⟨q1, q2, q4⟩
theorem al_byte : ByteL alB := by
  intro x hx
  have : x = 116 ∨ x = 101 ∨ x = 120 ∨ x = 116 := by simpa [alB] using hx
  rcases this with rfl | rfl | rfl | rfl <;> decide
theorem al_load : alS.load 1 1 4 = (alB, none) :=
  al_up.2.1.load (b := alB) al_ask al_fit (by decide) (fun i hi => by rw [al_up.2.2]; exact rdK_at _ _ _ _ hi)
theorem al_rb (i : Int) : ByteL (alS.rd 0 i).1.b := rd_byte (fun z => by rw [al_up.2.2]; exact rdK_byte (s := newSt [9]) al_byte (fun z => by show ByteL Sec.zero.b; exact zero_byte) _ _) i
theorem al_sm : Sm 20 alS := by
  obtain ⟨k1, _, _⟩ := al_up0.saveN (gen := 1) (ask_iff.1 al_ask).2 al_fit (chN alB) (Nat.le_refl _)
  unfold alS
  rw [save_all al_ask (by rw [al_up0.sz0]; exact al_fit) k1]
  exact ((saveN_sm (Sm.new (l := [9]) (by decide)) 1 1 alB (chN alB)).fl 0).up (by decide)
set_option maxRecDepth 100000 in
set_option maxHeartbeats 4000000 in
theorem alive_ok (H : Hp) : CallH Try.prog 7 #[] H (fun v H' => v = .bool true ∧ H' = H) := by
 refine zaB (l := []) (rl := [.tmp 0]) (n := 44) Try.func7 rfl rfl rfl rfl rfl ?_
 simp only [envOf, Nat.reduceAdd]
 refine zad (fun K1 hK1 => ?_)
 refine zaa ?_
 refine zao rfl ?_
 refine zae ?_
 try simp only [Ex.thnH, Ex.inBlockH, ↓reduceIte, Nat.reduceEqDiff]
 refine hK1 _ _ ?_; try clear hK1 K1
 refine zad (fun K2 hK2 => ?_)
 refine zaa ?_
 refine zac (fun K hK r => ?_)
 simp only [zbn, List.map_toArray, List.map_cons, List.map_nil, eX, ↓reduceIte, Nat.reduceEqDiff, Int.reduceToNat]
 refine zbm (vs := [_]) Try.underlying41 sz3 zr3 rfl bsA (by first | decide | (simp; done)) ?_
 simp only [List.flatMap_cons, List.flatMap_nil, Value.cells, List.append_nil, List.cons_append, List.nil_append, List.length_cons, List.length_nil, Nat.zero_add, Nat.reduceAdd]
 intro b5 hb5
 have f5_H : H b5 = none := zaj lhA hb5
 try simp only [eX, ↓reduceIte, Nat.reduceEqDiff, Int.reduceToNat]
 refine hK _ _ ?_; clear hK K
 refine zac (fun K hK r => ?_)
 simp only [zaT _ bd9, List.map_toArray, List.map_cons, List.map_nil, eX, ↓reduceIte, Nat.reduceEqDiff, Int.reduceToNat]
 refine (newL _ _ _ [9] ⟨rfl, .inr ⟨b5, 0, 1, _, _, _, rfl, hbA, by simp, by simp⟩⟩ rfl (by decide)).mono ?_
 rintro v6 H6 ⟨p, F6, rfl, hA6⟩
 have hO6 := hA6.old
 have lH6 : Le H H6 := Le.trans (le_upd _ _ _ hb5) hO6
 have hs0 := Sm.new (l := [9]) (by decide)
 try simp only [eX, ↓reduceIte, Nat.reduceEqDiff, Int.reduceToNat]
 refine hK _ _ ?_; clear hK K
 refine zam rfl ?_
 refine zac (fun K hK r => ?_)
 simp only [zaW, zaX, List.getElem?_toArray, List.getElem?_cons_zero, List.getElem?_cons_succ, zal, eX, ↓reduceIte, Nat.reduceEqDiff, Int.reduceToNat]
 refine hK _ _ ?_; clear hK K
 refine zac (fun K hK r => ?_)
 simp only [zaW, zaX, List.getElem?_toArray, List.getElem?_cons_zero, List.getElem?_cons_succ, zal, eX, ↓reduceIte, Nat.reduceEqDiff, Int.reduceToNat]
 refine hK _ _ ?_; clear hK K
 refine zao rfl ?_
 refine zao rfl ?_
 refine zae ?_
 try simp only [Ex.thnH, Ex.inBlockH, ↓reduceIte, Nat.reduceEqDiff]
 refine hK2 _ _ ?_; try clear hK2 K2
 refine zad (fun K3 hK3 => ?_)
 refine zad (fun K4 hK4 => ?_)
 refine zaa ?_
 refine zam rfl ?_
 refine zac (fun K hK r => ?_)
 simp only [zaF, zaH, g_bool, zbo, zbk, g_slice, g_map, g_func, zbl, g_err, g_iface, zbe, g_nil_r, g_nil_l, eX, ↓reduceIte, Nat.reduceEqDiff, Int.reduceToNat]
 first | rw [b_err_neq _ _ Try.underlying33] | (rw [e_neq _ _ _ _ (by simp), q_equal]; first | rw [q_iface_nil _ _ _ Try.underlying33] | rw [q_nil_iface _ _ _ Try.underlying33] | rw [q_nil_nil _ _ _ Try.underlying33])
 try simp only [eX, ↓reduceIte, Nat.reduceEqDiff, Int.reduceToNat]
 refine hK _ _ ?_; clear hK K
 refine zam rfl ?_
 (first | refine zbc (d := 11) rfl (fun g11 => ?_) (fun g11 => ?_) | skip)
 all_goals try (exfalso; exact cnA g11)
 all_goals (try simp only [decide_eq_true_eq, decide_eq_false_iff_not, Bool.not_eq_true, Bool.not_eq_false, Bool.and_eq_true, Bool.or_eq_true, Bool.or_eq_false_iff, Bool.not_eq_eq_eq_not, Bool.not_true, Bool.not_false] at g11)
 all_goals
  try simp only [eX, ↓reduceIte, Nat.reduceEqDiff, Int.reduceToNat]
  first
  |refine zaf rfl (zab (by decide)) rfl (fun K hK r => ?_)
   simp only [zaU, eX, ↓reduceIte, Nat.reduceEqDiff, Int.reduceToNat]
   refine hK _ _ ?_; clear hK K
  |refine zag rfl (zab (by decide)) rfl ?_
   simp only [eX, ↓reduceIte, Nat.reduceEqDiff, Int.reduceToNat]
  first
  |refine zaf rfl (zab (by decide)) rfl (fun K hK r => ?_)
   simp only [zaT _ bd11, List.map_toArray, List.map_cons, List.map_nil, eX, ↓reduceIte, Nat.reduceEqDiff, Int.reduceToNat]
   refine (area_ok hA6 hs0 (by decide) (by decide)).mono ?_
   rintro v H' ⟨rfl, hq⟩
   have hq := hq.symm
   subst hq
   rw [show areaI ((newSt [9]).sz 0) = 3 from by decide]
   try simp only [eX, ↓reduceIte, Nat.reduceEqDiff, Int.reduceToNat]
   refine hK _ _ ?_; clear hK K
  |refine zag rfl (zab (by decide)) rfl ?_
   simp only [eX, ↓reduceIte, Nat.reduceEqDiff, Int.reduceToNat]
  first
  |refine zaf rfl (zab (by decide)) rfl (fun K hK r => ?_)
   simp (disch := (first | omega | decide)) only [zaF, zaH, b_neq, zaq, zar, zat, zau, zas, zav, Bool.not_true, Bool.not_false, eX, ↓reduceIte, Nat.reduceEqDiff, Int.reduceToNat]
   refine hK _ _ ?_; clear hK K
  |refine zag rfl (zab (by decide)) rfl ?_
   simp only [eX, ↓reduceIte, Nat.reduceEqDiff, Int.reduceToNat]
  refine zac (fun K hK r => ?_)
  simp only [zbp, zaZ, HL.ite_bool, if_true, if_false, Bool.false_eq_true, eX, ↓reduceIte, Nat.reduceEqDiff, Int.reduceToNat]
  refine hK _ _ ?_; clear hK K
  refine zam rfl ?_
  (first | refine zbc (d := 16) rfl (fun g16 => ?_) (fun g16 => ?_) | skip)
  all_goals try (exfalso; exact cnA g16)
  all_goals (try simp only [decide_eq_true_eq, decide_eq_false_iff_not, Bool.not_eq_true, Bool.not_eq_false, Bool.and_eq_true, Bool.or_eq_true, Bool.or_eq_false_iff, Bool.not_eq_eq_eq_not, Bool.not_true, Bool.not_false] at g16)
  all_goals
   try simp only [eX, ↓reduceIte, Nat.reduceEqDiff, Int.reduceToNat]
   first
   |refine zaf rfl (zab (by decide)) rfl (fun K hK r => ?_)
    simp only [zaU, eX, ↓reduceIte, Nat.reduceEqDiff, Int.reduceToNat]
    refine hK _ _ ?_; clear hK K
   |refine zag rfl (zab (by decide)) rfl ?_
    simp only [eX, ↓reduceIte, Nat.reduceEqDiff, Int.reduceToNat]
   first
   |refine zaf rfl (zab (by decide)) rfl (fun K hK r => ?_)
    simp only [zaT _ bd26, List.map_toArray, List.map_cons, List.map_nil, eX, ↓reduceIte, Nat.reduceEqDiff, Int.reduceToNat]
    refine (fits_ok hA6 hs0 (by decide) (by decide) 150 (by omega) (by omega)).mono ?_
    rintro v H' ⟨rfl, hq⟩
    have hq := hq.symm
    subst hq
    rw [show fitsI ((newSt [9]).sz 0) 150 = true from by decide]
    try simp only [eX, ↓reduceIte, Nat.reduceEqDiff, Int.reduceToNat]
    refine hK _ _ ?_; clear hK K
   |refine zag rfl (zab (by decide)) rfl ?_
    simp only [eX, ↓reduceIte, Nat.reduceEqDiff, Int.reduceToNat]
   first
   |refine zaf rfl (zab (by decide)) rfl (fun K hK r => ?_)
    simp only [x_un, u_not, eX, ↓reduceIte, Nat.reduceEqDiff, Int.reduceToNat]
    refine hK _ _ ?_; clear hK K
   |refine zag rfl (zab (by decide)) rfl ?_
    simp only [eX, ↓reduceIte, Nat.reduceEqDiff, Int.reduceToNat]
   refine zac (fun K hK r => ?_)
   simp only [zbp, zaZ, HL.ite_bool, if_true, if_false, Bool.false_eq_true, eX, ↓reduceIte, Nat.reduceEqDiff, Int.reduceToNat]
   refine hK _ _ ?_; clear hK K
   refine zam rfl ?_
   (first | refine zbc (d := 21) rfl (fun g21 => ?_) (fun g21 => ?_) | skip)
   all_goals try (exfalso; exact cnA g21)
   all_goals (try simp only [decide_eq_true_eq, decide_eq_false_iff_not, Bool.not_eq_true, Bool.not_eq_false, Bool.and_eq_true, Bool.or_eq_true, Bool.or_eq_false_iff, Bool.not_eq_eq_eq_not, Bool.not_true, Bool.not_false] at g21)
   all_goals
    try simp only [eX, ↓reduceIte, Nat.reduceEqDiff, Int.reduceToNat]
    first
    |refine zaf rfl (zab (by decide)) rfl (fun K hK r => ?_)
     simp only [zaU, eX, ↓reduceIte, Nat.reduceEqDiff, Int.reduceToNat]
     refine hK _ _ ?_; clear hK K
    |refine zag rfl (zab (by decide)) rfl ?_
     simp only [eX, ↓reduceIte, Nat.reduceEqDiff, Int.reduceToNat]
    first
    |refine zaf rfl (zab (by decide)) rfl (fun K hK r => ?_)
     simp only [zaT _ bd26, List.map_toArray, List.map_cons, List.map_nil, eX, ↓reduceIte, Nat.reduceEqDiff, Int.reduceToNat]
     refine (fits_ok hA6 hs0 (by decide) (by decide) 151 (by omega) (by omega)).mono ?_
     rintro v H' ⟨rfl, hq⟩
     have hq := hq.symm
     subst hq
     rw [show fitsI ((newSt [9]).sz 0) 151 = false from by decide]
     try simp only [eX, ↓reduceIte, Nat.reduceEqDiff, Int.reduceToNat]
     refine hK _ _ ?_; clear hK K
    |refine zag rfl (zab (by decide)) rfl ?_
     simp only [eX, ↓reduceIte, Nat.reduceEqDiff, Int.reduceToNat]
    refine zac (fun K hK r => ?_)
    simp only [zbp, zaZ, HL.ite_bool, if_true, if_false, Bool.false_eq_true, eX, ↓reduceIte, Nat.reduceEqDiff, Int.reduceToNat]
    refine hK _ _ ?_; clear hK K
    refine zam rfl ?_
    (first | refine zbc (d := 25) rfl (fun g25 => ?_) (fun g25 => ?_) | skip)
    all_goals try (exfalso; exact cnA g25)
    all_goals (try simp only [decide_eq_true_eq, decide_eq_false_iff_not, Bool.not_eq_true, Bool.not_eq_false, Bool.and_eq_true, Bool.or_eq_true, Bool.or_eq_false_iff, Bool.not_eq_eq_eq_not, Bool.not_true, Bool.not_false] at g25)
    all_goals
     try simp only [eX, ↓reduceIte, Nat.reduceEqDiff, Int.reduceToNat]
     first
     |refine zaf rfl (zab (by decide)) rfl (fun K hK r => ?_)
      simp only [zaU, eX, ↓reduceIte, Nat.reduceEqDiff, Int.reduceToNat]
      refine hK _ _ ?_; clear hK K
     |refine zag rfl (zab (by decide)) rfl ?_
      simp only [eX, ↓reduceIte, Nat.reduceEqDiff, Int.reduceToNat]
     first
     |refine zaf rfl (zab (by decide)) rfl (fun K hK r => ?_)
      simp only [zbn, List.map_toArray, List.map_cons, List.map_nil, eX, ↓reduceIte, Nat.reduceEqDiff, Int.reduceToNat]
      refine zbm (vs := [_, _, _, _]) Try.underlying22 sz5 zr5 rfl bsA (by first | decide | (simp; done)) ?_
      simp only [List.flatMap_cons, List.flatMap_nil, Value.cells, List.append_nil, List.cons_append, List.nil_append, List.length_cons, List.length_nil, Nat.zero_add, Nat.reduceAdd]
      intro b27 hb27
      try have n27_b5 : b5 ≠ b27 := zai hbA hb27
      have f27_H : H b27 = none := zaj lhA hb27
      try simp only [eX, ↓reduceIte, Nat.reduceEqDiff, Int.reduceToNat]
      refine hK _ _ ?_; clear hK K
     |refine zag rfl (zab (by decide)) rfl ?_
      simp only [eX, ↓reduceIte, Nat.reduceEqDiff, Int.reduceToNat]
     first
     |refine zaf rfl (zab (by decide)) rfl (fun K hK r => ?_)
      simp only [x_convert, eX, ↓reduceIte, Nat.reduceEqDiff, Int.reduceToNat]
      refine Lt_convSS Try.underlying22 Try.underlying5 hbA ?_
      try simp only [upd_upd]
      refine hK _ _ ?_; clear hK K
     |refine zag rfl (zab (by decide)) rfl ?_
      simp only [eX, ↓reduceIte, Nat.reduceEqDiff, Int.reduceToNat]
     first
     |refine zaf rfl (zab (by decide)) rfl (fun K hK r => ?_)
      simp only [zaT _ bd14, List.map_toArray, List.map_cons, List.map_nil, eX, ↓reduceIte, Nat.reduceEqDiff, Int.reduceToNat]
      have hA27 := hA6.put (hA6.fresh hb27) (.cells #[.int .u8 116, .int .u8 101, .int .u8 120, .int .u8 116] 5 (4, 5))
      refine (saveL hA27 hs0 (by omega) (by decide) (by decide) 1 1 (some ⟨b27, 0, none⟩) 4 alB ⟨rfl, .inr ⟨b27, 0, 4, _, _, _, rfl, zax _ _ _, by simp [alB], by simp [alB]⟩⟩ (by decide) (by decide)).mono ?_
      rintro v29 H29 ⟨rfl, F29, hS29⟩
      have hS29' : Stn _ H29 F29 p alS := hS29
      have lH29 : Le H H29 := Le.trans (Le.trans (le_upd _ _ _ hb5) (le_upd _ _ _ (zaj hO6 hb27))) hS29.old
      rw [al_up.1]
      try simp only [eX, ↓reduceIte, Nat.reduceEqDiff, Int.reduceToNat]
      refine hK _ _ ?_; clear hK K
     |refine zag rfl (zab (by decide)) rfl ?_
      simp only [eX, ↓reduceIte, Nat.reduceEqDiff, Int.reduceToNat]
     first
     |refine zaf rfl (zab (by decide)) rfl (fun K hK r => ?_)
      simp only [zaF, zaH, g_bool, zbo, zbk, g_slice, g_map, g_func, zbl, g_err, g_iface, zbe, g_nil_r, g_nil_l, eX, ↓reduceIte, Nat.reduceEqDiff, Int.reduceToNat]
      first | rw [b_err_neq _ _ Try.underlying33] | (rw [e_neq _ _ _ _ (by simp), q_equal]; first | rw [q_iface_nil _ _ _ Try.underlying33] | rw [q_nil_iface _ _ _ Try.underlying33] | rw [q_nil_nil _ _ _ Try.underlying33])
      try simp only [eX, ↓reduceIte, Nat.reduceEqDiff, Int.reduceToNat]
      refine hK _ _ ?_; clear hK K
     |refine zag rfl (zab (by decide)) rfl ?_
      simp only [eX, ↓reduceIte, Nat.reduceEqDiff, Int.reduceToNat]
     refine zac (fun K hK r => ?_)
     simp only [zbp, zaZ, HL.ite_bool, if_true, if_false, Bool.false_eq_true, eX, ↓reduceIte, Nat.reduceEqDiff, Int.reduceToNat]
     refine hK _ _ ?_; clear hK K
     refine zae ?_
     try simp only [Ex.thnH, Ex.inBlockH, ↓reduceIte, Nat.reduceEqDiff]
     refine hK4 _ _ ?_; try clear hK4 K4
     refine zaG (fun r => rfl) (fun c31 => ?_) (fun c31 => ?_)
     ·exfalso; exact cnA c31
     refine zaO ?_
     try simp only [Ex.thnH, Ex.inBlockH, ↓reduceIte, Nat.reduceEqDiff]
     refine hK3 _ _ ?_; try clear hK3 K3
     refine zad (fun K5 hK5 => ?_)
     refine zaa ?_
     refine zam rfl ?_
     refine zac (fun K hK r => ?_)
     simp only [zaT _ bd23, List.map_toArray, List.map_cons, List.map_nil, eX, ↓reduceIte, Nat.reduceEqDiff, Int.reduceToNat]
     refine (loadL hS29' al_sm (by omega) (by rw [al_up.2.1.sz0]; decide) (by rw [al_up.2.1.sz0]; decide) 1 1 4 (fun k _ => al_rb _) (by omega) (by omega)).mono ?_
     rintro v34 H34 ⟨l34, x34, rs34, rfl, ho34, _⟩
     rw [al_load] at ho34 ⊢
     obtain ⟨xa, xc, rfl⟩ := ho34.holds.form
     have lH34 : Le H H34 := Le.trans lH29 l34
     try simp only [eX, ↓reduceIte, Nat.reduceEqDiff, Int.reduceToNat]
     refine hK _ _ ?_; clear hK K
     refine zam rfl ?_
     refine zac (fun K hK r => ?_)
     simp only [zaW, zaX, List.getElem?_toArray, List.getElem?_cons_zero, List.getElem?_cons_succ, zal, eX, ↓reduceIte, Nat.reduceEqDiff, Int.reduceToNat]
     refine hK _ _ ?_; clear hK K
     refine zac (fun K hK r => ?_)
     simp only [zaW, zaX, List.getElem?_toArray, List.getElem?_cons_zero, List.getElem?_cons_succ, zal, eX, ↓reduceIte, Nat.reduceEqDiff, Int.reduceToNat]
     refine hK _ _ ?_; clear hK K
     refine zao rfl ?_
     refine zao rfl ?_
     refine zae ?_
     try simp only [Ex.thnH, Ex.inBlockH, ↓reduceIte, Nat.reduceEqDiff]
     refine hK5 _ _ ?_; try clear hK5 K5
     refine zad (fun K6 hK6 => ?_)
     refine zaa ?_
     refine zam rfl ?_
     refine zac (fun K hK r => ?_)
     simp only [zaF, zaH, g_bool, zbo, zbk, g_slice, g_map, g_func, zbl, g_err, g_iface, zbe, g_nil_r, g_nil_l, eX, ↓reduceIte, Nat.reduceEqDiff, Int.reduceToNat]
     first | rw [b_err_eql _ _ Try.underlying33] | (rw [e_eql _ _ _ _ (by simp), q_equal]; first | rw [q_iface_nil _ _ _ Try.underlying33] | rw [q_nil_iface _ _ _ Try.underlying33] | rw [q_nil_nil _ _ _ Try.underlying33])
     try simp only [eX, ↓reduceIte, Nat.reduceEqDiff, Int.reduceToNat]
     refine hK _ _ ?_; clear hK K
     refine zam rfl ?_
     (first | refine zbc (d := 39) rfl (fun g39 => ?_) (fun g39 => ?_) | skip)
     all_goals try (exfalso; exact cnA g39)
     all_goals (try simp only [decide_eq_true_eq, decide_eq_false_iff_not, Bool.not_eq_true, Bool.not_eq_false, Bool.and_eq_true, Bool.or_eq_true, Bool.or_eq_false_iff, Bool.not_eq_eq_eq_not, Bool.not_true, Bool.not_false] at g39)
     all_goals
      try simp only [eX, ↓reduceIte, Nat.reduceEqDiff, Int.reduceToNat]
      first
      |refine zaf rfl (zab (by decide)) rfl (fun K hK r => ?_)
       simp only [zaU, eX, ↓reduceIte, Nat.reduceEqDiff, Int.reduceToNat]
       refine hK _ _ ?_; clear hK K
      |refine zag rfl (zab (by decide)) rfl ?_
       simp only [eX, ↓reduceIte, Nat.reduceEqDiff, Int.reduceToNat]
      first
      |refine zaf rfl (zab (by decide)) rfl (fun K hK r => ?_)
       simp only [x_convert, eX, ↓reduceIte, Nat.reduceEqDiff, Int.reduceToNat]
       refine Lt_convBS Try.underlying22 Try.underlying5 Try.underlying9 (l := alB) ho34.holds ?_
       refine hK _ _ ?_; clear hK K
      |refine zag rfl (zab (by decide)) rfl ?_
       simp only [eX, ↓reduceIte, Nat.reduceEqDiff, Int.reduceToNat]
      first
      |refine zaf rfl (zab (by decide)) rfl (fun K hK r => ?_)
       simp only [zaF, zbo, b_seql, eX, ↓reduceIte, Nat.reduceEqDiff, Int.reduceToNat]
       rw [show ((strOf alB).toList == (ByteArray.mk #[116, 101, 120, 116]).toList) = true from by kernel_rfl]
       refine hK _ _ ?_; clear hK K
      |refine zag rfl (zab (by decide)) rfl ?_
       simp only [eX, ↓reduceIte, Nat.reduceEqDiff, Int.reduceToNat]
      refine zac (fun K hK r => ?_)
      simp only [zbp, zaZ, HL.ite_bool, if_true, if_false, Bool.false_eq_true, eX, ↓reduceIte, Nat.reduceEqDiff, Int.reduceToNat]
      refine hK _ _ ?_; clear hK K
      refine zao rfl ?_
      refine zae ?_
      try simp only [Ex.thnH, Ex.inBlockH, ↓reduceIte, Nat.reduceEqDiff]
      refine hK6 _ _ ?_; try clear hK6 K6
      refine zaR ?_
      try simp only [Ex.thnH, Ex.inBlockH, ↓reduceIte, Nat.reduceEqDiff]
      refine ⟨[_], ⟨rfl, trivial⟩, H, lH34, ?_, rfl⟩
      first | rfl | (simp; done)
end Go.Proofs.Ytcjdkfhmlnfedaa.HL
end
section
namespace Go.Proofs.Ytcjdkfhmlnfedaa.HL
open Go Go.Proofs
set_option linter.unusedSimpArgs false
set_option linter.unusedVariables false
attribute [local irreducible] Lt Lq CW OW TW CallH
theorem Kp.plain (k : Kp) : PlainL k.c := PlainL.cons (plain_int _ _) (PlainL.cons (plain_int _ _) (PlainL.cons (plain_int _ _) PlainL.nil))
theorem take_next {l : List Kp} {k : Nat} (hk : k < l.length) : kps (l.take (k + 1)) = kps (l.take k) ++ (l.getD k default).c := by
  rw [List.take_add_one, List.getElem?_eq_getElem hk, List.getD_eq_getElem?_getD, List.getElem?_eq_getElem hk]
  simp only [kps, List.flatMap_append, Option.toList_some, List.flatMap_cons, List.flatMap_nil, List.append_nil, Option.getD_some]
set_option maxRecDepth 100000 in
set_option maxHeartbeats 4000000 in
theorem keeps_ok (H : Hp) (a : Option Addr) (cap : Nat) (l : List Kp) (hv : Holds H 3 (.slice a l.length cap) l.length (kps l)) (hl : l.length ≤ 1000) : CallH Try.prog 18 #[.slice a l.length cap] H (fun v H' => Le H H' ∧ ∃ rs, OwnS H' 110 3 v l.length (kps l) rs ∧ ∀ r, rs = some r → H r = none) := by
 refine zaB (l := [_]) (rl := [.tmp 2]) (n := 19) Try.func18 rfl rfl rfl rfl rfl ?_
 simp only [envOf, Nat.reduceAdd]
 refine zad (fun K1 hK1 => ?_)
 refine zaa ?_
 refine zao rfl ?_
 refine zae ?_
 try simp only [Ex.thnH, Ex.inBlockH, ↓reduceIte, Nat.reduceEqDiff]
 refine hK1 _ _ ?_; try clear hK1 K1
 refine zad (fun K2 hK2 => ?_)
 refine zaa ?_
 refine zac (fun K hK r => ?_)
 simp only [zbn, List.map_toArray, List.map_cons, List.map_nil, eX, ↓reduceIte, Nat.reduceEqDiff, Int.reduceToNat]
 refine zbm (vs := []) Try.underlying54 sz110 zr110 rfl bsA (by first | decide | (simp; done)) ?_
 simp only [List.flatMap_cons, List.flatMap_nil, Value.cells, List.append_nil, List.cons_append, List.nil_append, List.length_cons, List.length_nil, Nat.zero_add, Nat.reduceAdd]
 intro b6 hb6
 have f6_H : H b6 = none := zaj lhA hb6
 try simp only [eX, ↓reduceIte, Nat.reduceEqDiff, Int.reduceToNat]
 refine hK _ _ ?_; clear hK K
 refine zao rfl ?_
 refine zae ?_
 try simp only [Ex.thnH, Ex.inBlockH, ↓reduceIte, Nat.reduceEqDiff]
 refine hK2 _ _ ?_; try clear hK2 K2
 refine zad (fun K3 hK3 => ?_)
 refine zad (fun K4 hK4 => ?_)
 refine zaa ?_
 refine zam rfl ?_
 refine zac (fun K hK r => ?_)
 simp only [zaM, l_len, List.map_toArray, List.map_cons, List.map_nil, zaS _ _ Try.underlying46, eX, ↓reduceIte, Nat.reduceEqDiff, Int.reduceToNat]
 refine hK _ _ ?_; clear hK K
 refine zam rfl ?_
 refine zae ?_
 try simp only [Ex.thnH, Ex.inBlockH, ↓reduceIte, Nat.reduceEqDiff]
 refine hK4 _ _ ?_; try clear hK4 K4
 refine zaV ?_
 refine CW_loop (fun m e H_ => ∃ (k : Nat) (v : Value) (rs : Option Nat), k ≤ l.length ∧ m = l.length - k ∧ Le H H_ ∧ OwnS H_ 110 3 v k (kps (l.take k)) rs ∧ (∀ r, rs = some r → H r = none) ∧ Env.has [(3, v), (7, .slice a l.length cap), (8, .int .i64 l.length), (9, .int .i64 k)] e) (l.length) ?_ ?_
 ·skip
  exact ⟨0, _, some b6, by omega, by omega, lhA, ⟨by simp, .inr ⟨b6, 0, #[], rfl, zax _ _ _, Nat.le_refl _, by simp, by simp, rfl⟩⟩, (fun r hr => by cases hr; exact f6_H), rfl, rfl, rfl, rfl, trivial⟩
 intro m_ e_ H_ hI_
 obtain ⟨k, v, rs, hk, rfl, hlH, hO, hrs, he⟩ := hI_
 refine CW_env he.sub ?_; clear he e_
 obtain ⟨va, vc, rfl⟩ := hO.holds.form
 refine zad (fun K5 hK5 => ?_)
 refine zaa ?_
 refine zac (fun K hK r => ?_)
 simp (disch := (first | omega | decide)) only [zaF, zaH, b_lss, zaq, zar, zat, zau, zas, zav, Bool.not_true, Bool.not_false, eX, ↓reduceIte, Nat.reduceEqDiff, Int.reduceToNat]
 refine hK _ _ ?_; clear hK K
 refine zae ?_
 try simp only [Ex.thnH, Ex.inBlockH, ↓reduceIte, Nat.reduceEqDiff]
 refine hK5 _ _ ?_; try clear hK5 K5
 refine zad (fun K6 hK6 => ?_)
 refine zaG (fun r => rfl) (fun c10 => ?_) (fun c10 => ?_)
 ·first
  |(exfalso; exact cnA c10; done)
  |skip
   (try simp only [decide_eq_true_eq, decide_eq_false_iff_not, Bool.not_eq_true, Bool.not_eq_false, Bool.and_eq_true, Bool.or_eq_true, Bool.or_eq_false_iff, Bool.not_eq_eq_eq_not, Bool.not_true, Bool.not_false] at c10)
   obtain ⟨bw, ow, cw, Tw, Fw, ew, hbw, hsw, atw⟩ := hv.at (by omega)
   have mm := Nat.mul_le_mul_right 3 (show k + 1 ≤ l.length by omega)
   refine zaO ?_
   try simp only [Ex.thnH, Ex.inBlockH, ↓reduceIte, Nat.reduceEqDiff]
   refine hK6 _ _ ?_; try clear hK6 K6
   refine zad (fun K7 hK7 => ?_)
   refine zaV ?_
   refine zad (fun K8 hK8 => ?_)
   refine zaa ?_
   refine zac (fun K hK r => ?_)
   simp only [zaK, eX, ↓reduceIte, Nat.reduceEqDiff, Int.reduceToNat]
   refine zbi Try.underlying46 sz113 ew ixA ixA ?_
   try simp only [Int.toNat_natCast]
   refine hK _ _ ?_; clear hK K
   refine zac (fun K hK r => ?_)
   simp only [zan, eX, ↓reduceIte, Nat.reduceEqDiff, Int.reduceToNat]
   refine zaC Try.underlying113 rfl sz113 (hlH _ _ hbw) (by omega) ?_
   rw [ext_at Kp.len atw rfl k (by omega) hsw]
   refine hK _ _ ?_; clear hK K
   refine zac (fun K hK r => ?_)
   simp only [x_alloc, zr113, zal, Value.cells, eX, ↓reduceIte, Nat.reduceEqDiff, Int.reduceToNat]
   intro b5 hb5
   try have n5_b6 : b6 ≠ b5 := zai hbA hb5
   have f5_H : H b5 = none := zaj lhA hb5
   try simp only [eX, ↓reduceIte, Nat.reduceEqDiff, Int.reduceToNat]
   refine hK _ _ ?_; clear hK K
   refine zbq rfl (zaJ) (fun K hK r => ?_)
   simp only [zaL, eX, ↓reduceIte, Nat.reduceEqDiff, Int.reduceToNat]
   first | refine zaz sz113 bdA hbA bdA plA (by decide) ?_ | refine zaI sz113 bdA hbA bdA plA (by decide) ?_
   try simp only [eX, ↓reduceIte, Nat.reduceEqDiff, Int.reduceToNat]
   refine hK _ _ ?_; clear hK K
   refine zae ?_
   try simp only [Ex.thnH, Ex.inBlockH, ↓reduceIte, Nat.reduceEqDiff]
   refine hK8 _ _ ?_; try clear hK8 K8
   refine zaa ?_
   refine zam rfl ?_
   refine zac (fun K hK r => ?_)
   simp only [zan, eX, ↓reduceIte, Nat.reduceEqDiff, Int.reduceToNat]
   first | refine zaN Try.underlying113 rfl sz113 hbA bdA ?_ | refine zaC Try.underlying113 rfl sz113 hbA bdA ?_
   try simp only [List.extract_toArray, List.extract_eq_take_drop, Nat.zero_add, Nat.reduceAdd, Nat.reduceSub, Nat.sub_zero, List.drop_succ_cons, List.drop_zero, List.take_succ_cons, List.take_zero, List.take_nil, List.drop_nil]
   try simp only [eX, ↓reduceIte, Nat.reduceEqDiff, Int.reduceToNat]
   refine hK _ _ ?_; clear hK K
   refine zac (fun K hK r => ?_)
   simp only [zbn, List.map_toArray, List.map_cons, List.map_nil, eX, ↓reduceIte, Nat.reduceEqDiff, Int.reduceToNat]
   refine zbm (vs := [_]) Try.underlying54 sz110 zr110 rfl bsA (by first | decide | (simp; done)) ?_
   simp only [List.flatMap_cons, List.flatMap_nil, Value.cells, List.append_nil, List.cons_append, List.nil_append, List.length_cons, List.length_nil, Nat.zero_add, Nat.reduceAdd]
   intro b15 hb15
   try have n15_b6 : b6 ≠ b15 := zai hbA hb15
   try have n15_b5 : b5 ≠ b15 := zai hbA hb15
   have f15_H : H b15 = none := zaj lhA hb15
   try simp only [eX, ↓reduceIte, Nat.reduceEqDiff, Int.reduceToNat]
   refine hK _ _ ?_; clear hK K
   refine zac (fun K hK r => ?_)
   simp only [zaM, l_append, List.map_toArray, List.map_cons, List.map_nil, eX, ↓reduceIte, Nat.reduceEqDiff, Int.reduceToNat]
   have h5 : H_ b5 = none := hb5
   have n515 : b5 ≠ b15 := zai hbA hb15
   have h15 : H_ b15 = none := zaj (le_upd _ _ _ h5) hb15
   refine Lt_append Try.underlying54 Try.underlying54 (by simp) sz110 by110 (by decide) zr110 rfl _ (n := k) (m := 1) (ds := (l.getD k default).c) ((hO.make h5).make hb15) (fun Kx => len_slice _ _ _ Kx) (fun Kx => first_slice (w := 3) (n := 1) (cs := (l.getD k default).c) ⟨rfl, .inr ⟨b15, 0, 1, _, _, _, rfl, hbA, by simp, by simp⟩⟩ Kx) rfl (Kp.plain _) (by omega) ?_
   intro v16 H16 rs16 hg16 ho16 hr16
   obtain ⟨wa16, wc16, rfl⟩ := ho16.holds.form
   rw [← take_next (by omega)] at ho16
   have l16 : Le H H16 := fun z o hz => hg16.known z o ((zaA _ _ (zai (hlH _ _ hz) h15)).trans ((zaA _ _ (zai (hlH _ _ hz) h5)).trans (hlH _ _ hz))) (fun e => by rw [hrs z e] at hz; cases hz)
   have hrs16 : ∀ r, rs16 = some r → H r = none := fun r e => (hr16 r e).elim (hrs r) (fun hn => zaj hlH (upd_none (upd_none hn)))
   refine hK _ _ ?_; clear hK K
   refine zao rfl ?_
   refine zae ?_
   try simp only [Ex.thnH, Ex.inBlockH, ↓reduceIte, Nat.reduceEqDiff]
   refine hK7 _ _ ?_; try clear hK7 K7
   refine zaa ?_
   refine zac (fun K hK r => ?_)
   simp (disch := (first | omega | decide)) only [zaF, zaH, b_add, zaw, zaE, zaD, zaQ, eX, ↓reduceIte, Nat.reduceEqDiff, Int.reduceToNat]
   refine hK _ _ ?_; clear hK K
   refine zam rfl ?_
   refine zae ?_
   try simp only [Ex.thnH, Ex.inBlockH, ↓reduceIte, Nat.reduceEqDiff]
   exact ⟨l.length - (k + 1), by omega, k + 1, _, rs16, by omega, rfl, l16, ho16, hrs16, rfl, rfl, rfl, rfl, trivial⟩
 ·first
  |(exfalso; exact cnA c10; done)
  |skip
   (try simp only [decide_eq_true_eq, decide_eq_false_iff_not, Bool.not_eq_true, Bool.not_eq_false, Bool.and_eq_true, Bool.or_eq_true, Bool.or_eq_false_iff, Bool.not_eq_eq_eq_not, Bool.not_true, Bool.not_false] at c10)
   have hkn : k = l.length := by omega
   refine CW_exit ?_
   try simp only [Ex.thnH, Ex.inBlockH, ↓reduceIte, Nat.reduceEqDiff]
   refine hK3 _ _ ?_; try clear hK3 K3
   refine zad (fun K9 hK9 => ?_)
   refine zaa ?_
   refine zam rfl ?_
   refine zao rfl ?_
   refine zae ?_
   try simp only [Ex.thnH, Ex.inBlockH, ↓reduceIte, Nat.reduceEqDiff]
   refine hK9 _ _ ?_; try clear hK9 K9
   refine zaR ?_
   try simp only [Ex.thnH, Ex.inBlockH, ↓reduceIte, Nat.reduceEqDiff]
   subst hkn
   rw [List.take_of_length_le (Nat.le_refl _)] at hO
   exact ⟨[_], ⟨rfl, trivial⟩, _, Le.refl _, hlH, rs, hO, hrs⟩
end Go.Proofs.Ytcjdkfhmlnfedaa.HL
end
section
namespace Go.Proofs.Ytcjdkfhmlnfedaa.HL
open Go Go.Proofs
set_option linter.unusedSimpArgs false
set_option linter.unusedVariables false
attribute [local irreducible] Lt Lq CW OW TW CallH
def mixS (x old : Sec) (b : Nat) : Sec := ⟨x.b.take b ++ old.b.drop b, by have := x.h; have := old.h; simp; omega⟩
theorem mix_zero (x old : Sec) : mixS x old 0 = old := Sec.ext (by simp [mixS])
theorem mix_all (x old : Sec) : mixS x old 64 = x := Sec.ext (by
  have h1 : x.b.take 64 = x.b := List.take_of_length_le (by rw [x.h]; exact Nat.le_refl _)
  have h2 : old.b.drop 64 = [] := List.drop_eq_nil_of_le (by rw [old.h]; exact Nat.le_refl _)
  simp [mixS, h1, h2])
theorem torn_mix (x old : Sec) (t : Int) : torn x old t = mixS x old (if 0 < t ∧ t < 64 then t.toNat else 64) := by
  unfold torn
  split
  · rfl
  · rw [mix_all]
theorem mix_next (x old : Sec) (b : Nat) (hb : b < 64) : (mixS x old (b + 1)).b = (mixS x old b).b.set b (x.b.getD b 0) := by
  have hx := x.h
  have ho := old.h
  apply List.ext_getElem?
  intro i
  simp only [mixS, List.getElem?_set, List.getElem?_append, List.length_take, List.getElem?_take, List.getElem?_drop, List.length_append, List.length_drop, hx, ho]
  have e1 : min (b + 1) 64 = b + 1 := by omega
  have e2 : min b 64 = b := by omega
  rw [e1, e2]
  by_cases h1 : b = i
  · subst h1
    simp [List.getD_eq_getElem?_getD, List.getElem?_eq_getElem (show b < x.b.length by omega), hb]
    omega
  · rw [if_neg h1]
    by_cases h2 : i < b
    · have h3 : i < b + 1 := by omega
      simp [h2, h3]
    · have h3 : ¬ i < b + 1 := by omega
      have e3 : b + 1 + (i - (b + 1)) = b + (i - b) := by omega
      simp [h2, h3, e3]
def crW (kept : Nat → Option Int) (ws : List Wt) (sec : List Sec) : Nat → List Sec
  | 0 => sec
  | n + 1 => match kept n with
    | none => crW kept ws sec n
    | some t => (crW kept ws sec n).set (ws.getD n default).at_.toNat (torn (ws.getD n default).x ((crW kept ws sec n).getD (ws.getD n default).at_.toNat default) t)
theorem crW_len (kept : Nat → Option Int) (ws : List Wt) (sec : List Sec) : ∀ n, (crW kept ws sec n).length = sec.length
  | 0 => rfl
  | n + 1 => by
    unfold crW
    split
    · exact crW_len kept ws sec n
    · rw [List.length_set]; exact crW_len kept ws sec n
def RDv.settle (d : RDv) (kept : Nat → Option Int) : RDv := ⟨crW kept d.wait d.sec d.wait.length, []⟩
def RSt.cr (m : RSt) (l : List Kp) : RSt := ⟨m.dv.mapIdx (fun i d => d.settle (fun n => keepOf l i n)), m.steps, m.left, false, false⟩
end Go.Proofs.Ytcjdkfhmlnfedaa.HL
end
section
namespace Go.Proofs.Ytcjdkfhmlnfedaa.HL
open Go Go.Proofs
set_option linter.unusedSimpArgs false
set_option linter.unusedVariables false
attribute [local irreducible] Lt Lq CW OW TW CallH
structure RlD (s : Dv) (m : RDv) : Prop where
  sz : s.size = m.sec.length
  su : ∀ i, s.sure i = if 0 ≤ i ∧ i < m.sec.length then m.sec.getD i.toNat default else Sec.zero
  wa : s.wait = m.wait
  at_ : ∀ k, k < m.wait.length → 0 ≤ (m.wait.getD k default).at_ ∧ (m.wait.getD k default).at_ < m.sec.length
structure Rl (s : St) (m : RSt) : Prop where
  st : s.steps = m.steps
  go : s.gone = m.gone
  ar : s.armed = m.armed
  le : m.armed = true → s.left = m.left ∧ 0 ≤ m.left
  len : s.dv.length = m.dv.length
  dv : ∀ i, i < m.dv.length → RlD (s.dv.getD i default) (m.dv.getD i default)
theorem Rl.step {s : St} {m : RSt} (h : Rl s m) (hl : m.armed = true → m.left ≤ 9223372036854775807) : s.step.2 = m.step.2 ∧ Rl s.step.1 m.step.1 := by
  have hs := step_dv s
  have hm := m.step_dv
  unfold St.step RSt.step at *
  by_cases hg : m.gone = true
  · rw [if_pos (.inl (by rw [h.go]; exact hg)), if_pos hg]
    exact ⟨rfl, ⟨h.st, by rw [hg], h.ar, h.le, h.len, h.dv⟩⟩
  · by_cases ha : m.armed = true ∧ m.left = 0
    · have h1 := h.le ha.1
      rw [if_pos (.inr ⟨by rw [h.ar]; exact ha.1, by omega⟩), if_neg hg, if_pos ha]
      exact ⟨rfl, ⟨h.st, rfl, h.ar, h.le, h.len, h.dv⟩⟩
    · have hn : ¬ (s.gone = true ∨ (s.armed = true ∧ s.left ≤ 0)) := by
        rintro (h1 | ⟨h1, h2⟩)
        · rw [h.go] at h1; exact hg h1
        · rw [h.ar] at h1
          have h3 := h.le h1
          exact ha ⟨h1, by omega⟩
      rw [if_neg hn, if_neg hg, if_neg ha]
      refine ⟨rfl, ⟨by show IntKind.i64.wrap _ = IntKind.i64.wrap _; rw [h.st], h.go, h.ar, fun h1 => ?_, h.len, h.dv⟩⟩
      have h3 := h.le h1
      have h4 := hl h1
      have h5 : m.left ≠ 0 := fun e => ha ⟨h1, e⟩
      show IntKind.i64.wrap (s.left - 1) = (if m.armed = true then IntKind.i64.wrap (m.left - 1) else m.left) ∧ 0 ≤ (if m.armed = true then IntKind.i64.wrap (m.left - 1) else m.left)
      rw [if_pos h1, h3.1, zaw _ (by omega) (by omega)]
      exact ⟨rfl, by omega⟩
theorem Rl.has {s : St} {m : RSt} (h : Rl s m) (dev i : Int) : s.has dev i = m.has dev i := by
  unfold St.has RSt.has
  rw [h.len]
  by_cases hd : 0 ≤ dev ∧ dev < m.dv.length
  · rw [(h.dv dev.toNat (by omega)).sz]
  · rw [decide_eq_false hd, Bool.false_and, Bool.false_and]
end Go.Proofs.Ytcjdkfhmlnfedaa.HL
end
section
namespace Go.Proofs.Ytcjdkfhmlnfedaa.HL
open Go Go.Proofs
set_option linter.unusedSimpArgs false
set_option linter.unusedVariables false
attribute [local irreducible] Lt Lq CW OW TW CallH
theorem getD_set' {α : Type} [Inhabited α] {l : List α} {k : Nat} {d : α} (i : Nat) : (l.set k d).getD i default = if i = k ∧ k < l.length then d else l.getD i default := by
  simp only [List.getD_eq_getElem?_getD, List.getElem?_set]
  by_cases h : k = i
  · subst h
    by_cases h2 : k < l.length
    · simp [h2]
    · simp [h2, List.getElem?_eq_none (by omega : l.length ≤ k)]
  · rw [if_neg h, if_neg (by rintro ⟨rfl, _⟩; exact h rfl)]
theorem Rl.set {s t : St} {m q : RSt} (h : Rl s m) {k : Nat} {d : Dv} {e : RDv} (hd : RlD d e) (ht : t.dv = s.dv.set k d) (hq : q.dv = m.dv.set k e) (h1 : t.steps = q.steps) (h2 : t.gone = q.gone) (h3 : t.armed = q.armed) (h4 : q.armed = true → t.left = q.left ∧ 0 ≤ q.left) : Rl t q := by
  refine ⟨h1, h2, h3, h4, by rw [ht, hq, List.length_set, List.length_set]; exact h.len, fun i hi => ?_⟩
  rw [hq, List.length_set] at hi
  rw [ht, hq, getD_set', getD_set', h.len]
  by_cases e : i = k
  · rw [if_pos ⟨e, by omega⟩, if_pos ⟨e, by omega⟩]; exact hd
  · rw [if_neg (fun x => e x.1), if_neg (fun x => e x.1)]; exact h.dv i hi
theorem RlD.put {s : Dv} {m : RDv} (h : RlD s m) {i : Int} (x : Sec) (hi : 0 ≤ i ∧ i < m.sec.length) : RlD (s.put ⟨i, x⟩) ⟨m.sec, m.wait ++ [⟨i, x⟩]⟩ := by
  refine ⟨h.sz, h.su, by show s.wait ++ _ = _; rw [h.wa], fun k hk => ?_⟩
  simp only [List.length_append, List.length_cons, List.length_nil] at hk
  by_cases e : k < m.wait.length
  · have : (m.wait ++ [(⟨i, x⟩ : Wt)]).getD k default = m.wait.getD k default := by
      simp [List.getD_eq_getElem?_getD, List.getElem?_append_left e]
    rw [this]; exact h.at_ k e
  · have e2 : k = m.wait.length := by omega
    have : (m.wait ++ [(⟨i, x⟩ : Wt)]).getD k default = ⟨i, x⟩ := by
      subst e2; simp [List.getD_eq_getElem?_getD]
    rw [this]; exact hi
theorem Rl.put {s : St} {m : RSt} (h : Rl s m) (hl : m.armed = true → m.left ≤ 9223372036854775807) (dev i : Int) (x : Sec) : Rl (s.wr dev i x).1 (m.put dev i x).1 ∧ (m.put dev i x).2 = (s.wr dev i x).2.getD 0 := by
  obtain ⟨e2, hr⟩ := h.step hl
  have hh := h.has dev i
  rcases wr_cases s dev i x with ⟨a1, a2, a3⟩ | ⟨a1, a2, a3, a4⟩ | ⟨a1, a2, a3, a4⟩
  · rcases rput_cases m dev i x with ⟨_, b⟩ | ⟨b1, _⟩ | ⟨b1, _⟩
    · rw [a1, a2, b]; exact ⟨h, rfl⟩
    · rw [← hh, a3] at b1; cases b1
    · rw [← hh, a3] at b1; cases b1
  · rcases rput_cases m dev i x with ⟨b1, _⟩ | ⟨_, _, b⟩ | ⟨_, b1, _⟩
    · rw [← hh, a4] at b1; cases b1
    · rw [a1, a2, b]; exact ⟨hr, rfl⟩
    · rw [← e2, a3] at b1; cases b1
  · rcases rput_cases m dev i x with ⟨b1, _⟩ | ⟨_, b1, _⟩ | ⟨b0, _, b⟩
    · rw [← hh, a4] at b1; cases b1
    · rw [← e2, a3] at b1; cases b1
    · rw [a1, a2, b]
      unfold RSt.has at b0
      rw [Bool.and_eq_true, decide_eq_true_eq, decide_eq_true_eq] at b0
      refine ⟨h.set ((h.dv dev.toNat (by omega)).put x b0.2) rfl rfl hr.st hr.go hr.ar hr.le, rfl⟩
end Go.Proofs.Ytcjdkfhmlnfedaa.HL
end
section
namespace Go.Proofs.Ytcjdkfhmlnfedaa.HL
open Go Go.Proofs
set_option linter.unusedSimpArgs false
set_option linter.unusedVariables false
attribute [local irreducible] Lt Lq CW OW TW CallH
theorem RlD.stN {s : Dv} {m : RDv} (h : RlD s m) (kept : Nat → Option Int) : ∀ n, n ≤ m.wait.length → ∀ i, stN kept m.wait s.sure n i = if 0 ≤ i ∧ i < m.sec.length then (crW kept m.wait m.sec n).getD i.toNat default else Sec.zero
  | 0, _, i => h.su i
  | n + 1, hn, i => by
    have ih := RlD.stN h kept n (by omega)
    have ha := h.at_ n (by omega)
    cases hk : kept n with
    | none => simp only [Go.Proofs.Ytcjdkfhmlnfedaa.HL.stN, crW, hk]; exact ih i
    | some t =>
      simp only [Go.Proofs.Ytcjdkfhmlnfedaa.HL.stN, crW, hk]
      have hold : Go.Proofs.Ytcjdkfhmlnfedaa.HL.stN kept m.wait s.sure n (m.wait.getD n default).at_ = (crW kept m.wait m.sec n).getD (m.wait.getD n default).at_.toNat default := by rw [ih, if_pos ha]
      rw [hold]
      by_cases e : i = (m.wait.getD n default).at_
      · rw [if_pos e, e, if_pos ha, getD_set', if_pos ⟨rfl, by rw [crW_len]; omega⟩]
      · rw [if_neg e, ih i]
        by_cases hr : 0 ≤ i ∧ i < m.sec.length
        · rw [if_pos hr, if_pos hr, getD_set', if_neg (fun hc => e (by omega))]
        · rw [if_neg hr, if_neg hr]
theorem RlD.settle {s : Dv} {m : RDv} (h : RlD s m) (kept : Nat → Option Int) : RlD (s.settle kept) (m.settle kept) := by
  refine ⟨by show s.size = (crW _ _ _ _).length; rw [crW_len]; exact h.sz, fun i => ?_, rfl, fun k hk => by simp [RDv.settle] at hk⟩
  show Go.Proofs.Ytcjdkfhmlnfedaa.HL.stN kept s.wait s.sure s.wait.length i = _
  rw [h.wa, h.stN kept _ (Nat.le_refl _)]
  simp only [RDv.settle, crW_len]
theorem crW_done (ws : List Wt) (sec : List Sec) : ∀ n, n ≤ ws.length → crW (fun _ => some 0) ws sec n = doneL sec (ws.take n)
  | 0, _ => rfl
  | n + 1, hn => by
    rw [doneL_next sec ws n (by omega), ← crW_done ws sec n (by omega)]
    simp only [crW]
    rw [torn_not _ _ _ (by omega)]
theorem RlD.flush {s : Dv} {m : RDv} (h : RlD s m) : RlD (s.settle (fun _ => some 0)) ⟨doneL m.sec m.wait, []⟩ := by
  have := h.settle (fun _ => some 0)
  unfold RDv.settle at this
  rwa [crW_done _ _ _ (Nat.le_refl _), List.take_of_length_le (Nat.le_refl _)] at this
end Go.Proofs.Ytcjdkfhmlnfedaa.HL
end
section
namespace Go.Proofs.Ytcjdkfhmlnfedaa.HL
open Go Go.Proofs
set_option linter.unusedSimpArgs false
set_option linter.unusedVariables false
attribute [local irreducible] Lt Lq CW OW TW CallH
theorem Rl.flush {s : St} {m : RSt} (h : Rl s m) (hl : m.armed = true → m.left ≤ 9223372036854775807) (dev : Int) : Rl (s.fl dev).1 (m.fl dev).1 ∧ (m.fl dev).2 = (s.fl dev).2.getD 0 := by
  obtain ⟨e2, hr⟩ := h.step hl
  have hlen := h.len
  rcases fl_cases s dev with ⟨a1, a2, a3⟩ | ⟨a1, a2, a3, a4⟩ | ⟨a1, a2, a3, a4⟩
  · rcases rfl_cases m dev with ⟨_, b⟩ | ⟨b1, _⟩ | ⟨b1, _⟩
    · rw [a1, a2, b]; exact ⟨h, rfl⟩
    · exact absurd b1 (by rw [← hlen]; exact a3)
    · exact absurd b1 (by rw [← hlen]; exact a3)
  · rcases rfl_cases m dev with ⟨b1, _⟩ | ⟨_, _, b⟩ | ⟨_, b1, _⟩
    · exact absurd a4 (by rw [hlen]; exact b1)
    · rw [a1, a2, b]; exact ⟨hr, rfl⟩
    · rw [← e2, a3] at b1; cases b1
  · rcases rfl_cases m dev with ⟨b1, _⟩ | ⟨_, b1, _⟩ | ⟨b0, _, b⟩
    · exact absurd a4 (by rw [hlen]; exact b1)
    · rw [← e2, a3] at b1; cases b1
    · rw [a1, a2, b]
      exact ⟨h.set ((h.dv dev.toNat (by omega)).flush) rfl rfl hr.st hr.go hr.ar hr.le, rfl⟩
theorem Rl.crash {s : St} {m : RSt} (h : Rl s m) (l : List Kp) : Rl (s.cr l) (m.cr l) := by
  refine ⟨h.st, rfl, rfl, fun h1 => (by cases h1), by simp [St.cr, RSt.cr, h.len], fun i hi => ?_⟩
  have hi' : i < m.dv.length := by simpa [RSt.cr] using hi
  have hs : i < s.dv.length := by rw [h.len]; exact hi'
  have hd := h.dv i hi'
  have e1 : (s.cr l).dv.getD i default = (s.dv.getD i default).settle (fun n => keepOf l i n) := by
    simp [St.cr, List.getD_eq_getElem?_getD, List.getElem?_mapIdx, List.getElem?_eq_getElem hs]
  have e2 : (m.cr l).dv.getD i default = (m.dv.getD i default).settle (fun n => keepOf l i n) := by
    simp [RSt.cr, List.getD_eq_getElem?_getD, List.getElem?_mapIdx, List.getElem?_eq_getElem hi']
  rw [e1, e2]; exact hd.settle _
theorem Rl.read {s : St} {m : RSt} (h : Rl s m) (dev i : Int) : (m.rd dev i).1 = (s.rd dev i).1 ∧ (m.rd dev i).2 = (s.rd dev i).2.getD 0 := by
  unfold St.rd RSt.rd
  rw [h.go, h.has dev i]
  by_cases hg : m.gone = true
  · rw [if_pos hg, if_pos hg]; exact ⟨rfl, rfl⟩
  · rw [if_neg hg, if_neg hg]
    by_cases hh : m.has dev i = true
    · rw [if_pos hh, if_pos hh]
      refine ⟨?_, rfl⟩
      unfold RSt.has at hh
      rw [Bool.and_eq_true, decide_eq_true_eq, decide_eq_true_eq] at hh
      have hd := h.dv dev.toNat (by omega)
      unfold Dv.read
      rw [hd.wa, hd.su, if_pos hh.2]
    · rw [if_neg hh, if_neg hh]; exact ⟨rfl, rfl⟩
end Go.Proofs.Ytcjdkfhmlnfedaa.HL
end
section
namespace Go.Proofs.Ytcjdkfhmlnfedaa.HL
open Go Go.Proofs
set_option linter.unusedSimpArgs false
set_option linter.unusedVariables false
attribute [local irreducible] Lt Lq CW OW TW CallH
theorem OwnS.byte {H : Hp} {E : TypeId} {r n cap : Nat} {L : List Sec} {c : Array Value} {x old : Sec} {i b : Nat} (h : OwnS H E 64 (.slice (some ⟨r, 0, none⟩) n cap) n (secs (L.set i (mixS x old b))) (some r)) (hc : H r = some (.cells c E)) (hn : n = L.length) (hi : i < n) (hb : b < 64) : OwnS (H.upd r (.cells (c.setIfInBounds (i * 64 + b) (.int .u8 (x.b.getD b 0))) E)) E 64 (.slice (some ⟨r, 0, none⟩) n cap) n (secs (L.set i (mixS x old (b + 1)))) (some r) := by
  obtain ⟨h1, ⟨h2, _, _⟩ | ⟨r', cap', c', h3, h4, h5, h6, h7, h8⟩⟩ := h
  · cases h2
  · cases h3
    rw [hc] at h4; cases h4
    have m1 := Nat.mul_le_mul_right 64 (show i + 1 ≤ n by omega)
    have m2 := Nat.mul_le_mul_right 64 h5
    refine ⟨by rw [flat_size Sec.len, List.length_set, hn], .inr ⟨r, cap, _, rfl, zax _ _ _, h5, by simpa using h6, ?_, rfl⟩⟩
    have e : secs (L.set i (mixS x old (b + 1))) = (secs (L.set i (mixS x old b))).set (i * 64 + b) (.int .u8 (x.b.getD b 0)) := by
      have f1 : ∀ y : Sec, secs (L.set i y) = (secs L).take (i * 64) ++ y.c ++ (secs L).drop (i * 64 + 64) := fun y => flat_set Sec.len L i y (by omega)
      rw [f1, f1]
      have hl : ((secs L).take (i * 64)).length = i * 64 := by rw [List.length_take, flat_size Sec.len]; omega
      rw [List.append_assoc, List.append_assoc, List.set_append_right _ _ (by rw [hl]; omega), hl, Nat.add_sub_cancel_left, List.set_append_left _ _ (by rw [Sec.len]; omega)]
      congr 2
      simp only [Sec.c, u8s, mix_next x old b hb, List.map_set]
    rw [e, ← h7]
    simp only [Array.toList_extract, List.extract_eq_take_drop, Array.toList_setIfInBounds, List.drop_zero, Nat.sub_zero, List.take_set]
end Go.Proofs.Ytcjdkfhmlnfedaa.HL
end
section
namespace Go.Proofs.Ytcjdkfhmlnfedaa.HL
open Go Go.Proofs
set_option linter.unusedSimpArgs false
set_option linter.unusedVariables false
attribute [local irreducible] Lt Lq CW OW TW CallH
structure NC (H0 H : Hp) (D : List RDv) (k : Nat) (v : Value) (rs : Option Nat) (X : List RDX) (G : Hp) : Prop where
  len : X.length = k
  own : OwnS H 87 2 v k (X.flatMap RDX.c) rs
  ok : ∀ x ∈ X, x.ok G
  le : Le G H
  fr : ∀ b, G b ≠ none → H0 b = none
  frr : ∀ r, rs = some r → H0 r = none ∧ G r = none
  old : Le H0 H
  dv : rdv X = D.take k
theorem keepOf_at {l : List Kp} {q : Nat} (hq : q < l.length) {dev n : Int} (h1 : (l.getD q default).dev = dev) (h2 : (l.getD q default).n = n) (hno : ∀ t, t < q → ¬ ((l.getD t default).dev = dev ∧ (l.getD t default).n = n)) : keepOf l dev n = some (l.getD q default).tear := by
  unfold keepOf
  rw [find_at _ l q hq (by simp only [h1, h2, decide_true, Bool.and_self]) (fun t ht => ?_)]
  · rfl
  · have := hno t ht
    rw [Bool.and_eq_false_iff]
    simp only [decide_eq_false_iff_not]
    by_cases e : (l.getD t default).dev = dev
    · exact .inr (fun e2 => this ⟨e, e2⟩)
    · exact .inl e
theorem keepOf_no {l : List Kp} {dev n : Int} (hno : ∀ t, t < l.length → ¬ ((l.getD t default).dev = dev ∧ (l.getD t default).n = n)) : keepOf l dev n = none := by
  unfold keepOf
  rw [find_no _ l (fun t ht => ?_)]
  · rfl
  · have := hno t ht
    rw [Bool.and_eq_false_iff]
    simp only [decide_eq_false_iff_not]
    by_cases e : (l.getD t default).dev = dev
    · exact .inr (fun e2 => this ⟨e, e2⟩)
    · exact .inl e
end Go.Proofs.Ytcjdkfhmlnfedaa.HL
end
section
namespace Go.Proofs.Ytcjdkfhmlnfedaa.HL
open Go Go.Proofs
set_option linter.unusedSimpArgs false
set_option linter.unusedVariables false
attribute [local irreducible] Lt Lq CW OW TW CallH
theorem crW_no {kept : Nat → Option Int} {ws : List Wt} {sec : List Sec} {j : Nat} (h : kept j = none) : crW kept ws sec (j + 1) = crW kept ws sec j := by
  conv => lhs; unfold crW
  rw [h]
theorem crW_at {kept : Nat → Option Int} {ws : List Wt} {sec : List Sec} {j mo : Nat} {t : Int} (h : kept j = some t) (hm : mo = if 0 < t ∧ t < 64 then t.toNat else 64) : crW kept ws sec (j + 1) = (crW kept ws sec j).set (ws.getD j default).at_.toNat (mixS (ws.getD j default).x ((crW kept ws sec j).getD (ws.getD j default).at_.toNat default) mo) := by
  conv => lhs; unfold crW
  rw [h]
  simp only [torn_mix, hm]
theorem set_same {L : List Sec} {i : Nat} (h : i < L.length) (x : Sec) : L.set i (mixS x (L.getD i default) 0) = L := by
  rw [mix_zero, List.getD_eq_getElem?_getD, List.getElem?_eq_getElem h]
  simp
theorem cr_dv (m : RSt) (l : List Kp) (k : Nat) (hk : k < m.dv.length) : (m.cr l).dv.getD k default = ⟨crW (fun n => keepOf l (k : Int) n) (m.dv.getD k default).wait (m.dv.getD k default).sec (m.dv.getD k default).wait.length, []⟩ := by
  simp only [RSt.cr, List.getD_eq_getElem?_getD, List.getElem?_mapIdx, List.getElem?_eq_getElem hk, Option.map_some, Option.getD_some, RDv.settle]
theorem NC.next {H0 H HF : Hp} {D : List RDv} {k : Nat} {v : Value} {rs : Option Nat} {X : List RDX} {G : Hp} (h : NC H0 H D k v rs X G) (hk : k < D.length) {b : Nat} (hb : H b = none) {y : RDX} {o : Obj} (hy : y.ok (emptyHp.upd b o)) (hyd : y.d = D.getD k default) {v' : Value} {rs' : Option Nat}
    (hown : OwnS HF 87 2 v' (k + 1) (X.flatMap RDX.c ++ y.c) rs') (hfb : HF b = some o)
    (hkeep : ∀ x o, H x = some o → (G x ≠ none ∨ H0 x ≠ none) → HF x = some o) (hr : ∀ r, rs' = some r → rs = some r ∨ (H r = none ∧ r ≠ b)) :
    NC H0 HF D (k + 1) v' rs' (X ++ [y]) (G.upd b o) := by
  have hGb : G b = none := zaj h.le hb
  refine ⟨by simp [h.len], ?_, fun x hx => ?_, ?_, fun x hx => ?_, fun r e => ?_, fun x o hx => hkeep x o (h.old x o hx) (.inr (by rw [hx]; simp)), ?_⟩
  · rw [List.flatMap_append]
    simpa using hown
  · rcases List.mem_append.1 hx with h1 | h1
    · exact (h.ok x h1).le (le_upd _ _ _ hGb)
    · simp at h1
      subst h1
      exact hy.le (fun z oz hz => by
        by_cases e : z = b
        · subst e; rw [zax] at hz ⊢; exact hz
        · rw [zaA _ _ e] at hz; cases hz)
  · exact le_put (fun x o hx => hkeep x o (h.le x o hx) (.inl (by rw [hx]; simp))) hfb
  · by_cases e : x = b
    · subst e; exact zaj h.old hb
    · rw [zaA _ _ e] at hx; exact h.fr x hx
  · rcases hr r e with h1 | ⟨h1, h2⟩
    · refine ⟨(h.frr r h1).1, (zaA _ _ (fun e2 => ?_)).trans (h.frr r h1).2⟩
      subst e2; exact h.own.known r h1 hb
    · exact ⟨zaj h.old h1, (zaA _ _ h2).trans (zaj h.le h1)⟩
  · rw [List.take_add_one, List.getElem?_eq_getElem hk]
    simp [rdv, h.dv, hyd, List.getD_eq_getElem?_getD, List.getElem?_eq_getElem hk]
theorem wt_byte (w : Wt) {b : Nat} (hb : b < 64) : w.c.toArray[1 + b]? = some (.int .u8 (w.x.b.getD b 0)) := by
  have h := w.x.h
  rw [List.getElem?_toArray, Nat.add_comm]
  show w.x.c[b]? = _
  simp only [Sec.c, u8s, List.getElem?_map, List.getD_eq_getElem?_getD]
  rw [List.getElem?_eq_getElem (by omega)]
  rfl
end Go.Proofs.Ytcjdkfhmlnfedaa.HL
end
