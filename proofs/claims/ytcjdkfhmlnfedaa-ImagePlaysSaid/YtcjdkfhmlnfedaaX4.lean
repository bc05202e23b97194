/- Parts of the proof, one behind the other: R32, R33, R34, R35, R36, R37, R38, Md04, I30, I31, Md04b. -/
import Derived.Test.YtcjdkfhmlnfedaaX3
set_option linter.unusedSimpArgs false
set_option linter.unusedVariables false
section
namespace Go.Proofs.Ytcjdkfhmlnfedaa.HL
open Go Go.Proofs
set_option linter.unusedSimpArgs false
set_option linter.unusedVariables false
attribute [local irreducible] Lt Lq CW OW TW CallH
theorem wts_plain (l : List Wt) : PlainL (wts l) := fun v hv => by
  rw [List.mem_flatMap] at hv
  obtain ⟨w, _, hv⟩ := hv
  exact w.plain v hv
theorem secs_plain (l : List Sec) : PlainL (secs l) := fun v hv => by
  rw [List.mem_flatMap] at hv
  obtain ⟨w, _, hv⟩ := hv
  exact PlainL.ints _ _ v hv
theorem bwr_ok (H : Hp) (K : Value → Hp → Prop) (i : Int) (x : Sec) : Lt Try.prog (Instr.build 115 #[(0, .int .i64 i), (1, .agg x.c.toArray)]) H K = K (.agg (Wt.c ⟨i, x⟩).toArray) H := by
  rw [bp115]
  rw [fill_one rfl rfl (by simp)]
  rw [fill_many (l := x.c) (n := 64) rfl rfl x.len (by simp), fill_nil, zal]
  simp only [List.setIfInBounds_toArray, List.set_cons_zero]
  rw [put_one (by rw [x.len]; rfl)]
theorem wtr_holds {H : Hp} {b : Nat} {w : Wt} (hb : H b = some (.cells w.c.toArray 115)) : Holds H 65 (.slice (some ⟨b, 0, none⟩) 1 1) 1 w.c := by
  refine ⟨by rw [Wt.len], .inr ⟨b, 0, 1, _, _, _, rfl, hb, by simp [Sec.h], ?_⟩⟩
  rw [Array.toList_extract, List.extract_eq_take_drop]
  exact List.take_of_length_le (by rw [List.drop_zero, Wt.len]; omega)
theorem getD_mem' {α : Type} [Inhabited α] {X : List α} {i : Nat} (h : i < X.length) : X.getD i default ∈ X := by
  rw [List.getD_eq_getElem?_getD, List.getElem?_eq_getElem h]; exact List.getElem_mem h
theorem OwnS.neT {H : Hp} {E : TypeId} {w : Nat} {v : Value} {n : Nat} {cs : List Value} {rs : Option Nat} (h : OwnS H E w v n cs rs) {b : Nat} {c : Array Value} {T : TypeId} {f : Nat × Nat} (hb : H b = some (.cells c T f)) (hT : T ≠ E) : rs ≠ some b := fun e => by
  obtain ⟨_, ⟨_, _, h0⟩ | ⟨r', cc, c', _, g2, _, _, _, g3⟩⟩ := h
  · rw [e] at h0; cases h0
  · rw [e] at g3; cases g3; rw [hb] at g2; injection g2 with g2; injection g2 with _ g2; exact hT g2
theorem rput_cases (m : RSt) (dev i : Int) (x : Sec) : (m.has dev i = false ∧ m.put dev i x = (m, 1)) ∨ (m.has dev i = true ∧ m.step.2 = false ∧ m.put dev i x = (m.step.1, 3)) ∨ (m.has dev i = true ∧ m.step.2 = true ∧ m.put dev i x = ({ m.step.1 with dv := m.dv.set dev.toNat ⟨(m.dv.getD dev.toNat default).sec, (m.dv.getD dev.toNat default).wait ++ [⟨i, x⟩]⟩ }, 0)) := by
  unfold RSt.put
  by_cases h : m.has dev i = true
  · rw [if_pos h]
    have hd := m.step_dv
    generalize hq : m.step = q at *
    obtain ⟨t, b⟩ := q
    cases b with
    | true => exact .inr (.inr ⟨h, rfl, by simp only at hd; rw [← hd]⟩)
    | false => exact .inr (.inl ⟨h, rfl, rfl⟩)
  · rw [if_neg h]; exact .inl ⟨by simpa using h, rfl⟩
set_option maxRecDepth 100000 in
set_option maxHeartbeats 8000000 in
theorem rput_ok (H : Hp) (a : Option Addr) (cap : Nat) (X : List RDX) (hX : RX H a cap X) (m : RSt) (hm : m.dv = rdv X) (hl : X.length ≤ 5) (hw : ∀ i, (m.dv.getD i default).wait.length ≤ 1000000) (dev i : Int) (x : Sec) : CallH Try.prog 22 #[m.v (.slice a X.length cap), .int .i64 dev, .int .i64 i, x.v] H (fun v H' => ∃ a' cap' X', X'.length = X.length ∧ Le H H' ∧ v = .tuple #[(m.put dev i x).1.v (.slice a' X'.length cap'), .int .i64 (m.put dev i x).2] ∧ RX H' a' cap' X' ∧ (m.put dev i x).1.dv = rdv X') := by
 refine zaB (l := [_, _, _, _]) (rl := [.cell 8 38, .tmp 9]) (n := 45) Try.func22 rfl rfl rfl rfl rfl ?_
 simp only [envOf, Nat.reduceAdd]
 refine zad (fun K1 hK1 => ?_)
 refine zaa ?_
 refine zac (fun K hK r => ?_)
 simp only [x_box, Value.cells, eX, ↓reduceIte, Nat.reduceEqDiff, Int.reduceToNat]
 intro b4 hb4
 have f4_H : H b4 = none := zaj lhA hb4
 try simp only [eX, ↓reduceIte, Nat.reduceEqDiff, Int.reduceToNat]
 refine hK _ _ ?_; clear hK K
 refine zac (fun K hK r => ?_)
 simp only [x_box, Value.cells, eX, ↓reduceIte, Nat.reduceEqDiff, Int.reduceToNat]
 intro b7 hb7
 try have n7_b4 : b4 ≠ b7 := zai hbA hb7
 have f7_H : H b7 = none := zaj lhA hb7
 try simp only [eX, ↓reduceIte, Nat.reduceEqDiff, Int.reduceToNat]
 refine hK _ _ ?_; clear hK K
 refine zac (fun K hK r => ?_)
 simp only [x_alloc, zr38, zal, Value.cells, eX, ↓reduceIte, Nat.reduceEqDiff, Int.reduceToNat]
 intro b8 hb8
 try have n8_b4 : b4 ≠ b8 := zai hbA hb8
 try have n8_b7 : b7 ≠ b8 := zai hbA hb8
 have f8_H : H b8 = none := zaj lhA hb8
 try simp only [eX, ↓reduceIte, Nat.reduceEqDiff, Int.reduceToNat]
 refine hK _ _ ?_; clear hK K
 refine zao rfl ?_
 refine zae ?_
 try simp only [Ex.thnH, Ex.inBlockH, ↓reduceIte, Nat.reduceEqDiff]
 refine hK1 _ _ ?_; try clear hK1 K1
 refine zad (fun K2 hK2 => ?_)
 refine zad (fun K3 hK3 => ?_)
 refine zaa ?_
 refine zac (fun K hK r => ?_)
 simp only [zan, eX, ↓reduceIte, Nat.reduceEqDiff, Int.reduceToNat]
 first | refine zaN Try.underlying38 rfl sz38 hbA bdA ?_ | refine zaC Try.underlying38 rfl sz38 hbA bdA ?_
 try simp only [List.extract_toArray, List.extract_eq_take_drop, Nat.zero_add, Nat.reduceAdd, Nat.reduceSub, Nat.sub_zero, List.drop_succ_cons, List.drop_zero, List.take_succ_cons, List.take_zero, List.take_nil, List.drop_nil]
 try simp only [eX, ↓reduceIte, Nat.reduceEqDiff, Int.reduceToNat]
 refine hK _ _ ?_; clear hK K
 refine zam rfl ?_
 refine zam rfl ?_
 refine zac (fun K hK r => ?_)
 simp only [zaT _ bd49, List.map_toArray, List.map_cons, List.map_nil, eX, ↓reduceIte, Nat.reduceEqDiff, Int.reduceToNat]
 refine (rhas_ok _ a cap X (hX.le lhA) m hm dev i).mono ?_
 rintro v H' ⟨rfl, rfl⟩
 try simp only [eX, ↓reduceIte, Nat.reduceEqDiff, Int.reduceToNat]
 refine hK _ _ ?_; clear hK K
 refine zac (fun K hK r => ?_)
 simp only [x_un, u_not, eX, ↓reduceIte, Nat.reduceEqDiff, Int.reduceToNat]
 refine hK _ _ ?_; clear hK K
 refine zae ?_
 try simp only [Ex.thnH, Ex.inBlockH, ↓reduceIte, Nat.reduceEqDiff]
 refine hK3 _ _ ?_; try clear hK3 K3
 refine zaG (fun r => rfl) (fun c16 => ?_) (fun c16 => ?_)
 ·first
  |(exfalso; exact cnA c16; done)
  |skip
   (try simp only [decide_eq_true_eq, decide_eq_false_iff_not, Bool.not_eq_true, Bool.not_eq_false, Bool.and_eq_true, Bool.or_eq_true, Bool.or_eq_false_iff, Bool.not_eq_eq_eq_not, Bool.not_true, Bool.not_false] at c16)
   have hno : m.has dev i = false := by simpa using c16
   refine zad (fun K4 hK4 => ?_)
   refine zaa ?_
   refine zac (fun K hK r => ?_)
   simp only [zan, eX, ↓reduceIte, Nat.reduceEqDiff, Int.reduceToNat]
   first | refine zaN Try.underlying38 rfl sz38 hbA bdA ?_ | refine zaC Try.underlying38 rfl sz38 hbA bdA ?_
   try simp only [List.extract_toArray, List.extract_eq_take_drop, Nat.zero_add, Nat.reduceAdd, Nat.reduceSub, Nat.sub_zero, List.drop_succ_cons, List.drop_zero, List.take_succ_cons, List.take_zero, List.take_nil, List.drop_nil]
   try simp only [eX, ↓reduceIte, Nat.reduceEqDiff, Int.reduceToNat]
   refine hK _ _ ?_; clear hK K
   refine zbq rfl (zaJ) (fun K hK r => ?_)
   simp only [zaL, eX, ↓reduceIte, Nat.reduceEqDiff, Int.reduceToNat]
   first | refine zaz sz38 bdA hbA bdA plA (by decide) ?_ | refine zaI sz38 bdA hbA bdA plA (by decide) ?_
   try simp only [eX, ↓reduceIte, Nat.reduceEqDiff, Int.reduceToNat]
   refine hK _ _ ?_; clear hK K
   refine zao rfl ?_
   refine zae ?_
   try simp only [Ex.thnH, Ex.inBlockH, ↓reduceIte, Nat.reduceEqDiff]
   refine hK4 _ _ ?_; try clear hK4 K4
   refine zaR ?_
   try simp only [Ex.thnH, Ex.inBlockH, ↓reduceIte, Nat.reduceEqDiff]
   refine ⟨[_, _], ⟨⟨_, rfl, zbd Try.underlying38 rfl sz38 hbA bdA⟩, rfl, trivial⟩, H, lhA, a, cap, X, rfl, Le.refl _, ?_, hX, ?_⟩
   all_goals
    rcases rput_cases m dev i x with ⟨_, e⟩ | ⟨h1, _⟩ | ⟨h1, _⟩
    ·rw [e]; first | rfl | exact hm
    ·rw [hno] at h1; cases h1
    ·rw [hno] at h1; cases h1
 ·first
  |(exfalso; exact cnA c16; done)
  |skip
   (try simp only [decide_eq_true_eq, decide_eq_false_iff_not, Bool.not_eq_true, Bool.not_eq_false, Bool.and_eq_true, Bool.or_eq_true, Bool.or_eq_false_iff, Bool.not_eq_eq_eq_not, Bool.not_true, Bool.not_false] at c16)
   have hyes : m.has dev i = true := by simpa using c16
   refine zaO ?_
   try simp only [Ex.thnH, Ex.inBlockH, ↓reduceIte, Nat.reduceEqDiff]
   refine hK2 _ _ ?_; try clear hK2 K2
   refine zad (fun K5 hK5 => ?_)
   refine zaa ?_
   refine zac (fun K hK r => ?_)
   simp only [zan, eX, ↓reduceIte, Nat.reduceEqDiff, Int.reduceToNat]
   first | refine zaN Try.underlying38 rfl sz38 hbA bdA ?_ | refine zaC Try.underlying38 rfl sz38 hbA bdA ?_
   try simp only [List.extract_toArray, List.extract_eq_take_drop, Nat.zero_add, Nat.reduceAdd, Nat.reduceSub, Nat.sub_zero, List.drop_succ_cons, List.drop_zero, List.take_succ_cons, List.take_zero, List.take_nil, List.drop_nil]
   try simp only [eX, ↓reduceIte, Nat.reduceEqDiff, Int.reduceToNat]
   refine hK _ _ ?_; clear hK K
   refine zac (fun K hK r => ?_)
   simp only [zaT _ bd50, List.map_toArray, List.map_cons, List.map_nil, eX, ↓reduceIte, Nat.reduceEqDiff, Int.reduceToNat]
   refine (rstep_ok _ _ rfl m).mono ?_
   rintro v H' ⟨rfl, rfl⟩
   try simp only [eX, ↓reduceIte, Nat.reduceEqDiff, Int.reduceToNat]
   refine hK _ _ ?_; clear hK K
   refine zam rfl ?_
   refine zac (fun K hK r => ?_)
   simp only [zaW, zaX, List.getElem?_toArray, List.getElem?_cons_zero, List.getElem?_cons_succ, zal, eX, ↓reduceIte, Nat.reduceEqDiff, Int.reduceToNat]
   refine hK _ _ ?_; clear hK K
   refine zac (fun K hK r => ?_)
   simp only [zaW, zaX, List.getElem?_toArray, List.getElem?_cons_zero, List.getElem?_cons_succ, zal, eX, ↓reduceIte, Nat.reduceEqDiff, Int.reduceToNat]
   refine hK _ _ ?_; clear hK K
   refine zbq rfl (zaJ) (fun K hK r => ?_)
   simp only [zaL, eX, ↓reduceIte, Nat.reduceEqDiff, Int.reduceToNat]
   first | refine zaz sz38 bdA hbA bdA plA (by decide) ?_ | refine zaI sz38 bdA hbA bdA plA (by decide) ?_
   try simp only [eX, ↓reduceIte, Nat.reduceEqDiff, Int.reduceToNat]
   refine hK _ _ ?_; clear hK K
   refine zao rfl ?_
   refine zae ?_
   try simp only [Ex.thnH, Ex.inBlockH, ↓reduceIte, Nat.reduceEqDiff]
   refine hK5 _ _ ?_; try clear hK5 K5
   refine zad (fun K6 hK6 => ?_)
   refine zad (fun K7 hK7 => ?_)
   refine zaa ?_
   refine zam rfl ?_
   refine zac (fun K hK r => ?_)
   simp only [x_un, u_not, eX, ↓reduceIte, Nat.reduceEqDiff, Int.reduceToNat]
   refine hK _ _ ?_; clear hK K
   refine zae ?_
   try simp only [Ex.thnH, Ex.inBlockH, ↓reduceIte, Nat.reduceEqDiff]
   refine hK7 _ _ ?_; try clear hK7 K7
   refine zaG (fun r => rfl) (fun c24 => ?_) (fun c24 => ?_)
   ·first
    |(exfalso; exact cnA c24; done)
    |skip
     (try simp only [decide_eq_true_eq, decide_eq_false_iff_not, Bool.not_eq_true, Bool.not_eq_false, Bool.and_eq_true, Bool.or_eq_true, Bool.or_eq_false_iff, Bool.not_eq_eq_eq_not, Bool.not_true, Bool.not_false] at c24)
     have hst : m.step.2 = false := by simpa using c24
     refine zad (fun K8 hK8 => ?_)
     refine zaa ?_
     refine zac (fun K hK r => ?_)
     simp only [zan, eX, ↓reduceIte, Nat.reduceEqDiff, Int.reduceToNat]
     first | refine zaN Try.underlying38 rfl sz38 hbA bdA ?_ | refine zaC Try.underlying38 rfl sz38 hbA bdA ?_
     try simp only [List.extract_toArray, List.extract_eq_take_drop, Nat.zero_add, Nat.reduceAdd, Nat.reduceSub, Nat.sub_zero, List.drop_succ_cons, List.drop_zero, List.take_succ_cons, List.take_zero, List.take_nil, List.drop_nil]
     try simp only [eX, ↓reduceIte, Nat.reduceEqDiff, Int.reduceToNat]
     refine hK _ _ ?_; clear hK K
     refine zbq rfl (zaJ) (fun K hK r => ?_)
     simp only [zaL, eX, ↓reduceIte, Nat.reduceEqDiff, Int.reduceToNat]
     first | refine zaz sz38 bdA hbA bdA plA (by decide) ?_ | refine zaI sz38 bdA hbA bdA plA (by decide) ?_
     try simp only [eX, ↓reduceIte, Nat.reduceEqDiff, Int.reduceToNat]
     refine hK _ _ ?_; clear hK K
     refine zao rfl ?_
     refine zae ?_
     try simp only [Ex.thnH, Ex.inBlockH, ↓reduceIte, Nat.reduceEqDiff]
     refine hK8 _ _ ?_; try clear hK8 K8
     refine zaR ?_
     try simp only [Ex.thnH, Ex.inBlockH, ↓reduceIte, Nat.reduceEqDiff]
     refine ⟨[_, _], ⟨⟨_, rfl, zbd Try.underlying38 rfl sz38 hbA bdA⟩, rfl, trivial⟩, H, lhA, a, cap, X, rfl, Le.refl _, ?_, hX, ?_⟩
     all_goals
      rcases rput_cases m dev i x with ⟨h1, _⟩ | ⟨_, _, e⟩ | ⟨_, h1, _⟩
      ·rw [hyes] at h1; cases h1
      ·rw [e]; first | rfl | (show m.step.1.dv = _; rw [m.step_dv]; exact hm)
      ·rw [hst] at h1; cases h1
   ·first
    |(exfalso; exact cnA c24; done)
    |skip
     (try simp only [decide_eq_true_eq, decide_eq_false_iff_not, Bool.not_eq_true, Bool.not_eq_false, Bool.and_eq_true, Bool.or_eq_true, Bool.or_eq_false_iff, Bool.not_eq_eq_eq_not, Bool.not_true, Bool.not_false] at c24)
     have hst : m.step.2 = true := by simpa using c24
     have hin : 0 ≤ dev ∧ dev < X.length := by
      have := hyes
      unfold RSt.has at this
      rw [Bool.and_eq_true, decide_eq_true_eq, hm, List.length_map] at this
      exact this.1
     obtain ⟨bw, ow, cw, Tw, Fw, ew, hbw, hsw, atw⟩ := hX.h.at (by omega)
     have hxok := hX.ok _ (getD_mem' (show dev.toNat < X.length by omega))
     have hwl : (X.getD dev.toNat default).d.wait.length ≤ 1000000 := by
      have := hw dev.toNat
      rwa [hm, rdv_at] at this
     refine zaO ?_
     try simp only [Ex.thnH, Ex.inBlockH, ↓reduceIte, Nat.reduceEqDiff]
     refine hK6 _ _ ?_; try clear hK6 K6
     refine zad (fun K9 hK9 => ?_)
     refine zaa ?_
     refine zac (fun K hK r => ?_)
     simp only [zah, fa38_0, zap, Nat.reduceAdd, Nat.zero_add, eX, ↓reduceIte, Nat.reduceEqDiff, Int.reduceToNat]
     refine hK _ _ ?_; clear hK K
     refine zac (fun K hK r => ?_)
     simp only [zan, eX, ↓reduceIte, Nat.reduceEqDiff, Int.reduceToNat]
     refine zak Try.underlying36 rfl hbA ldA ?_
     try simp only [eX, ↓reduceIte, Nat.reduceEqDiff, Int.reduceToNat]
     refine hK _ _ ?_; clear hK K
     refine zam rfl ?_
     refine zac (fun K hK r => ?_)
     simp only [zaK, eX, ↓reduceIte, Nat.reduceEqDiff, Int.reduceToNat]
     refine zbi Try.underlying36 sz87 ew ixA ixA ?_
     refine hK _ _ ?_; clear hK K
     refine zac (fun K hK r => ?_)
     simp only [zan, eX, ↓reduceIte, Nat.reduceEqDiff, Int.reduceToNat]
     refine zaC Try.underlying87 rfl sz87 ((show Le H _ from lhA) _ _ hbw) (by have := Nat.mul_le_mul_right 2 (show dev.toNat + 1 ≤ X.length by omega); omega) ?_
     rw [ext_at RDX.len atw rfl dev.toNat (by omega) hsw]
     refine hK _ _ ?_; clear hK K
     refine zac (fun K hK r => ?_)
     simp only [x_alloc, zr87, zal, Value.cells, eX, ↓reduceIte, Nat.reduceEqDiff, Int.reduceToNat]
     intro b11 hb11
     try have n11_b4 : b4 ≠ b11 := zai hbA hb11
     try have n11_b7 : b7 ≠ b11 := zai hbA hb11
     try have n11_b8 : b8 ≠ b11 := zai hbA hb11
     have f11_H : H b11 = none := zaj lhA hb11
     try simp only [eX, ↓reduceIte, Nat.reduceEqDiff, Int.reduceToNat]
     refine hK _ _ ?_; clear hK K
     refine zbq rfl (zaJ) (fun K hK r => ?_)
     simp only [zaL, eX, ↓reduceIte, Nat.reduceEqDiff, Int.reduceToNat]
     first | refine zaz sz87 bdA hbA bdA plA (by decide) ?_ | refine zaI sz87 bdA hbA bdA plA (by decide) ?_
     try simp only [eX, ↓reduceIte, Nat.reduceEqDiff, Int.reduceToNat]
     refine hK _ _ ?_; clear hK K
     refine zae ?_
     try simp only [Ex.thnH, Ex.inBlockH, ↓reduceIte, Nat.reduceEqDiff]
     refine hK9 _ _ ?_; try clear hK9 K9
     refine zad (fun K10 hK10 => ?_)
     obtain ⟨R7, hR7⟩ : ∃ R : Hp, R = ((emptyHp.upd b11 (.cells (X.getD dev.toNat default).c.toArray 87)).upd b7 (.cells x.c.toArray 45)) := ⟨_, rfl⟩
     refine CW_drawR [4, 0, 1, 2, 0, 1, 0, 4, 2, 0, 3] [1, 2, 0, 3, 4, 5, 6, 7, 8, 9, 10] R7 (by kernel_rfl) (by kernel_rfl) (by subst hR7; exact le_put (le_put (le_empty _) hbA) hbA) (fun lR7 => ?_)
     apply zay rfl (zab (by decide)) rfl
     ·intro r
      simp only [zah, fa87_1, zap, Nat.reduceAdd, Nat.zero_add, eX, ↓reduceIte, Nat.reduceEqDiff]
      exact ⟨rfl, Le.refl _⟩
     simp only [eX, ↓reduceIte, Nat.reduceEqDiff, Int.reduceToNat]
     apply TW_look rfl (zab (by decide)) rfl
     ·intro r
      simp only [zan, eX, ↓reduceIte, Nat.reduceEqDiff]
      refine zak Try.underlying85 rfl hbA ldA ?_
      exact ⟨rfl, Le.refl _⟩
     simp only [eX, ↓reduceIte, Nat.reduceEqDiff, Int.reduceToNat]
     refine TW_make rfl (zab (by decide)) rfl (fun K hK r => ?_)
     simp only [zbn, List.map_toArray, List.map_cons, List.map_nil, eX, ↓reduceIte, Nat.reduceEqDiff, Int.reduceToNat]
     refine zbm (vs := []) Try.underlying85 sz115 zr115 rfl bsA (by first | decide | (simp; done)) ?_
     simp only [List.flatMap_cons, List.flatMap_nil, Value.cells, List.append_nil, List.cons_append, List.nil_append, List.length_cons, List.length_nil, Nat.zero_add, Nat.reduceAdd]
     intro b31 hb31
     try have n31_b4 : b4 ≠ b31 := zai hbA hb31
     try have n31_b7 : b7 ≠ b31 := zai hbA hb31
     try have n31_b8 : b8 ≠ b31 := zai hbA hb31
     try have n31_b11 : b11 ≠ b31 := zai hbA hb31
     have f31_H : H b31 = none := zaj lhA hb31
     have f31_R7 : R7 b31 = none := zaj lhA hb31
     try simp only [eX, ↓reduceIte, Nat.reduceEqDiff, Int.reduceToNat]
     refine hK _ _ ?_; clear hK K
     refine TW_chain rfl (zab (by decide)) rfl (fun K hK r => ?_)
     simp only [zaM, l_append, List.map_toArray, List.map_cons, List.map_nil, eX, ↓reduceIte, Nat.reduceEqDiff, Int.reduceToNat]
     refine Lt_appendNew Try.underlying85 sz115 by115 (by decide) zr115 rfl _ (m := (X.getD dev.toNat default).d.wait.length) (ds := wts (X.getD dev.toNat default).d.wait) hbA (hxok.w.le lhA) (wts_plain _) (by omega) ?_
     intro v34 H34 rs34 hg34 ho34 hr34
     obtain ⟨wa34, wc34, rfl⟩ := ho34.holds.form
     have kb4 := hg34.known b4 _ hbA (fun e => n31_b4 (by cases e; rfl))
     have kb7 := hg34.known b7 _ hbA (fun e => n31_b7 (by cases e; rfl))
     have kb8 := hg34.known b8 _ hbA (fun e => n31_b8 (by cases e; rfl))
     have kb11 := hg34.known b11 _ hbA (fun e => n31_b11 (by cases e; rfl))
     have lR34 : Le R7 H34 := by rw [hR7]; exact le_put (le_put (le_empty _) kb11) kb7
     have lH34 : Le H H34 := fun z o hz => hg34.known z o ((show Le H _ from lhA) z o hz) (fun e => by cases e; rw [f31_H] at hz; cases hz)
     have hrn : ∀ r, rs34 = some r → H r = none := fun r e => (hr34 r e).elim (fun h => by rw [h]; exact f31_H) (fun h => zaj lhA h)
     have q4 := ho34.neT kb4 (by decide)
     have q7 := ho34.neT kb7 (by decide)
     have q8 := ho34.neT kb8 (by decide)
     have q11 := ho34.neT kb11 (by decide)
     refine hK _ _ leA ?_; clear hK K
     apply zay rfl (zab (by decide)) rfl
     ·intro r
      simp only [zaU, eX, ↓reduceIte, Nat.reduceEqDiff]
      exact ⟨rfl, Le.refl _⟩
     simp only [eX, ↓reduceIte, Nat.reduceEqDiff, Int.reduceToNat]
     apply TW_look rfl (zab (by decide)) rfl
     ·intro r
      simp only [zan, eX, ↓reduceIte, Nat.reduceEqDiff]
      refine zaN Try.underlying45 rfl sz45 hbA (by simp [x.h]) ?_
      exact ⟨rfl, Le.refl _⟩
     simp only [eX, ↓reduceIte, Nat.reduceEqDiff, Int.reduceToNat]
     apply zay rfl (zab (by decide)) rfl
     ·intro r
      simp only [x_build, List.map_toArray, List.map_cons, List.map_nil, eX, ↓reduceIte, Nat.reduceEqDiff]
      rw [bwr_ok]
      exact ⟨rfl, Le.refl _⟩
     simp only [eX, ↓reduceIte, Nat.reduceEqDiff, Int.reduceToNat]
     refine TW_make rfl (zab (by decide)) rfl (fun K hK r => ?_)
     simp only [zbn, List.map_toArray, List.map_cons, List.map_nil, eX, ↓reduceIte, Nat.reduceEqDiff, Int.reduceToNat]
     refine zbm (vs := [.agg (Wt.c ⟨i, x⟩).toArray]) Try.underlying85 sz115 zr115 rfl (fun v hv => by simp at hv; subst hv; show (Wt.c ⟨i, x⟩).toArray.size = 65; simp [Sec.h]) (by first | decide | (simp; done)) ?_
     simp only [List.flatMap_cons, List.flatMap_nil, Value.cells, List.append_nil]
     intro b38 hb38
     refine hK _ _ ?_; clear hK K
     refine TW_chain rfl (zab (by decide)) rfl (fun K hK r => ?_)
     simp only [zaM, l_append, List.map_toArray, List.map_cons, List.map_nil, eX, ↓reduceIte, Nat.reduceEqDiff, Int.reduceToNat]
     have q38 : ∀ z o, H34 z = some o → (H34.upd b38 (.cells (Wt.c ⟨i, x⟩).toArray 115)) z = some o := fun z o hz => (zaA _ _ (zai hz hb38)).trans hz
     refine Lt_append Try.underlying85 Try.underlying85 (by simp) sz115 by115 (by decide) zr115 rfl _ (n := (X.getD dev.toNat default).d.wait.length) (m := 1) (ds := Wt.c ⟨i, x⟩) (ho34.make hb38) (fun Kx => len_slice _ _ _ Kx) (fun Kx => first_slice (w := 65) (n := 1) (cs := Wt.c ⟨i, x⟩) (wtr_holds (w := ⟨i, x⟩) (zax _ _ _)) Kx) (by rw [Wt.len]) (Wt.plain _) (by omega) ?_
     intro v39 H39 rs39 hg39 ho39 hr39
     obtain ⟨wa39, wc39, rfl⟩ := ho39.holds.form
     have kc4 := hg39.known b4 _ (q38 _ _ kb4) q4
     have kc7 := hg39.known b7 _ (q38 _ _ kb7) q7
     have kc8 := hg39.known b8 _ (q38 _ _ kb8) q8
     have kc11 := hg39.known b11 _ (q38 _ _ kb11) q11
     have lR39 : Le R7 H39 := by rw [hR7]; exact le_put (le_put (le_empty _) kc11) kc7
     have lH39 : Le H H39 := fun z o hz => hg39.known z o (q38 _ _ (lH34 _ _ hz)) (fun e => by rw [hrn z e] at hz; cases hz)
     refine hK _ _ leA ?_; clear hK K
     apply zay rfl (zab (by decide)) rfl
     ·intro r
      simp only [zah, fa87_1, zap, Nat.reduceAdd, Nat.zero_add, eX, ↓reduceIte, Nat.reduceEqDiff]
      exact ⟨rfl, Le.refl _⟩
     simp only [eX, ↓reduceIte, Nat.reduceEqDiff, Int.reduceToNat]
     refine TW_last rfl (zaJ) rfl (fun K hK r => ?_)
     simp only [zaL, eX, ↓reduceIte, Nat.reduceEqDiff, Int.reduceToNat]
     refine zaY sz85 hbA bdA plA fzA ?_
     try simp only [setL0, setL1, setL2, setL3, setL4, setL5, setL6, setL7, setL8, setL9]
     try simp only [eX, ↓reduceIte, Nat.reduceEqDiff, Int.reduceToNat]
     refine hK _ _ ?_; clear hK K
     refine TW_nil ?_
     try simp only [Ex.thnH, Ex.inBlockH, ↓reduceIte, Nat.reduceEqDiff]
     refine hK10 _ _ ?_; try clear hK10 K10
     refine zad (fun K11 hK11 => ?_)
     refine zaa ?_
     refine zac (fun K hK r => ?_)
     simp only [zan, eX, ↓reduceIte, Nat.reduceEqDiff, Int.reduceToNat]
     first | refine zaN Try.underlying38 rfl sz38 hbA bdA ?_ | refine zaC Try.underlying38 rfl sz38 hbA bdA ?_
     try simp only [List.extract_toArray, List.extract_eq_take_drop, Nat.zero_add, Nat.reduceAdd, Nat.reduceSub, Nat.sub_zero, List.drop_succ_cons, List.drop_zero, List.take_succ_cons, List.take_zero, List.take_nil, List.drop_nil]
     try simp only [eX, ↓reduceIte, Nat.reduceEqDiff, Int.reduceToNat]
     refine hK _ _ ?_; clear hK K
     refine zam rfl ?_
     refine zac (fun K hK r => ?_)
     simp only [zan, eX, ↓reduceIte, Nat.reduceEqDiff, Int.reduceToNat]
     first | refine zaN Try.underlying87 rfl sz87 hbA bdA ?_ | refine zaC Try.underlying87 rfl sz87 hbA bdA ?_
     try simp only [List.extract_toArray, List.extract_eq_take_drop, Nat.zero_add, Nat.reduceAdd, Nat.reduceSub, Nat.sub_zero, List.drop_succ_cons, List.drop_zero, List.take_succ_cons, List.take_zero, List.take_nil, List.drop_nil]
     try simp only [eX, ↓reduceIte, Nat.reduceEqDiff, Int.reduceToNat]
     refine hK _ _ ?_; clear hK K
     refine zac (fun K hK r => ?_)
     simp only [zaT _ bd51, List.map_toArray, List.map_cons, List.map_nil, eX, ↓reduceIte, Nat.reduceEqDiff, Int.reduceToNat]
     have ew : (X.getD dev.toNat default).d.wait.length + 1 = ((X.getD dev.toNat default).d.wait ++ [(⟨i, x⟩ : Wt)]).length := by simp
     have ecs : wts (X.getD dev.toNat default).d.wait ++ Wt.c ⟨i, x⟩ = wts ((X.getD dev.toNat default).d.wait ++ [(⟨i, x⟩ : Wt)]) := by simp [wts]
     simp only [ew] at ho39 ⊢
     rw [ecs] at ho39
     obtain ⟨y, hy⟩ : ∃ y : RDX, y = ⟨(X.getD dev.toNat default).sa, (X.getD dev.toNat default).sc, wa39, wc39, ⟨(X.getD dev.toNat default).d.sec, (X.getD dev.toNat default).d.wait ++ [(⟨i, x⟩ : Wt)]⟩⟩ := ⟨_, rfl⟩
     have z8 := ho39.neT kc8 (by decide)
     have z11 := ho39.neT kc11 (by decide)
     have leS : Le H ((H39.upd b11 (.cells y.c.toArray 87)).del b8) := fun z o hz => (del_ne _ (fun e => by subst e; rw [f8_H] at hz; cases hz)).trans ((zaA _ _ (fun e => by subst e; rw [f11_H] at hz; cases hz)).trans (lH39 z o hz))
     have hyok : y.ok ((H39.upd b11 (.cells y.c.toArray 87)).del b8) := by
      refine ⟨?_, ?_⟩
      ·rw [hy]; rw [hy] at leS; exact hxok.s.le leS
      ·have := (ho39.stay (H' := (H39.upd b11 (.cells y.c.toArray 87)).del b8) (fun b o hb ho => (del_ne _ (fun e => z8 (by rw [← e]; exact hb))).trans ((zaA _ _ (fun e => z11 (by rw [← e]; exact hb))).trans ho))).holds
       rw [hy] at this ⊢; exact this
     have n811 : b8 ≠ b11 := fun e => by rw [e, kc11] at kc8; injection kc8 with kc8; injection kc8 with _ kc8; revert kc8; decide
     have hcall := CallH.use (rwith_ok _ a cap X (hX.le leS) m.step.1 hl dev hin y hyok) (le_del (H39.upd b11 (.cells y.c.toArray 87)) b8)
     rw [hy] at hcall
     refine hcall.mono ?_
     rw [← hy]
     rintro v44 H44 ⟨G, ⟨a', cap', l44, rfl, hX44⟩, lG, hkeep⟩
     obtain ⟨k8, g8⟩ := hkeep b8 _ ((zaA _ _ n811).trans kc8) (by simp [Hp.del])
     try simp only [eX, ↓reduceIte, Nat.reduceEqDiff, Int.reduceToNat]
     refine hK _ _ ?_; clear hK K
     refine zbq rfl (zaJ) (fun K hK r => ?_)
     simp only [zaL, eX, ↓reduceIte, Nat.reduceEqDiff, Int.reduceToNat]
     first | refine zaz sz38 bdA hbA bdA plA (by decide) ?_ | refine zaI sz38 bdA hbA bdA plA (by decide) ?_
     try simp only [eX, ↓reduceIte, Nat.reduceEqDiff, Int.reduceToNat]
     refine hK _ _ ?_; clear hK K
     refine zao rfl ?_
     refine zae ?_
     try simp only [Ex.thnH, Ex.inBlockH, ↓reduceIte, Nat.reduceEqDiff]
     refine hK11 _ _ ?_; try clear hK11 K11
     refine zaR ?_
     try simp only [Ex.thnH, Ex.inBlockH, ↓reduceIte, Nat.reduceEqDiff]
     refine ⟨[_, _], ⟨⟨_, rfl, zbd Try.underlying38 rfl sz38 hbA bdA⟩, rfl, trivial⟩, _, Le.refl _, a', cap', X.set dev.toNat y, by simp, zaP (Le.trans (Le.trans leS l44) lG) f8_H, ?_, hX44.le (zaP lG g8), ?_⟩
     all_goals
      rcases rput_cases m dev i x with ⟨h1, _⟩ | ⟨_, h1, _⟩ | ⟨_, _, e⟩
      ·rw [hyes] at h1; cases h1
      ·rw [hst] at h1; cases h1
      ·rw [e]; first | (rw [List.length_set]; rfl) | (show m.dv.set dev.toNat _ = _; rw [show rdv (X.set dev.toNat y) = (rdv X).set dev.toNat y.d from List.map_set, hm, rdv_at, hy])
end Go.Proofs.Ytcjdkfhmlnfedaa.HL
end
section
namespace Go.Proofs.Ytcjdkfhmlnfedaa.HL
open Go Go.Proofs
set_option linter.unusedSimpArgs false
set_option linter.unusedVariables false
attribute [local irreducible] Lt Lq CW OW TW CallH
theorem ext_x {L : List Wt} {c : Array Value} {o n : Nat} (h : ∀ j, j < n * 65 → c[o + j]? = (wts L)[j]?) (hn : n = L.length) (i : Nat) (hi : i < L.length) (hs : o + n * 65 ≤ c.size) : c.extract (o + i * 65 + 1) (o + i * 65 + 1 + 64) = (L.getD i default).x.c.toArray := by
  have m1 := Nat.mul_le_mul_right 65 (show i + 1 ≤ n by omega)
  apply Array.ext'
  apply List.ext_getElem?
  intro j
  rw [Array.toList_extract, List.extract_eq_take_drop, List.toList_toArray]
  by_cases hj : j < 64
  · rw [List.getElem?_take_of_lt (by omega), List.getElem?_drop, Array.getElem?_toList]
    have := cell_at Wt.len h hn i hi (j + 1) (by omega)
    rw [show o + i * 65 + 1 + j = o + i * 65 + (j + 1) from by omega, this]
    rfl
  · rw [List.getElem?_eq_none (by simp; omega), List.getElem?_eq_none (by rw [Sec.len]; omega)]
theorem doneL_len (W : List Wt) : ∀ (L : List Sec), (doneL L W).length = L.length := by
  induction W with
  | nil => intro L; rfl
  | cons w r ih => intro L; show (doneL (L.set _ _) r).length = _; rw [ih]; simp
theorem doneL_next (L : List Sec) (W : List Wt) (k : Nat) (hk : k < W.length) : doneL L (W.take (k + 1)) = (doneL L (W.take k)).set (W.getD k default).at_.toNat (W.getD k default).x := by
  unfold doneL
  rw [List.take_add_one, List.getElem?_eq_getElem hk, List.foldl_append]
  simp [List.getD_eq_getElem?_getD, List.getElem?_eq_getElem hk]
theorem OwnS.full {H : Hp} {E : TypeId} {w : Nat} {v : Value} {n : Nat} {cs : List Value} {rs : Option Nat} (h : OwnS H E w v n cs rs) (hn : 0 < n) : ∃ r cap c, v = .slice (some ⟨r, 0, none⟩) n cap ∧ rs = some r ∧ H r = some (.cells c E) ∧ n ≤ cap ∧ c.size = cap * w := by
  obtain ⟨_, ⟨_, h0, _⟩ | ⟨r, cap, c, h1, h2, h3, h4, _, h6⟩⟩ := h
  · omega
  · exact ⟨r, cap, c, h1, h6, h2, h3, h4⟩
set_option maxRecDepth 100000 in
set_option maxHeartbeats 4000000 in
theorem rdone_ok (H : Hp) (a1 : Option Addr) (c1 : Nat) (L : List Sec) (h1 : Holds H 64 (.slice a1 L.length c1) L.length (secs L)) (a2 : Option Addr) (c2 : Nat) (W : List Wt) (h2 : Holds H 65 (.slice a2 W.length c2) W.length (wts W)) (hL : 0 < L.length) (hl : L.length ≤ 5000) (hw : W.length ≤ 1000000) (hin : ∀ k, k < W.length → 0 ≤ (W.getD k default).at_ ∧ (W.getD k default).at_ < L.length) : CallH Try.prog 63 #[.slice a1 L.length c1, .slice a2 W.length c2] H (fun v H' => ∃ rb cap', Le H H' ∧ v = .slice (some ⟨rb, 0, none⟩) L.length cap' ∧ OwnS H' 45 64 (.slice (some ⟨rb, 0, none⟩) L.length cap') L.length (secs (doneL L W)) (some rb)) := by
 refine zaB (l := [_, _]) (rl := [.tmp 4]) (n := 29) Try.func63 rfl rfl rfl rfl rfl ?_
 simp only [envOf, Nat.reduceAdd]
 refine zad (fun K1 hK1 => ?_)
 refine zaa ?_
 refine zao rfl ?_
 refine zae ?_
 try simp only [Ex.thnH, Ex.inBlockH, ↓reduceIte, Nat.reduceEqDiff]
 refine hK1 _ _ ?_; try clear hK1 K1
 refine zad (fun K2 hK2 => ?_)
 refine zaa ?_
 refine zac (fun K hK r => ?_)
 simp only [zbn, List.map_toArray, List.map_cons, List.map_nil, eX, ↓reduceIte, Nat.reduceEqDiff, Int.reduceToNat]
 refine zbm (vs := []) Try.underlying84 sz45 zr45 rfl bsA (by first | decide | (simp; done)) ?_
 simp only [List.flatMap_cons, List.flatMap_nil, Value.cells, List.append_nil, List.cons_append, List.nil_append, List.length_cons, List.length_nil, Nat.zero_add, Nat.reduceAdd]
 intro b7 hb7
 have f7_H : H b7 = none := zaj lhA hb7
 try simp only [eX, ↓reduceIte, Nat.reduceEqDiff, Int.reduceToNat]
 refine hK _ _ ?_; clear hK K
 refine zam rfl ?_
 refine zac (fun K hK r => ?_)
 simp only [zaM, l_append, List.map_toArray, List.map_cons, List.map_nil, eX, ↓reduceIte, Nat.reduceEqDiff, Int.reduceToNat]
 refine Lt_appendNew Try.underlying84 sz45 by45 (by decide) zr45 rfl _ (m := L.length) (ds := secs L) hbA (h1.le lhA) (secs_plain _) (by omega) ?_
 intro v9 H9 rs9 hg9 ho9 hr9
 have lH9 : Le H H9 := fun z o hz => hg9.known z o ((show Le H _ from lhA) z o hz) (fun e => by cases e; rw [f7_H] at hz; cases hz)
 obtain ⟨rb, cap, c9, rfl, rfl, hc9, hn9, hs9⟩ := ho9.full hL
 have hrn : H rb = none := (hr9 rb rfl).elim (fun e => by rw [e]; exact f7_H) (fun e => zaj lhA e)
 refine hK _ _ ?_; clear hK K
 refine zao rfl ?_
 refine zae ?_
 try simp only [Ex.thnH, Ex.inBlockH, ↓reduceIte, Nat.reduceEqDiff]
 refine hK2 _ _ ?_; try clear hK2 K2
 refine zad (fun K3 hK3 => ?_)
 refine zad (fun K4 hK4 => ?_)
 refine zaa ?_
 refine zao rfl ?_
 refine zae ?_
 try simp only [Ex.thnH, Ex.inBlockH, ↓reduceIte, Nat.reduceEqDiff]
 refine hK4 _ _ ?_; try clear hK4 K4
 refine zaV ?_
 refine CW_loop (fun m e H_ => ∃ k : Nat, k ≤ W.length ∧ m = W.length - k ∧ Le H H_ ∧ OwnS H_ 45 64 (.slice (some ⟨rb, 0, none⟩) L.length cap) L.length (secs (doneL L (W.take k))) (some rb) ∧ Env.has [(1, .slice a2 W.length c2), (5, .slice (some ⟨rb, 0, none⟩) L.length cap), (6, .int .i64 k)] e) (W.length) ?_ ?_
 ·skip
  exact ⟨0, by omega, by omega, lH9, ho9, rfl, rfl, rfl, trivial⟩
 intro m_ e_ H_ hI_
 obtain ⟨k, hk, rfl, hlH, hO, he⟩ := hI_
 refine CW_env he.sub ?_; clear he e_
 refine zad (fun K5 hK5 => ?_)
 refine zad (fun K6 hK6 => ?_)
 refine zaa ?_
 refine zam rfl ?_
 refine zam rfl ?_
 refine zac (fun K hK r => ?_)
 simp only [zaM, l_len, List.map_toArray, List.map_cons, List.map_nil, zaS _ _ Try.underlying85, eX, ↓reduceIte, Nat.reduceEqDiff, Int.reduceToNat]
 refine hK _ _ ?_; clear hK K
 refine zac (fun K hK r => ?_)
 simp (disch := (first | omega | decide)) only [zaF, zaH, b_lss, zaq, zar, zat, zau, zas, zav, Bool.not_true, Bool.not_false, eX, ↓reduceIte, Nat.reduceEqDiff, Int.reduceToNat]
 refine hK _ _ ?_; clear hK K
 refine zae ?_
 try simp only [Ex.thnH, Ex.inBlockH, ↓reduceIte, Nat.reduceEqDiff]
 refine hK6 _ _ ?_; try clear hK6 K6
 refine zaG (fun r => rfl) (fun c13 => ?_) (fun c13 => ?_)
 ·first
  |(exfalso; exact cnA c13; done)
  |skip
   (try simp only [decide_eq_true_eq, decide_eq_false_iff_not, Bool.not_eq_true, Bool.not_eq_false, Bool.and_eq_true, Bool.or_eq_true, Bool.or_eq_false_iff, Bool.not_eq_eq_eq_not, Bool.not_true, Bool.not_false] at c13)
   obtain ⟨bw, ow, cw, Tw, Fw, ew, hbw, hsw, atw⟩ := h2.at (by omega)
   have hik := hin k (by omega)
   have m1 := Nat.mul_le_mul_right 65 (show k + 1 ≤ W.length by omega)
   refine zaO ?_
   try simp only [Ex.thnH, Ex.inBlockH, ↓reduceIte, Nat.reduceEqDiff]
   refine hK5 _ _ ?_; try clear hK5 K5
   refine zad (fun K7 hK7 => ?_)
   refine zaV ?_
   obtain ⟨R5, hR5⟩ : ∃ R : Hp, R = emptyHp.upd bw (.cells cw Tw Fw) := ⟨_, rfl⟩
   refine CW_drawR [0, 0, 0, 0, 0, 1, 0, 0, 0, 0, 1, 0, 3] [0, 1, 2, 3, 4, 5, 6, 7, 8, 9, 10, 11, 12] R5 (by kernel_rfl) (by kernel_rfl) (by subst hR5; exact le_put (le_empty _) (hlH _ _ hbw)) (fun lR5 => ?_)
   apply zay rfl (zab (by decide)) rfl
   ·intro r
    simp only [zaU, eX, ↓reduceIte, Nat.reduceEqDiff]
    exact ⟨rfl, Le.refl _⟩
   simp only [eX, ↓reduceIte, Nat.reduceEqDiff, Int.reduceToNat]
   apply zay rfl (zab (by decide)) rfl
   ·intro r
    simp only [zaU, eX, ↓reduceIte, Nat.reduceEqDiff]
    exact ⟨rfl, Le.refl _⟩
   simp only [eX, ↓reduceIte, Nat.reduceEqDiff, Int.reduceToNat]
   apply zay rfl (zab (by decide)) rfl
   ·intro r
    simp only [zaU, eX, ↓reduceIte, Nat.reduceEqDiff]
    exact ⟨rfl, Le.refl _⟩
   simp only [eX, ↓reduceIte, Nat.reduceEqDiff, Int.reduceToNat]
   apply zay rfl (zab (by decide)) rfl
   ·intro r
    simp only [zaK, eX, ↓reduceIte, Nat.reduceEqDiff]
    refine zbi Try.underlying85 sz115 ew ixA ixA ?_
    try simp only [Int.toNat_natCast]
    exact ⟨rfl, Le.refl _⟩
   simp only [eX, ↓reduceIte, Nat.reduceEqDiff, Int.reduceToNat]
   apply zay rfl (zab (by decide)) rfl
   ·intro r
    simp only [zah, fa115_0, zap, Nat.reduceAdd, Nat.zero_add, eX, ↓reduceIte, Nat.reduceEqDiff]
    exact ⟨rfl, Le.refl _⟩
   simp only [eX, ↓reduceIte, Nat.reduceEqDiff, Int.reduceToNat]
   apply TW_look rfl (zab (by decide)) rfl
   ·intro r
    simp only [zan, eX, ↓reduceIte, Nat.reduceEqDiff]
    refine zak Try.underlying3 rfl (by rw [hR5]; exact zax _ _ _) (v := .int .i64 (W.getD k default).at_) (by first | exact cell_at Wt.len atw rfl k (by omega) 0 (by decide) | (rw [cell_at Wt.len atw rfl k (by omega) 0 (by decide)]; rfl)) ?_
    exact ⟨rfl, Le.refl _⟩
   simp only [eX, ↓reduceIte, Nat.reduceEqDiff, Int.reduceToNat]
   apply zay rfl (zab (by decide)) rfl
   ·intro r
    simp only [zaU, eX, ↓reduceIte, Nat.reduceEqDiff]
    exact ⟨rfl, Le.refl _⟩
   simp only [eX, ↓reduceIte, Nat.reduceEqDiff, Int.reduceToNat]
   apply zay rfl (zab (by decide)) rfl
   ·intro r
    simp only [zaU, eX, ↓reduceIte, Nat.reduceEqDiff]
    exact ⟨rfl, Le.refl _⟩
   simp only [eX, ↓reduceIte, Nat.reduceEqDiff, Int.reduceToNat]
   apply zay rfl (zab (by decide)) rfl
   ·intro r
    simp only [zaK, eX, ↓reduceIte, Nat.reduceEqDiff]
    refine zbi Try.underlying85 sz115 ew ixA ixA ?_
    try simp only [Int.toNat_natCast]
    exact ⟨rfl, Le.refl _⟩
   simp only [eX, ↓reduceIte, Nat.reduceEqDiff, Int.reduceToNat]
   apply zay rfl (zab (by decide)) rfl
   ·intro r
    simp only [zah, fa115_1, zap, Nat.reduceAdd, Nat.zero_add, eX, ↓reduceIte, Nat.reduceEqDiff]
    exact ⟨rfl, Le.refl _⟩
   simp only [eX, ↓reduceIte, Nat.reduceEqDiff, Int.reduceToNat]
   apply TW_look rfl (zab (by decide)) rfl
   ·intro r
    simp only [zan, eX, ↓reduceIte, Nat.reduceEqDiff]
    refine zaC Try.underlying45 rfl sz45 (by rw [hR5]; exact zax _ _ _) (by omega) ?_
    rw [ext_x atw rfl k (by omega) hsw]
    exact ⟨rfl, Le.refl _⟩
   simp only [eX, ↓reduceIte, Nat.reduceEqDiff, Int.reduceToNat]
   apply zay rfl (zab (by decide)) rfl
   ·intro r
    simp only [zaK, eX, ↓reduceIte, Nat.reduceEqDiff]
    refine zbi Try.underlying84 sz45 rfl ixA ixA ?_
    simp only [Nat.zero_add]
    exact ⟨rfl, Le.refl _⟩
   simp only [eX, ↓reduceIte, Nat.reduceEqDiff, Int.reduceToNat]
   refine TW_last rfl (zaJ) rfl (fun K hK r => ?_)
   simp only [zaL, eX, ↓reduceIte, Nat.reduceEqDiff, Int.reduceToNat]
   obtain ⟨r_, cap_, cr, e1, e2, hcr, hnr, hsr⟩ := hO.full hL
   cases e1
   have m2 := Nat.mul_le_mul_right 64 (show (W.getD k default).at_.toNat + 1 ≤ cap by omega)
   refine zaI sz45 (by simp [Sec.h]) hcr (by rw [hsr, List.size_toArray, Sec.len]; omega) (PlainL.ints _ _) (by decide) ?_
   have hO' := OwnS.row Sec.len hO hcr (doneL_len _ _).symm (i := (W.getD k default).at_.toNat) (by omega) (W.getD k default).x
   rw [← doneL_next L W k (by omega)] at hO'
   refine hK _ _ ?_; clear hK K
   refine TW_nil ?_
   try simp only [Ex.thnH, Ex.inBlockH, ↓reduceIte, Nat.reduceEqDiff]
   refine hK7 _ _ ?_; try clear hK7 K7
   refine zaa ?_
   refine zam rfl ?_
   refine zac (fun K hK r => ?_)
   simp (disch := (first | omega | decide)) only [zaF, zaH, b_add, zaw, zaE, zaD, zaQ, eX, ↓reduceIte, Nat.reduceEqDiff, Int.reduceToNat]
   refine hK _ _ ?_; clear hK K
   refine zao rfl ?_
   refine zae ?_
   try simp only [Ex.thnH, Ex.inBlockH, ↓reduceIte, Nat.reduceEqDiff]
   exact ⟨W.length - (k + 1), by omega, k + 1, by omega, rfl, zaP hlH hrn, hO', rfl, rfl, rfl, trivial⟩
 ·first
  |(exfalso; exact cnA c13; done)
  |skip
   (try simp only [decide_eq_true_eq, decide_eq_false_iff_not, Bool.not_eq_true, Bool.not_eq_false, Bool.and_eq_true, Bool.or_eq_true, Bool.or_eq_false_iff, Bool.not_eq_eq_eq_not, Bool.not_true, Bool.not_false] at c13)
   have hkn : k = W.length := by omega
   refine CW_exit ?_
   try simp only [Ex.thnH, Ex.inBlockH, ↓reduceIte, Nat.reduceEqDiff]
   refine hK3 _ _ ?_; try clear hK3 K3
   refine zad (fun K8 hK8 => ?_)
   refine zaa ?_
   refine zam rfl ?_
   refine zao rfl ?_
   refine zae ?_
   try simp only [Ex.thnH, Ex.inBlockH, ↓reduceIte, Nat.reduceEqDiff]
   refine hK8 _ _ ?_; try clear hK8 K8
   refine zaR ?_
   try simp only [Ex.thnH, Ex.inBlockH, ↓reduceIte, Nat.reduceEqDiff]
   refine ⟨[_], ⟨rfl, trivial⟩, _, Le.refl _, rb, cap, hlH, rfl, ?_⟩
   have := hO
   rw [hkn, List.take_of_length_le (Nat.le_refl _)] at this
   exact this
end Go.Proofs.Ytcjdkfhmlnfedaa.HL
end
section
namespace Go.Proofs.Ytcjdkfhmlnfedaa.HL
open Go Go.Proofs
set_option linter.unusedSimpArgs false
set_option linter.unusedVariables false
attribute [local irreducible] Lt Lq CW OW TW CallH
theorem rfl_cases (m : RSt) (dev : Int) : (¬ (0 ≤ dev ∧ dev < m.dv.length) ∧ m.fl dev = (m, 1)) ∨ ((0 ≤ dev ∧ dev < m.dv.length) ∧ m.step.2 = false ∧ m.fl dev = (m.step.1, 3)) ∨ ((0 ≤ dev ∧ dev < m.dv.length) ∧ m.step.2 = true ∧ m.fl dev = ({ m.step.1 with dv := m.dv.set dev.toNat ⟨doneL (m.dv.getD dev.toNat default).sec (m.dv.getD dev.toNat default).wait, []⟩ }, 0)) := by
  unfold RSt.fl
  by_cases h : 0 ≤ dev ∧ dev < m.dv.length
  · rw [if_pos h]
    have hd := m.step_dv
    generalize hq : m.step = q at *
    obtain ⟨t, b⟩ := q
    cases b with
    | true => exact .inr (.inr ⟨h, rfl, by simp only at hd; rw [← hd]⟩)
    | false => exact .inr (.inl ⟨h, rfl, rfl⟩)
  · rw [if_neg h]; exact .inl ⟨h, rfl⟩
structure RG (n : Nat) (d : RDv) : Prop where
  lo : 0 < d.sec.length
  hi : d.sec.length ≤ 5000
  w : d.wait.length ≤ n
  at_ : ∀ k, k < d.wait.length → 0 ≤ (d.wait.getD k default).at_ ∧ (d.wait.getD k default).at_ < d.sec.length
set_option maxRecDepth 100000 in
set_option maxHeartbeats 8000000 in
theorem rflush_ok (H : Hp) (a : Option Addr) (cap : Nat) (X : List RDX) (hX : RX H a cap X) (m : RSt) (hm : m.dv = rdv X) (hl : X.length ≤ 5) (n : Nat) (hn : n ≤ 1000000) (hg : ∀ i, i < X.length → RG n (X.getD i default).d) (dev : Int) : CallH Try.prog 41 #[m.v (.slice a X.length cap), .int .i64 dev] H (fun v H' => ∃ a' cap' X', X'.length = X.length ∧ Le H H' ∧ v = .tuple #[(m.fl dev).1.v (.slice a' X'.length cap'), .int .i64 (m.fl dev).2] ∧ RX H' a' cap' X' ∧ (m.fl dev).1.dv = rdv X') := by
 refine zaB (l := [_, _]) (rl := [.cell 4 38, .tmp 5]) (n := 40) Try.func41 rfl rfl rfl rfl rfl ?_
 simp only [envOf, Nat.reduceAdd]
 have hlen : m.dv.length = X.length := by rw [hm]; simp
 refine zad (fun K1 hK1 => ?_)
 refine zaa ?_
 refine zac (fun K hK r => ?_)
 simp only [x_box, Value.cells, eX, ↓reduceIte, Nat.reduceEqDiff, Int.reduceToNat]
 intro b2 hb2
 have f2_H : H b2 = none := zaj lhA hb2
 try simp only [eX, ↓reduceIte, Nat.reduceEqDiff, Int.reduceToNat]
 refine hK _ _ ?_; clear hK K
 refine zac (fun K hK r => ?_)
 simp only [x_alloc, zr38, zal, Value.cells, eX, ↓reduceIte, Nat.reduceEqDiff, Int.reduceToNat]
 intro b4 hb4
 try have n4_b2 : b2 ≠ b4 := zai hbA hb4
 have f4_H : H b4 = none := zaj lhA hb4
 try simp only [eX, ↓reduceIte, Nat.reduceEqDiff, Int.reduceToNat]
 refine hK _ _ ?_; clear hK K
 refine zao rfl ?_
 refine zae ?_
 try simp only [Ex.thnH, Ex.inBlockH, ↓reduceIte, Nat.reduceEqDiff]
 refine hK1 _ _ ?_; try clear hK1 K1
 refine zad (fun K2 hK2 => ?_)
 refine zad (fun K3 hK3 => ?_)
 refine zaa ?_
 refine zam rfl ?_
 refine zac (fun K hK r => ?_)
 simp (disch := (first | omega | decide)) only [zaF, zaH, b_lss, zaq, zar, zat, zau, zas, zav, Bool.not_true, Bool.not_false, eX, ↓reduceIte, Nat.reduceEqDiff, Int.reduceToNat]
 refine hK _ _ ?_; clear hK K
 refine zam rfl ?_
 (first | refine zbc (d := 10) rfl (fun g10 => ?_) (fun g10 => ?_) | skip)
 all_goals try (exfalso; exact cnA g10)
 all_goals (try simp only [decide_eq_true_eq, decide_eq_false_iff_not, Bool.not_eq_true, Bool.not_eq_false, Bool.and_eq_true, Bool.or_eq_true, Bool.or_eq_false_iff, Bool.not_eq_eq_eq_not, Bool.not_true, Bool.not_false] at g10)
 all_goals
  try simp only [eX, ↓reduceIte, Nat.reduceEqDiff, Int.reduceToNat]
  first
  |refine zaf rfl (zab (by decide)) rfl (fun K hK r => ?_)
   simp only [zaU, eX, ↓reduceIte, Nat.reduceEqDiff, Int.reduceToNat]
   refine hK _ _ ?_; clear hK K
  |refine zag rfl (zab (by decide)) rfl ?_
   simp only [eX, ↓reduceIte, Nat.reduceEqDiff, Int.reduceToNat]
  first
  |refine zaf rfl (zab (by decide)) rfl (fun K hK r => ?_)
   simp only [zah, fa38_0, zap, Nat.reduceAdd, Nat.zero_add, eX, ↓reduceIte, Nat.reduceEqDiff, Int.reduceToNat]
   refine hK _ _ ?_; clear hK K
  |refine zag rfl (zab (by decide)) rfl ?_
   simp only [eX, ↓reduceIte, Nat.reduceEqDiff, Int.reduceToNat]
  first
  |refine zaf rfl (zab (by decide)) rfl (fun K hK r => ?_)
   simp only [zan, eX, ↓reduceIte, Nat.reduceEqDiff, Int.reduceToNat]
   refine zak Try.underlying36 rfl hbA ldA ?_
   try simp only [eX, ↓reduceIte, Nat.reduceEqDiff, Int.reduceToNat]
   refine hK _ _ ?_; clear hK K
  |refine zag rfl (zab (by decide)) rfl ?_
   simp only [eX, ↓reduceIte, Nat.reduceEqDiff, Int.reduceToNat]
  first
  |refine zaf rfl (zab (by decide)) rfl (fun K hK r => ?_)
   simp only [zaM, l_len, List.map_toArray, List.map_cons, List.map_nil, zaS _ _ Try.underlying36, eX, ↓reduceIte, Nat.reduceEqDiff, Int.reduceToNat]
   refine hK _ _ ?_; clear hK K
  |refine zag rfl (zab (by decide)) rfl ?_
   simp only [eX, ↓reduceIte, Nat.reduceEqDiff, Int.reduceToNat]
  first
  |refine zaf rfl (zab (by decide)) rfl (fun K hK r => ?_)
   simp (disch := (first | omega | decide)) only [zaF, zaH, b_geq, zaq, zar, zat, zau, zas, zav, Bool.not_true, Bool.not_false, eX, ↓reduceIte, Nat.reduceEqDiff, Int.reduceToNat]
   refine hK _ _ ?_; clear hK K
  |refine zag rfl (zab (by decide)) rfl ?_
   simp only [eX, ↓reduceIte, Nat.reduceEqDiff, Int.reduceToNat]
  refine zac (fun K hK r => ?_)
  simp only [zbp, zaZ, HL.ite_bool, if_true, if_false, Bool.false_eq_true, eX, ↓reduceIte, Nat.reduceEqDiff, Int.reduceToNat]
  refine hK _ _ ?_; clear hK K
  refine zae ?_
  try simp only [Ex.thnH, Ex.inBlockH, ↓reduceIte, Nat.reduceEqDiff]
  refine hK3 _ _ ?_; try clear hK3 K3
  refine zaG (fun r => rfl) (fun c16 => ?_) (fun c16 => ?_)
  ·first
   |(exfalso; exact cnA c16; done)
   |skip
    (try simp only [decide_eq_true_eq, decide_eq_false_iff_not, Bool.not_eq_true, Bool.not_eq_false, Bool.and_eq_true, Bool.or_eq_true, Bool.or_eq_false_iff, Bool.not_eq_eq_eq_not, Bool.not_true, Bool.not_false] at c16)
    have hno : ¬ (0 ≤ dev ∧ dev < m.dv.length) := by omega
    refine zad (fun K4 hK4 => ?_)
    refine zaa ?_
    refine zac (fun K hK r => ?_)
    simp only [zan, eX, ↓reduceIte, Nat.reduceEqDiff, Int.reduceToNat]
    first | refine zaN Try.underlying38 rfl sz38 hbA bdA ?_ | refine zaC Try.underlying38 rfl sz38 hbA bdA ?_
    try simp only [List.extract_toArray, List.extract_eq_take_drop, Nat.zero_add, Nat.reduceAdd, Nat.reduceSub, Nat.sub_zero, List.drop_succ_cons, List.drop_zero, List.take_succ_cons, List.take_zero, List.take_nil, List.drop_nil]
    try simp only [eX, ↓reduceIte, Nat.reduceEqDiff, Int.reduceToNat]
    refine hK _ _ ?_; clear hK K
    refine zbq rfl (zaJ) (fun K hK r => ?_)
    simp only [zaL, eX, ↓reduceIte, Nat.reduceEqDiff, Int.reduceToNat]
    first | refine zaz sz38 bdA hbA bdA plA (by decide) ?_ | refine zaI sz38 bdA hbA bdA plA (by decide) ?_
    try simp only [eX, ↓reduceIte, Nat.reduceEqDiff, Int.reduceToNat]
    refine hK _ _ ?_; clear hK K
    refine zao rfl ?_
    refine zae ?_
    try simp only [Ex.thnH, Ex.inBlockH, ↓reduceIte, Nat.reduceEqDiff]
    refine hK4 _ _ ?_; try clear hK4 K4
    refine zaR ?_
    try simp only [Ex.thnH, Ex.inBlockH, ↓reduceIte, Nat.reduceEqDiff]
    refine ⟨[_, _], ⟨⟨_, rfl, zbd Try.underlying38 rfl sz38 hbA bdA⟩, rfl, trivial⟩, H, lhA, a, cap, X, rfl, Le.refl _, ?_, hX, ?_⟩
    all_goals
     rcases rfl_cases m dev with ⟨_, e⟩ | ⟨h1, _⟩ | ⟨h1, _⟩
     ·rw [e]; first | rfl | exact hm
     ·exact absurd h1 hno
     ·exact absurd h1 hno
  ·first
   |(exfalso; exact cnA c16; done)
   |skip
    (try simp only [decide_eq_true_eq, decide_eq_false_iff_not, Bool.not_eq_true, Bool.not_eq_false, Bool.and_eq_true, Bool.or_eq_true, Bool.or_eq_false_iff, Bool.not_eq_eq_eq_not, Bool.not_true, Bool.not_false] at c16)
    have hin : 0 ≤ dev ∧ dev < X.length := by omega
    refine zaO ?_
    try simp only [Ex.thnH, Ex.inBlockH, ↓reduceIte, Nat.reduceEqDiff]
    refine hK2 _ _ ?_; try clear hK2 K2
    refine zad (fun K5 hK5 => ?_)
    refine zaa ?_
    refine zac (fun K hK r => ?_)
    simp only [zan, eX, ↓reduceIte, Nat.reduceEqDiff, Int.reduceToNat]
    first | refine zaN Try.underlying38 rfl sz38 hbA bdA ?_ | refine zaC Try.underlying38 rfl sz38 hbA bdA ?_
    try simp only [List.extract_toArray, List.extract_eq_take_drop, Nat.zero_add, Nat.reduceAdd, Nat.reduceSub, Nat.sub_zero, List.drop_succ_cons, List.drop_zero, List.take_succ_cons, List.take_zero, List.take_nil, List.drop_nil]
    try simp only [eX, ↓reduceIte, Nat.reduceEqDiff, Int.reduceToNat]
    refine hK _ _ ?_; clear hK K
    refine zac (fun K hK r => ?_)
    simp only [zaT _ bd50, List.map_toArray, List.map_cons, List.map_nil, eX, ↓reduceIte, Nat.reduceEqDiff, Int.reduceToNat]
    refine (rstep_ok _ _ rfl m).mono ?_
    rintro v H' ⟨rfl, rfl⟩
    try simp only [eX, ↓reduceIte, Nat.reduceEqDiff, Int.reduceToNat]
    refine hK _ _ ?_; clear hK K
    refine zam rfl ?_
    refine zac (fun K hK r => ?_)
    simp only [zaW, zaX, List.getElem?_toArray, List.getElem?_cons_zero, List.getElem?_cons_succ, zal, eX, ↓reduceIte, Nat.reduceEqDiff, Int.reduceToNat]
    refine hK _ _ ?_; clear hK K
    refine zac (fun K hK r => ?_)
    simp only [zaW, zaX, List.getElem?_toArray, List.getElem?_cons_zero, List.getElem?_cons_succ, zal, eX, ↓reduceIte, Nat.reduceEqDiff, Int.reduceToNat]
    refine hK _ _ ?_; clear hK K
    refine zbq rfl (zaJ) (fun K hK r => ?_)
    simp only [zaL, eX, ↓reduceIte, Nat.reduceEqDiff, Int.reduceToNat]
    first | refine zaz sz38 bdA hbA bdA plA (by decide) ?_ | refine zaI sz38 bdA hbA bdA plA (by decide) ?_
    try simp only [eX, ↓reduceIte, Nat.reduceEqDiff, Int.reduceToNat]
    refine hK _ _ ?_; clear hK K
    refine zao rfl ?_
    refine zae ?_
    try simp only [Ex.thnH, Ex.inBlockH, ↓reduceIte, Nat.reduceEqDiff]
    refine hK5 _ _ ?_; try clear hK5 K5
    refine zad (fun K6 hK6 => ?_)
    refine zad (fun K7 hK7 => ?_)
    refine zaa ?_
    refine zam rfl ?_
    refine zac (fun K hK r => ?_)
    simp only [x_un, u_not, eX, ↓reduceIte, Nat.reduceEqDiff, Int.reduceToNat]
    refine hK _ _ ?_; clear hK K
    refine zae ?_
    try simp only [Ex.thnH, Ex.inBlockH, ↓reduceIte, Nat.reduceEqDiff]
    refine hK7 _ _ ?_; try clear hK7 K7
    refine zaG (fun r => rfl) (fun c24 => ?_) (fun c24 => ?_)
    ·first
     |(exfalso; exact cnA c24; done)
     |skip
      (try simp only [decide_eq_true_eq, decide_eq_false_iff_not, Bool.not_eq_true, Bool.not_eq_false, Bool.and_eq_true, Bool.or_eq_true, Bool.or_eq_false_iff, Bool.not_eq_eq_eq_not, Bool.not_true, Bool.not_false] at c24)
      have hst : m.step.2 = false := by simpa using c24
      refine zad (fun K8 hK8 => ?_)
      refine zaa ?_
      refine zac (fun K hK r => ?_)
      simp only [zan, eX, ↓reduceIte, Nat.reduceEqDiff, Int.reduceToNat]
      first | refine zaN Try.underlying38 rfl sz38 hbA bdA ?_ | refine zaC Try.underlying38 rfl sz38 hbA bdA ?_
      try simp only [List.extract_toArray, List.extract_eq_take_drop, Nat.zero_add, Nat.reduceAdd, Nat.reduceSub, Nat.sub_zero, List.drop_succ_cons, List.drop_zero, List.take_succ_cons, List.take_zero, List.take_nil, List.drop_nil]
      try simp only [eX, ↓reduceIte, Nat.reduceEqDiff, Int.reduceToNat]
      refine hK _ _ ?_; clear hK K
      refine zbq rfl (zaJ) (fun K hK r => ?_)
      simp only [zaL, eX, ↓reduceIte, Nat.reduceEqDiff, Int.reduceToNat]
      first | refine zaz sz38 bdA hbA bdA plA (by decide) ?_ | refine zaI sz38 bdA hbA bdA plA (by decide) ?_
      try simp only [eX, ↓reduceIte, Nat.reduceEqDiff, Int.reduceToNat]
      refine hK _ _ ?_; clear hK K
      refine zao rfl ?_
      refine zae ?_
      try simp only [Ex.thnH, Ex.inBlockH, ↓reduceIte, Nat.reduceEqDiff]
      refine hK8 _ _ ?_; try clear hK8 K8
      refine zaR ?_
      try simp only [Ex.thnH, Ex.inBlockH, ↓reduceIte, Nat.reduceEqDiff]
      refine ⟨[_, _], ⟨⟨_, rfl, zbd Try.underlying38 rfl sz38 hbA bdA⟩, rfl, trivial⟩, H, lhA, a, cap, X, rfl, Le.refl _, ?_, hX, ?_⟩
      all_goals
       rcases rfl_cases m dev with ⟨h1, _⟩ | ⟨_, _, e⟩ | ⟨_, h1, _⟩
       ·exact absurd (by rw [hlen]; exact hin) h1
       ·rw [e]; first | rfl | (show m.step.1.dv = _; rw [m.step_dv]; exact hm)
       ·rw [hst] at h1; cases h1
    ·first
     |(exfalso; exact cnA c24; done)
     |skip
      (try simp only [decide_eq_true_eq, decide_eq_false_iff_not, Bool.not_eq_true, Bool.not_eq_false, Bool.and_eq_true, Bool.or_eq_true, Bool.or_eq_false_iff, Bool.not_eq_eq_eq_not, Bool.not_true, Bool.not_false] at c24)
      have hst : m.step.2 = true := by simpa using c24
      obtain ⟨bw, ow, cw, Tw, Fw, ew, hbw, hsw, atw⟩ := hX.h.at (by omega)
      have hxok := hX.ok _ (getD_mem' (show dev.toNat < X.length by omega))
      refine zaO ?_
      try simp only [Ex.thnH, Ex.inBlockH, ↓reduceIte, Nat.reduceEqDiff]
      refine hK6 _ _ ?_; try clear hK6 K6
      refine zad (fun K9 hK9 => ?_)
      refine zaa ?_
      refine zac (fun K hK r => ?_)
      simp only [zah, fa38_0, zap, Nat.reduceAdd, Nat.zero_add, eX, ↓reduceIte, Nat.reduceEqDiff, Int.reduceToNat]
      refine hK _ _ ?_; clear hK K
      refine zac (fun K hK r => ?_)
      simp only [zan, eX, ↓reduceIte, Nat.reduceEqDiff, Int.reduceToNat]
      refine zak Try.underlying36 rfl hbA ldA ?_
      try simp only [eX, ↓reduceIte, Nat.reduceEqDiff, Int.reduceToNat]
      refine hK _ _ ?_; clear hK K
      refine zam rfl ?_
      refine zac (fun K hK r => ?_)
      simp only [zaK, eX, ↓reduceIte, Nat.reduceEqDiff, Int.reduceToNat]
      refine zbi Try.underlying36 sz87 ew ixA ixA ?_
      refine hK _ _ ?_; clear hK K
      refine zac (fun K hK r => ?_)
      simp only [zan, eX, ↓reduceIte, Nat.reduceEqDiff, Int.reduceToNat]
      refine zaC Try.underlying87 rfl sz87 ((show Le H _ from lhA) _ _ hbw) (by have := Nat.mul_le_mul_right 2 (show dev.toNat + 1 ≤ X.length by omega); omega) ?_
      rw [ext_at RDX.len atw rfl dev.toNat (by omega) hsw]
      refine hK _ _ ?_; clear hK K
      refine zac (fun K hK r => ?_)
      simp only [x_alloc, zr87, zal, Value.cells, eX, ↓reduceIte, Nat.reduceEqDiff, Int.reduceToNat]
      intro b7 hb7
      try have n7_b2 : b2 ≠ b7 := zai hbA hb7
      try have n7_b4 : b4 ≠ b7 := zai hbA hb7
      have f7_H : H b7 = none := zaj lhA hb7
      try simp only [eX, ↓reduceIte, Nat.reduceEqDiff, Int.reduceToNat]
      refine hK _ _ ?_; clear hK K
      refine zbq rfl (zaJ) (fun K hK r => ?_)
      simp only [zaL, eX, ↓reduceIte, Nat.reduceEqDiff, Int.reduceToNat]
      first | refine zaz sz87 bdA hbA bdA plA (by decide) ?_ | refine zaI sz87 bdA hbA bdA plA (by decide) ?_
      try simp only [eX, ↓reduceIte, Nat.reduceEqDiff, Int.reduceToNat]
      refine hK _ _ ?_; clear hK K
      refine zae ?_
      try simp only [Ex.thnH, Ex.inBlockH, ↓reduceIte, Nat.reduceEqDiff]
      refine hK9 _ _ ?_; try clear hK9 K9
      refine zad (fun K10 hK10 => ?_)
      refine CW_drawE [1, 0, 0, 1, 0, 1, 2, 0, 2, 3, 0] [0, 1, 2, 3, 4, 5, 6, 7, 8, 9, 10] (by kernel_rfl) (by kernel_rfl) (fun R7 hR7 => ?_)
      apply TW_look rfl (zab (by decide)) rfl
      ·intro r
       simp only [zan, eX, ↓reduceIte, Nat.reduceEqDiff]
       first | refine zaN Try.underlying38 rfl sz38 hbA bdA ?_ | refine zaC Try.underlying38 rfl sz38 hbA bdA ?_
       try simp only [List.extract_toArray, List.extract_eq_take_drop, Nat.zero_add, Nat.reduceAdd, Nat.reduceSub, Nat.sub_zero, List.drop_succ_cons, List.drop_zero, List.take_succ_cons, List.take_zero, List.take_nil, List.drop_nil]
       exact ⟨rfl, Le.refl _⟩
      simp only [eX, ↓reduceIte, Nat.reduceEqDiff, Int.reduceToNat]
      apply zay rfl (zab (by decide)) rfl
      ·intro r
       simp only [zaU, eX, ↓reduceIte, Nat.reduceEqDiff]
       exact ⟨rfl, Le.refl _⟩
      simp only [eX, ↓reduceIte, Nat.reduceEqDiff, Int.reduceToNat]
      apply zay rfl (zab (by decide)) rfl
      ·intro r
       simp only [zah, fa87_0, zap, Nat.reduceAdd, Nat.zero_add, eX, ↓reduceIte, Nat.reduceEqDiff]
       exact ⟨rfl, Le.refl _⟩
      simp only [eX, ↓reduceIte, Nat.reduceEqDiff, Int.reduceToNat]
      apply TW_look rfl (zab (by decide)) rfl
      ·intro r
       simp only [zan, eX, ↓reduceIte, Nat.reduceEqDiff]
       refine zak Try.underlying84 rfl hbA ldA ?_
       exact ⟨rfl, Le.refl _⟩
      simp only [eX, ↓reduceIte, Nat.reduceEqDiff, Int.reduceToNat]
      apply zay rfl (zab (by decide)) rfl
      ·intro r
       simp only [zah, fa87_1, zap, Nat.reduceAdd, Nat.zero_add, eX, ↓reduceIte, Nat.reduceEqDiff]
       exact ⟨rfl, Le.refl _⟩
      simp only [eX, ↓reduceIte, Nat.reduceEqDiff, Int.reduceToNat]
      apply TW_look rfl (zab (by decide)) rfl
      ·intro r
       simp only [zan, eX, ↓reduceIte, Nat.reduceEqDiff]
       refine zak Try.underlying85 rfl hbA ldA ?_
       exact ⟨rfl, Le.refl _⟩
      simp only [eX, ↓reduceIte, Nat.reduceEqDiff, Int.reduceToNat]
      refine TW_chain rfl (zab (by decide)) rfl (fun K hK r => ?_)
      simp only [zaT _ bd63, List.map_toArray, List.map_cons, List.map_nil, eX, ↓reduceIte, Nat.reduceEqDiff, Int.reduceToNat]
      have hgx := hg dev.toNat (by omega)
      refine (rdone_ok _ (X.getD dev.toNat default).sa (X.getD dev.toNat default).sc (X.getD dev.toNat default).d.sec (hxok.s.le lhA) (X.getD dev.toNat default).wa (X.getD dev.toNat default).wc (X.getD dev.toNat default).d.wait (hxok.w.le lhA) hgx.lo hgx.hi (Nat.le_trans hgx.w hn) hgx.at_).mono ?_
      rintro v37 H37 ⟨rb, sc', l37, rfl, ho37⟩
      have lR37 : Le R7 H37 := by rw [hR7]; exact l37
      have lH37 : Le H H37 := Le.trans lhA l37
      have kc4 := l37 b4 _ hbA
      try simp only [eX, ↓reduceIte, Nat.reduceEqDiff, Int.reduceToNat]
      refine hK _ _ leA ?_; clear hK K
      apply zay rfl (zab (by decide)) rfl
      ·intro r
       simp only [x_build, bp87, List.map_toArray, List.map_cons, List.map_nil, eX, ↓reduceIte, Nat.reduceEqDiff]
       rw [fill_one rfl clA bdA]
       simp only [fill_nil, zal, List.setIfInBounds_toArray, List.set_cons_zero, List.set_cons_succ]
       exact ⟨rfl, Le.refl _⟩
      simp only [eX, ↓reduceIte, Nat.reduceEqDiff, Int.reduceToNat]
      refine TW_chain rfl (zab (by decide)) rfl (fun K hK r => ?_)
      simp only [zaT _ bd51, List.map_toArray, List.map_cons, List.map_nil, eX, ↓reduceIte, Nat.reduceEqDiff, Int.reduceToNat]
      obtain ⟨y, hy⟩ : ∃ y : RDX, y = ⟨some ⟨rb, 0, none⟩, sc', none, 0, ⟨doneL (X.getD dev.toNat default).d.sec (X.getD dev.toNat default).d.wait, []⟩⟩ := ⟨_, rfl⟩
      have z4 := ho37.neT kc4 (by decide)
      have leS : Le H (H37.del b4) := fun z o hz => (del_ne _ (fun e => by subst e; rw [f4_H] at hz; cases hz)).trans (lH37 z o hz)
      have hyok : y.ok (H37.del b4) := by
       rw [hy]
       refine ⟨?_, ⟨rfl, .inl ⟨none, 0, rfl, rfl⟩⟩⟩
       have := (ho37.stay (H' := H37.del b4) (fun b o hb ho => (del_ne _ (fun e => z4 (by rw [← e]; exact hb))).trans ho)).holds
       rw [← doneL_len (X.getD dev.toNat default).d.wait (X.getD dev.toNat default).d.sec] at this
       exact this
      have hcall := CallH.use (rwith_ok _ a cap X (hX.le leS) m.step.1 hl dev hin y hyok) (le_del H37 b4)
      have eyc : y.c = [.slice (some ⟨rb, 0, none⟩) (X.getD dev.toNat default).d.sec.length sc', .slice none 0 0] := by rw [hy]; simp only [RDX.c, doneL_len, List.length_nil]
      rw [eyc] at hcall
      refine hcall.mono ?_
      rintro v39 H39 ⟨G, ⟨a', cap', l39, rfl, hX39⟩, lG, hkeep⟩
      obtain ⟨k4, g4⟩ := hkeep b4 _ kc4 (by simp [Hp.del])
      have lK39 : Le H37 H39 := fun z o hz => by
       by_cases e : z = b4
       ·subst e; rw [kc4] at hz; cases hz; exact k4
       ·exact lG _ _ (l39 _ _ ((del_ne _ e).trans hz))
      have lR39 : Le R7 H39 := Le.trans lR37 lK39
      try simp only [eX, ↓reduceIte, Nat.reduceEqDiff, Int.reduceToNat]
      refine hK _ _ leA ?_; clear hK K
      refine TW_last rfl (zaJ) rfl (fun K hK r => ?_)
      simp only [zaL, eX, ↓reduceIte, Nat.reduceEqDiff, Int.reduceToNat]
      first | refine zaz sz38 bdA hbA bdA plA (by decide) ?_ | refine zaI sz38 bdA hbA bdA plA (by decide) ?_
      try simp only [eX, ↓reduceIte, Nat.reduceEqDiff, Int.reduceToNat]
      refine hK _ _ ?_; clear hK K
      apply zay rfl (zab (by decide)) rfl
      ·intro r
       simp only [x_assign, eX, ↓reduceIte, Nat.reduceEqDiff]
       exact ⟨rfl, Le.refl _⟩
      simp only [eX, ↓reduceIte, Nat.reduceEqDiff, Int.reduceToNat]
      refine TW_nil ?_
      try simp only [Ex.thnH, Ex.inBlockH, ↓reduceIte, Nat.reduceEqDiff]
      refine hK10 _ _ ?_; try clear hK10 K10
      refine zaR ?_
      try simp only [Ex.thnH, Ex.inBlockH, ↓reduceIte, Nat.reduceEqDiff]
      refine ⟨[_, _], ⟨⟨_, rfl, zbd Try.underlying38 rfl sz38 hbA bdA⟩, rfl, trivial⟩, _, Le.refl _, a', cap', X.set dev.toNat y, by simp, zaP (Le.trans (Le.trans leS l39) lG) f4_H, ?_, hX39.le (zaP lG g4), ?_⟩
      all_goals
       rcases rfl_cases m dev with ⟨h1, _⟩ | ⟨_, h1, _⟩ | ⟨_, _, e⟩
       ·exact absurd (by rw [hlen]; exact hin) h1
       ·rw [hst] at h1; cases h1
       ·rw [e]; first | (rw [List.length_set]; rfl) | (show m.dv.set dev.toNat _ = _; rw [show rdv (X.set dev.toNat y) = (rdv X).set dev.toNat y.d from List.map_set, hm, rdv_at, hy])
end Go.Proofs.Ytcjdkfhmlnfedaa.HL
end
section
namespace Go.Proofs.Ytcjdkfhmlnfedaa.HL
open Go Go.Proofs
set_option linter.unusedSimpArgs false
set_option linter.unusedVariables false
attribute [local irreducible] Lt Lq CW OW TW CallH
set_option maxRecDepth 100000 in
set_option maxHeartbeats 8000000 in
theorem rread_ok (H : Hp) (a : Option Addr) (cap : Nat) (X : List RDX) (hX : RX H a cap X) (m : RSt) (hm : m.dv = rdv X) (hl : X.length ≤ 5) (n : Nat) (hn : n ≤ 1000000) (hg : ∀ i, i < X.length → RG n (X.getD i default).d) (dev i : Int) : CallH Try.prog 56 #[m.v (.slice a X.length cap), .int .i64 dev, .int .i64 i] H (fun v H' => v = .tuple #[(m.rd dev i).1.v, .int .i64 (m.rd dev i).2] ∧ H' = H) := by
 refine zaB (l := [_, _, _]) (rl := [.cell 6 45, .tmp 7]) (n := 51) Try.func56 rfl rfl rfl rfl rfl ?_
 simp only [envOf, Nat.reduceAdd]
 refine zad (fun K1 hK1 => ?_)
 refine zaa ?_
 refine zac (fun K hK r => ?_)
 simp only [x_box, Value.cells, eX, ↓reduceIte, Nat.reduceEqDiff, Int.reduceToNat]
 intro b3 hb3
 have f3_H : H b3 = none := zaj lhA hb3
 try simp only [eX, ↓reduceIte, Nat.reduceEqDiff, Int.reduceToNat]
 refine hK _ _ ?_; clear hK K
 refine zac (fun K hK r => ?_)
 simp only [x_alloc, zr45, zal, Value.cells, eX, ↓reduceIte, Nat.reduceEqDiff, Int.reduceToNat]
 intro b6 hb6
 try have n6_b3 : b3 ≠ b6 := zai hbA hb6
 have f6_H : H b6 = none := zaj lhA hb6
 try simp only [eX, ↓reduceIte, Nat.reduceEqDiff, Int.reduceToNat]
 refine hK _ _ ?_; clear hK K
 refine zao rfl ?_
 refine zae ?_
 try simp only [Ex.thnH, Ex.inBlockH, ↓reduceIte, Nat.reduceEqDiff]
 refine hK1 _ _ ?_; try clear hK1 K1
 refine zad (fun K2 hK2 => ?_)
 refine zad (fun K3 hK3 => ?_)
 refine zaa ?_
 refine zac (fun K hK r => ?_)
 simp only [zah, fa38_4, zap, Nat.reduceAdd, Nat.zero_add, eX, ↓reduceIte, Nat.reduceEqDiff, Int.reduceToNat]
 refine hK _ _ ?_; clear hK K
 refine zac (fun K hK r => ?_)
 simp only [zan, eX, ↓reduceIte, Nat.reduceEqDiff, Int.reduceToNat]
 refine zak Try.underlying4 rfl hbA ldA ?_
 try simp only [eX, ↓reduceIte, Nat.reduceEqDiff, Int.reduceToNat]
 refine hK _ _ ?_; clear hK K
 refine zae ?_
 try simp only [Ex.thnH, Ex.inBlockH, ↓reduceIte, Nat.reduceEqDiff]
 refine hK3 _ _ ?_; try clear hK3 K3
 refine zaG (fun r => rfl) (fun c11 => ?_) (fun c11 => ?_)
 ·first
  |(exfalso; exact cnA c11; done)
  |skip
   have hgo : m.gone = true := c11
   refine zad (fun K4 hK4 => ?_)
   refine zaa ?_
   refine zac (fun K hK r => ?_)
   simp only [x_build, List.map_toArray, List.map_cons, List.map_nil, eX, ↓reduceIte, Nat.reduceEqDiff, Int.reduceToNat]
   rw [l_buildArr Try.underlying45 sz5 zr45]
   simp only [Value.cells]
   simp only [fill_nil, zal, List.setIfInBounds_toArray, List.set_cons_zero, List.set_cons_succ]
   try simp only [eX, ↓reduceIte, Nat.reduceEqDiff, Int.reduceToNat]
   refine hK _ _ ?_; clear hK K
   refine zbq rfl (zaJ) (fun K hK r => ?_)
   simp only [zaL, eX, ↓reduceIte, Nat.reduceEqDiff, Int.reduceToNat]
   first | refine zaz sz45 bdA hbA bdA plA (by decide) ?_ | refine zaI sz45 bdA hbA bdA plA (by decide) ?_
   try simp only [eX, ↓reduceIte, Nat.reduceEqDiff, Int.reduceToNat]
   refine hK _ _ ?_; clear hK K
   refine zao rfl ?_
   refine zae ?_
   try simp only [Ex.thnH, Ex.inBlockH, ↓reduceIte, Nat.reduceEqDiff]
   refine hK4 _ _ ?_; try clear hK4 K4
   refine zaR ?_
   try simp only [Ex.thnH, Ex.inBlockH, ↓reduceIte, Nat.reduceEqDiff]
   refine ⟨[_, _], ⟨⟨_, rfl, zbd Try.underlying45 rfl sz45 hbA (by simp [Sec.h])⟩, rfl, trivial⟩, H, lhA, ?_, rfl⟩
   show Value.tuple _ = _
   unfold RSt.rd; rw [if_pos hgo]; rfl
 ·first
  |(exfalso; exact cnA c11; done)
  |skip
   have hgo : m.gone = false := by simpa using c11
   refine zaO ?_
   try simp only [Ex.thnH, Ex.inBlockH, ↓reduceIte, Nat.reduceEqDiff]
   refine hK2 _ _ ?_; try clear hK2 K2
   refine zad (fun K5 hK5 => ?_)
   refine zad (fun K6 hK6 => ?_)
   refine zaa ?_
   refine zac (fun K hK r => ?_)
   simp only [zan, eX, ↓reduceIte, Nat.reduceEqDiff, Int.reduceToNat]
   first | refine zaN Try.underlying38 rfl sz38 hbA bdA ?_ | refine zaC Try.underlying38 rfl sz38 hbA bdA ?_
   try simp only [List.extract_toArray, List.extract_eq_take_drop, Nat.zero_add, Nat.reduceAdd, Nat.reduceSub, Nat.sub_zero, List.drop_succ_cons, List.drop_zero, List.take_succ_cons, List.take_zero, List.take_nil, List.drop_nil]
   try simp only [eX, ↓reduceIte, Nat.reduceEqDiff, Int.reduceToNat]
   refine hK _ _ ?_; clear hK K
   refine zam rfl ?_
   refine zam rfl ?_
   refine zac (fun K hK r => ?_)
   simp only [zaT _ bd49, List.map_toArray, List.map_cons, List.map_nil, eX, ↓reduceIte, Nat.reduceEqDiff, Int.reduceToNat]
   refine (rhas_ok _ a cap X (hX.le lhA) m hm dev i).mono ?_
   rintro v H' ⟨rfl, rfl⟩
   try simp only [eX, ↓reduceIte, Nat.reduceEqDiff, Int.reduceToNat]
   refine hK _ _ ?_; clear hK K
   refine zac (fun K hK r => ?_)
   simp only [x_un, u_not, eX, ↓reduceIte, Nat.reduceEqDiff, Int.reduceToNat]
   refine hK _ _ ?_; clear hK K
   refine zae ?_
   try simp only [Ex.thnH, Ex.inBlockH, ↓reduceIte, Nat.reduceEqDiff]
   refine hK6 _ _ ?_; try clear hK6 K6
   refine zaG (fun r => rfl) (fun c17 => ?_) (fun c17 => ?_)
   ·first
    |(exfalso; exact cnA c17; done)
    |skip
     (try simp only [decide_eq_true_eq, decide_eq_false_iff_not, Bool.not_eq_true, Bool.not_eq_false, Bool.and_eq_true, Bool.or_eq_true, Bool.or_eq_false_iff, Bool.not_eq_eq_eq_not, Bool.not_true, Bool.not_false] at c17)
     have hno : m.has dev i = false := by simpa using c17
     refine zad (fun K7 hK7 => ?_)
     refine zaa ?_
     refine zac (fun K hK r => ?_)
     simp only [x_build, List.map_toArray, List.map_cons, List.map_nil, eX, ↓reduceIte, Nat.reduceEqDiff, Int.reduceToNat]
     rw [l_buildArr Try.underlying45 sz5 zr45]
     simp only [Value.cells]
     simp only [fill_nil, zal, List.setIfInBounds_toArray, List.set_cons_zero, List.set_cons_succ]
     try simp only [eX, ↓reduceIte, Nat.reduceEqDiff, Int.reduceToNat]
     refine hK _ _ ?_; clear hK K
     refine zbq rfl (zaJ) (fun K hK r => ?_)
     simp only [zaL, eX, ↓reduceIte, Nat.reduceEqDiff, Int.reduceToNat]
     first | refine zaz sz45 bdA hbA bdA plA (by decide) ?_ | refine zaI sz45 bdA hbA bdA plA (by decide) ?_
     try simp only [eX, ↓reduceIte, Nat.reduceEqDiff, Int.reduceToNat]
     refine hK _ _ ?_; clear hK K
     refine zao rfl ?_
     refine zae ?_
     try simp only [Ex.thnH, Ex.inBlockH, ↓reduceIte, Nat.reduceEqDiff]
     refine hK7 _ _ ?_; try clear hK7 K7
     refine zaR ?_
     try simp only [Ex.thnH, Ex.inBlockH, ↓reduceIte, Nat.reduceEqDiff]
     refine ⟨[_, _], ⟨⟨_, rfl, zbd Try.underlying45 rfl sz45 hbA (by simp [Sec.h])⟩, rfl, trivial⟩, H, lhA, ?_, rfl⟩
     show Value.tuple _ = _
     unfold RSt.rd; rw [if_neg (by rw [hgo]; simp), if_neg (by rw [hno]; simp)]; rfl
   ·first
    |(exfalso; exact cnA c17; done)
    |skip
     (try simp only [decide_eq_true_eq, decide_eq_false_iff_not, Bool.not_eq_true, Bool.not_eq_false, Bool.and_eq_true, Bool.or_eq_true, Bool.or_eq_false_iff, Bool.not_eq_eq_eq_not, Bool.not_true, Bool.not_false] at c17)
     have hyes : m.has dev i = true := by simpa using c17
     have hin : (0 ≤ dev ∧ dev < X.length) ∧ (0 ≤ i ∧ i < (X.getD dev.toNat default).d.sec.length) := by
      have := hyes
      unfold RSt.has at this
      rw [Bool.and_eq_true, decide_eq_true_eq, decide_eq_true_eq, hm, rdv_at, List.length_map] at this
      exact this
     have hrd : m.rd dev i = ((lastW (X.getD dev.toNat default).d.wait i).getD ((X.getD dev.toNat default).d.sec.getD i.toNat default), 0) := by
      unfold RSt.rd; rw [if_neg (by rw [hgo]; simp), if_pos hyes, hm, rdv_at]
     obtain ⟨bw, ow, cw, Tw, Fw, ew, hbw, hsw, atw⟩ := hX.h.at (by omega)
     have hxok := hX.ok _ (getD_mem' (show dev.toNat < X.length by omega))
     have hgx := hg dev.toNat (by omega)
     have hwl := Nat.le_trans hgx.w hn
     obtain ⟨bs, os, cs, Ts, Fs, es, hbs, hss, ats⟩ := hxok.s.at hgx.lo
     have m1 := Nat.mul_le_mul_right 64 (show i.toNat + 1 ≤ (X.getD dev.toNat default).d.sec.length by omega)
     refine zaO ?_
     try simp only [Ex.thnH, Ex.inBlockH, ↓reduceIte, Nat.reduceEqDiff]
     refine hK5 _ _ ?_; try clear hK5 K5
     refine zad (fun K8 hK8 => ?_)
     refine zaa ?_
     refine zac (fun K hK r => ?_)
     simp only [zah, fa38_0, zap, Nat.reduceAdd, Nat.zero_add, eX, ↓reduceIte, Nat.reduceEqDiff, Int.reduceToNat]
     refine hK _ _ ?_; clear hK K
     refine zac (fun K hK r => ?_)
     simp only [zan, eX, ↓reduceIte, Nat.reduceEqDiff, Int.reduceToNat]
     refine zak Try.underlying36 rfl hbA ldA ?_
     try simp only [eX, ↓reduceIte, Nat.reduceEqDiff, Int.reduceToNat]
     refine hK _ _ ?_; clear hK K
     refine zam rfl ?_
     refine zac (fun K hK r => ?_)
     simp only [zaK, eX, ↓reduceIte, Nat.reduceEqDiff, Int.reduceToNat]
     refine zbi Try.underlying36 sz87 ew ixA ixA ?_
     refine hK _ _ ?_; clear hK K
     refine zac (fun K hK r => ?_)
     simp only [zan, eX, ↓reduceIte, Nat.reduceEqDiff, Int.reduceToNat]
     refine zaC Try.underlying87 rfl sz87 ((show Le H _ from lhA) _ _ hbw) (by have := Nat.mul_le_mul_right 2 (show dev.toNat + 1 ≤ X.length by omega); omega) ?_
     rw [ext_at RDX.len atw rfl dev.toNat (by omega) hsw]
     refine hK _ _ ?_; clear hK K
     refine zac (fun K hK r => ?_)
     simp only [x_alloc, zr87, zal, Value.cells, eX, ↓reduceIte, Nat.reduceEqDiff, Int.reduceToNat]
     intro b8 hb8
     try have n8_b3 : b3 ≠ b8 := zai hbA hb8
     try have n8_b6 : b6 ≠ b8 := zai hbA hb8
     have f8_H : H b8 = none := zaj lhA hb8
     try simp only [eX, ↓reduceIte, Nat.reduceEqDiff, Int.reduceToNat]
     refine hK _ _ ?_; clear hK K
     refine zbq rfl (zaJ) (fun K hK r => ?_)
     simp only [zaL, eX, ↓reduceIte, Nat.reduceEqDiff, Int.reduceToNat]
     first | refine zaz sz87 bdA hbA bdA plA (by decide) ?_ | refine zaI sz87 bdA hbA bdA plA (by decide) ?_
     try simp only [eX, ↓reduceIte, Nat.reduceEqDiff, Int.reduceToNat]
     refine hK _ _ ?_; clear hK K
     refine zae ?_
     try simp only [Ex.thnH, Ex.inBlockH, ↓reduceIte, Nat.reduceEqDiff]
     refine hK8 _ _ ?_; try clear hK8 K8
     refine zad (fun K9 hK9 => ?_)
     refine zad (fun K10 hK10 => ?_)
     refine zaa ?_
     refine zac (fun K hK r => ?_)
     simp only [zah, fa87_1, zap, Nat.reduceAdd, Nat.zero_add, eX, ↓reduceIte, Nat.reduceEqDiff, Int.reduceToNat]
     refine hK _ _ ?_; clear hK K
     refine zac (fun K hK r => ?_)
     simp only [zan, eX, ↓reduceIte, Nat.reduceEqDiff, Int.reduceToNat]
     refine zak Try.underlying85 rfl hbA ldA ?_
     try simp only [eX, ↓reduceIte, Nat.reduceEqDiff, Int.reduceToNat]
     refine hK _ _ ?_; clear hK K
     refine zac (fun K hK r => ?_)
     simp only [zaM, l_len, List.map_toArray, List.map_cons, List.map_nil, zaS _ _ Try.underlying85, eX, ↓reduceIte, Nat.reduceEqDiff, Int.reduceToNat]
     refine hK _ _ ?_; clear hK K
     refine zac (fun K hK r => ?_)
     simp (disch := (first | omega | decide)) only [zaF, zaH, b_sub, zaw, zaE, zaD, zaQ, eX, ↓reduceIte, Nat.reduceEqDiff, Int.reduceToNat]
     refine hK _ _ ?_; clear hK K
     refine zao rfl ?_
     refine zae ?_
     try simp only [Ex.thnH, Ex.inBlockH, ↓reduceIte, Nat.reduceEqDiff]
     refine hK10 _ _ ?_; try clear hK10 K10
     refine zaV ?_
     refine CW_loop (fun m_ e H_ => ∃ k : Nat, k ≤ (X.getD dev.toNat default).d.wait.length ∧ m_ = (X.getD dev.toNat default).d.wait.length - k ∧ (∀ t, t < k → ((X.getD dev.toNat default).d.wait.getD ((X.getD dev.toNat default).d.wait.length - 1 - t) default).at_ ≠ i) ∧ H_ = (((H.upd b3 (.cells (m.c (.slice a X.length cap)).toArray 38)).upd b6 (.cells (Array.replicate 64 (.int .u8 0)) 45)).upd b8 (.cells (X.getD dev.toNat default).c.toArray 87)) ∧ Env.has [(2, .int .i64 i), (3, .pointer (some ⟨b3, 0, none⟩)), (6, .pointer (some ⟨b6, 0, none⟩)), (8, .pointer (some ⟨b8, 0, none⟩)), (9, .int .i64 (((X.getD dev.toNat default).d.wait.length : Int) - 1 - k))] e) ((X.getD dev.toNat default).d.wait.length) ?_ ?_
     ·skip
      refine ⟨0, by omega, by omega, (fun t ht => absurd ht (by omega)), rfA, rfl, rfl, rfl, rfl, ?_, trivial⟩
      show some (Value.int _ _) = some (Value.int _ _)
      congr 2; omega
     intro m_ e_ H_ hI_
     obtain ⟨k, hk, rfl, hnw, rfl, he⟩ := hI_
     refine CW_env he.sub ?_; clear he e_
     refine zad (fun K11 hK11 => ?_)
     refine zad (fun K12 hK12 => ?_)
     refine zaa ?_
     refine zam rfl ?_
     refine zac (fun K hK r => ?_)
     simp (disch := (first | omega | decide)) only [zaF, zaH, b_geq, zaq, zar, zat, zau, zas, zav, Bool.not_true, Bool.not_false, eX, ↓reduceIte, Nat.reduceEqDiff, Int.reduceToNat]
     refine hK _ _ ?_; clear hK K
     refine zae ?_
     try simp only [Ex.thnH, Ex.inBlockH, ↓reduceIte, Nat.reduceEqDiff]
     refine hK12 _ _ ?_; try clear hK12 K12
     refine zaG (fun r => rfl) (fun c29 => ?_) (fun c29 => ?_)
     ·first
      |(exfalso; exact cnA c29; done)
      |skip
       (try simp only [decide_eq_true_eq, decide_eq_false_iff_not, Bool.not_eq_true, Bool.not_eq_false, Bool.and_eq_true, Bool.or_eq_true, Bool.or_eq_false_iff, Bool.not_eq_eq_eq_not, Bool.not_true, Bool.not_false] at c29)
       obtain ⟨bv, ov, cv, Tv, Fv, ew2, hbv, hsv, atv⟩ := hxok.w.at (by omega)
       have m2 := Nat.mul_le_mul_right 65 (show ((X.getD dev.toNat default).d.wait.length - 1 - k) + 1 ≤ (X.getD dev.toNat default).d.wait.length by omega)
       refine zaO ?_
       try simp only [Ex.thnH, Ex.inBlockH, ↓reduceIte, Nat.reduceEqDiff]
       refine hK11 _ _ ?_; try clear hK11 K11
       refine zad (fun K13 hK13 => ?_)
       refine zaV ?_
       refine zad (fun K14 hK14 => ?_)
       refine zaa ?_
       refine zac (fun K hK r => ?_)
       simp only [zah, fa87_1, zap, Nat.reduceAdd, Nat.zero_add, eX, ↓reduceIte, Nat.reduceEqDiff, Int.reduceToNat]
       refine hK _ _ ?_; clear hK K
       refine zac (fun K hK r => ?_)
       simp only [zan, eX, ↓reduceIte, Nat.reduceEqDiff, Int.reduceToNat]
       refine zak Try.underlying85 rfl hbA ldA ?_
       try simp only [eX, ↓reduceIte, Nat.reduceEqDiff, Int.reduceToNat]
       refine hK _ _ ?_; clear hK K
       refine zam rfl ?_
       refine zac (fun K hK r => ?_)
       simp only [zaK, eX, ↓reduceIte, Nat.reduceEqDiff, Int.reduceToNat]
       refine zbi Try.underlying85 sz115 ew2 ixA ixA ?_
       rw [show (((X.getD dev.toNat default).d.wait.length : Int) - 1 - k).toNat = (X.getD dev.toNat default).d.wait.length - 1 - k from by omega]
       refine hK _ _ ?_; clear hK K
       refine zac (fun K hK r => ?_)
       simp only [zah, fa115_0, zap, Nat.reduceAdd, Nat.zero_add, eX, ↓reduceIte, Nat.reduceEqDiff, Int.reduceToNat]
       refine hK _ _ ?_; clear hK K
       refine zac (fun K hK r => ?_)
       simp only [zan, eX, ↓reduceIte, Nat.reduceEqDiff, Int.reduceToNat]
       refine zak Try.underlying3 rfl ((show Le H _ from lhA) _ _ hbv) (v := .int .i64 ((X.getD dev.toNat default).d.wait.getD ((X.getD dev.toNat default).d.wait.length - 1 - k) default).at_) (by first | exact cell_at Wt.len atv rfl ((X.getD dev.toNat default).d.wait.length - 1 - k) (by omega) 0 (by decide) | (rw [cell_at Wt.len atv rfl ((X.getD dev.toNat default).d.wait.length - 1 - k) (by omega) 0 (by decide)]; rfl)) ?_
       refine hK _ _ ?_; clear hK K
       refine zam rfl ?_
       refine zac (fun K hK r => ?_)
       simp (disch := (first | omega | decide)) only [zaF, zaH, b_eql, zaq, zar, zat, zau, zas, zav, Bool.not_true, Bool.not_false, eX, ↓reduceIte, Nat.reduceEqDiff, Int.reduceToNat]
       refine hK _ _ ?_; clear hK K
       refine zae ?_
       try simp only [Ex.thnH, Ex.inBlockH, ↓reduceIte, Nat.reduceEqDiff]
       refine hK14 _ _ ?_; try clear hK14 K14
       refine zaG (fun r => rfl) (fun c39 => ?_) (fun c39 => ?_)
       ·first
        |(exfalso; exact cnA c39; done)
        |skip
         (try simp only [decide_eq_true_eq, decide_eq_false_iff_not, Bool.not_eq_true, Bool.not_eq_false, Bool.and_eq_true, Bool.or_eq_true, Bool.or_eq_false_iff, Bool.not_eq_eq_eq_not, Bool.not_true, Bool.not_false] at c39)
         refine zad (fun K15 hK15 => ?_)
         refine zaa ?_
         refine zac (fun K hK r => ?_)
         simp only [zah, fa87_1, zap, Nat.reduceAdd, Nat.zero_add, eX, ↓reduceIte, Nat.reduceEqDiff, Int.reduceToNat]
         refine hK _ _ ?_; clear hK K
         refine zac (fun K hK r => ?_)
         simp only [zan, eX, ↓reduceIte, Nat.reduceEqDiff, Int.reduceToNat]
         refine zak Try.underlying85 rfl hbA ldA ?_
         try simp only [eX, ↓reduceIte, Nat.reduceEqDiff, Int.reduceToNat]
         refine hK _ _ ?_; clear hK K
         refine zac (fun K hK r => ?_)
         simp only [zaU, eX, ↓reduceIte, Nat.reduceEqDiff, Int.reduceToNat]
         refine hK _ _ ?_; clear hK K
         refine zac (fun K hK r => ?_)
         simp only [zaK, eX, ↓reduceIte, Nat.reduceEqDiff, Int.reduceToNat]
         refine zbi Try.underlying85 sz115 ew2 ixA ixA ?_
         rw [show (((X.getD dev.toNat default).d.wait.length : Int) - 1 - k).toNat = (X.getD dev.toNat default).d.wait.length - 1 - k from by omega]
         refine hK _ _ ?_; clear hK K
         refine zac (fun K hK r => ?_)
         simp only [zah, fa115_1, zap, Nat.reduceAdd, Nat.zero_add, eX, ↓reduceIte, Nat.reduceEqDiff, Int.reduceToNat]
         refine hK _ _ ?_; clear hK K
         refine zac (fun K hK r => ?_)
         simp only [zan, eX, ↓reduceIte, Nat.reduceEqDiff, Int.reduceToNat]
         refine zaC Try.underlying45 rfl sz45 ((show Le H _ from lhA) _ _ hbv) (by omega) ?_
         rw [ext_x atv rfl ((X.getD dev.toNat default).d.wait.length - 1 - k) (by omega) hsv]
         refine hK _ _ ?_; clear hK K
         refine zbq rfl (zaJ) (fun K hK r => ?_)
         simp only [zaL, eX, ↓reduceIte, Nat.reduceEqDiff, Int.reduceToNat]
         refine zaz sz45 (by simp [Sec.h]) hbA (by simp [Sec.h]) (PlainL.ints _ _) (by decide) ?_
         refine hK _ _ ?_; clear hK K
         refine zao rfl ?_
         refine zae ?_
         try simp only [Ex.thnH, Ex.inBlockH, ↓reduceIte, Nat.reduceEqDiff]
         refine hK15 _ _ ?_; try clear hK15 K15
         refine zaR ?_
         try simp only [Ex.thnH, Ex.inBlockH, ↓reduceIte, Nat.reduceEqDiff]
         refine ⟨[_, _], ⟨⟨_, rfl, zbd Try.underlying45 rfl sz45 hbA (by simp [Sec.h])⟩, rfl, trivial⟩, H, lhA, ?_, rfl⟩
         show Value.tuple _ = _
         rw [hrd]
         rw [lastW_at (k := ((X.getD dev.toNat default).d.wait.length - 1 - k)) (by omega) c39 (fun j hj hjl => by have := hnw ((X.getD dev.toNat default).d.wait.length - 1 - j) (by omega); rwa [show (X.getD dev.toNat default).d.wait.length - 1 - ((X.getD dev.toNat default).d.wait.length - 1 - j) = j from by omega] at this)]
         rfl
       ·first
        |(exfalso; exact cnA c39; done)
        |skip
         (try simp only [decide_eq_true_eq, decide_eq_false_iff_not, Bool.not_eq_true, Bool.not_eq_false, Bool.and_eq_true, Bool.or_eq_true, Bool.or_eq_false_iff, Bool.not_eq_eq_eq_not, Bool.not_true, Bool.not_false] at c39)
         refine zaO ?_
         try simp only [Ex.thnH, Ex.inBlockH, ↓reduceIte, Nat.reduceEqDiff]
         refine hK13 _ _ ?_; try clear hK13 K13
         refine zaa ?_
         refine zam rfl ?_
         refine zac (fun K hK r => ?_)
         simp (disch := (first | omega | decide)) only [zaF, zaH, b_sub, zaw, zaE, zaD, zaQ, eX, ↓reduceIte, Nat.reduceEqDiff, Int.reduceToNat]
         refine hK _ _ ?_; clear hK K
         refine zao rfl ?_
         refine zae ?_
         try simp only [Ex.thnH, Ex.inBlockH, ↓reduceIte, Nat.reduceEqDiff]
         refine ⟨(X.getD dev.toNat default).d.wait.length - (k + 1), by omega, k + 1, by omega, rfl, (fun t ht => ?_), rfA, rfl, rfl, rfl, rfl, ?_, trivial⟩
         ·by_cases e : t = k
          ·subst e; exact c39
          ·exact hnw t (by omega)
         ·show some (Value.int _ _) = some (Value.int _ _)
          congr 2; omega
     ·first
      |(exfalso; exact cnA c29; done)
      |skip
       (try simp only [decide_eq_true_eq, decide_eq_false_iff_not, Bool.not_eq_true, Bool.not_eq_false, Bool.and_eq_true, Bool.or_eq_true, Bool.or_eq_false_iff, Bool.not_eq_eq_eq_not, Bool.not_true, Bool.not_false] at c29)
       have hkn : k = (X.getD dev.toNat default).d.wait.length := by omega
       refine CW_exit ?_
       try simp only [Ex.thnH, Ex.inBlockH, ↓reduceIte, Nat.reduceEqDiff]
       refine hK9 _ _ ?_; try clear hK9 K9
       refine zad (fun K16 hK16 => ?_)
       refine zaa ?_
       refine zac (fun K hK r => ?_)
       simp only [zah, fa87_0, zap, Nat.reduceAdd, Nat.zero_add, eX, ↓reduceIte, Nat.reduceEqDiff, Int.reduceToNat]
       refine hK _ _ ?_; clear hK K
       refine zac (fun K hK r => ?_)
       simp only [zan, eX, ↓reduceIte, Nat.reduceEqDiff, Int.reduceToNat]
       refine zak Try.underlying84 rfl hbA ldA ?_
       try simp only [eX, ↓reduceIte, Nat.reduceEqDiff, Int.reduceToNat]
       refine hK _ _ ?_; clear hK K
       refine zam rfl ?_
       refine zac (fun K hK r => ?_)
       simp only [zaK, eX, ↓reduceIte, Nat.reduceEqDiff, Int.reduceToNat]
       refine zbi Try.underlying84 sz45 es ixA ixA ?_
       refine hK _ _ ?_; clear hK K
       refine zac (fun K hK r => ?_)
       simp only [zan, eX, ↓reduceIte, Nat.reduceEqDiff, Int.reduceToNat]
       refine zaC Try.underlying45 rfl sz45 ((show Le H _ from lhA) _ _ hbs) (by omega) ?_
       rw [ext_at Sec.len ats rfl i.toNat (by omega) hss]
       refine hK _ _ ?_; clear hK K
       refine zbq rfl (zaJ) (fun K hK r => ?_)
       simp only [zaL, eX, ↓reduceIte, Nat.reduceEqDiff, Int.reduceToNat]
       refine zaz sz45 (by simp [Sec.h]) hbA (by simp [Sec.h]) (PlainL.ints _ _) (by decide) ?_
       refine hK _ _ ?_; clear hK K
       refine zao rfl ?_
       refine zae ?_
       try simp only [Ex.thnH, Ex.inBlockH, ↓reduceIte, Nat.reduceEqDiff]
       refine hK16 _ _ ?_; try clear hK16 K16
       refine zaR ?_
       try simp only [Ex.thnH, Ex.inBlockH, ↓reduceIte, Nat.reduceEqDiff]
       refine ⟨[_, _], ⟨⟨_, rfl, zbd Try.underlying45 rfl sz45 hbA (by simp [Sec.h])⟩, rfl, trivial⟩, H, lhA, ?_, rfl⟩
       show Value.tuple _ = _
       rw [hrd]
       rw [lastW_none (fun j hj => by have := hnw ((X.getD dev.toNat default).d.wait.length - 1 - j) (by omega); rwa [show (X.getD dev.toNat default).d.wait.length - 1 - ((X.getD dev.toNat default).d.wait.length - 1 - j) = j from by omega] at this)]
       rfl
end Go.Proofs.Ytcjdkfhmlnfedaa.HL
end
section
namespace Go.Proofs.Ytcjdkfhmlnfedaa.HL
open Go Go.Proofs
set_option linter.unusedSimpArgs false
set_option linter.unusedVariables false
attribute [local irreducible] Lt Lq CW OW TW CallH
def newR (n : Int) : RDv := ⟨List.replicate n.toNat Sec.zero, []⟩
def newRs (l : List Int) : RSt := ⟨l.map newR, 0, 0, false, false⟩
structure NR (H0 H : Hp) (l : List Int) (k : Nat) (v : Value) (rs : Option Nat) (X : List RDX) (G : Hp) : Prop where
  len : X.length = k
  own : OwnS H 87 2 v k (X.flatMap RDX.c) rs
  ok : ∀ x ∈ X, x.ok G
  le : Le G H
  fr : ∀ b, G b ≠ none → H0 b = none
  frr : ∀ r, rs = some r → H0 r = none ∧ G r = none
  old : Le H0 H
  dv : rdv X = (l.take k).map newR
theorem zero_secs (n : Nat) : Builtin.zeroCells (Array.replicate 64 (Value.int .u8 0)) n = (secs (List.replicate n Sec.zero)).toArray := by
  have e1 : secs (List.replicate n Sec.zero) = List.replicate (n * 64) (Value.int .u8 0) := by
    rw [List.eq_replicate_iff]
    refine ⟨by rw [flat_size Sec.len]; simp, fun b hb => ?_⟩
    rw [List.mem_flatMap] at hb
    obtain ⟨x, hx, hb⟩ := hb
    have := List.eq_of_mem_replicate hx
    subst this
    simp only [Sec.c, Sec.zero, u8s, List.map_replicate] at hb
    exact List.eq_of_mem_replicate hb
  rw [e1]
  apply Array.ext
  · rw [zeroCells_size]; simp
  · intro i h1 h2
    have h3 : i % 64 < 64 := Nat.mod_lt _ (by decide)
    simp [Builtin.zeroCells, h3]
end Go.Proofs.Ytcjdkfhmlnfedaa.HL
end
section
namespace Go.Proofs.Ytcjdkfhmlnfedaa.HL
open Go Go.Proofs
set_option linter.unusedSimpArgs false
set_option linter.unusedVariables false
attribute [local irreducible] Lt Lq CW OW TW CallH
theorem NR.next {H0 H HF : Hp} {l : List Int} {k : Nat} {v : Value} {rs : Option Nat} {X : List RDX} {G : Hp} (h : NR H0 H l k v rs X G) (hk : k < l.length) {b : Nat} (hb : H b = none) {v' : Value} {rs' : Option Nat}
    (hown : OwnS HF 87 2 v' (k + 1) (X.flatMap RDX.c ++ [.slice (some ⟨b, 0, none⟩) (l.getD k default).toNat (l.getD k default).toNat, .slice none 0 0]) rs') (hfb : HF b = some (.cells (secs (List.replicate (l.getD k default).toNat Sec.zero)).toArray 45))
    (hkeep : ∀ x o, H x = some o → (G x ≠ none ∨ H0 x ≠ none) → HF x = some o) (hr : ∀ r, rs' = some r → rs = some r ∨ (H r = none ∧ r ≠ b)) :
    NR H0 HF l (k + 1) v' rs' (X ++ [⟨some ⟨b, 0, none⟩, (l.getD k default).toNat, none, 0, newR (l.getD k default)⟩]) (G.upd b (.cells (secs (List.replicate (l.getD k default).toNat Sec.zero)).toArray 45)) := by
  have hGb : G b = none := zaj h.le hb
  refine ⟨by simp [h.len], ?_, fun x hx => ?_, ?_, fun x hx => ?_, fun r e => ?_, fun x o hx => hkeep x o (h.old x o hx) (.inr (by rw [hx]; simp)), ?_⟩
  · rw [List.flatMap_append]
    simpa [RDX.c, newR] using hown
  · rcases List.mem_append.1 hx with h1 | h1
    · exact (h.ok x h1).le (le_upd _ _ _ hGb)
    · simp at h1
      subst h1
      refine ⟨?_, ⟨rfl, .inl ⟨none, 0, rfl, rfl⟩⟩⟩
      have e : (newR (l.getD k default)).sec.length = (l.getD k default).toNat := by simp [newR]
      refine ⟨by rw [flat_size Sec.len], .inr ⟨b, 0, _, _, _, _, rfl, zax _ _ _, ?_, ?_⟩⟩
      · simp only [List.size_toArray, flat_size Sec.len]
        simp [newR]
      · rw [Array.toList_extract, List.extract_eq_take_drop]
        refine List.take_of_length_le ?_
        simp only [List.drop_zero, List.toList_toArray, flat_size Sec.len]
        simp [newR]
  · exact le_put (fun x o hx => hkeep x o (h.le x o hx) (.inl (by rw [hx]; simp))) hfb
  · by_cases e : x = b
    · subst e; exact zaj h.old hb
    · rw [zaA _ _ e] at hx; exact h.fr x hx
  · rcases hr r e with h1 | ⟨h1, h2⟩
    · refine ⟨(h.frr r h1).1, (zaA _ _ (fun e2 => ?_)).trans (h.frr r h1).2⟩
      subst e2; exact h.own.known r h1 hb
    · exact ⟨zaj h.old h1, (zaA _ _ h2).trans (zaj h.le h1)⟩
  · rw [List.take_add_one, List.getElem?_eq_getElem hk, List.map_append, ← h.dv]
    simp [rdv, List.getD_eq_getElem?_getD, List.getElem?_eq_getElem hk]
end Go.Proofs.Ytcjdkfhmlnfedaa.HL
end
section
namespace Go.Proofs.Ytcjdkfhmlnfedaa.HL
open Go Go.Proofs
set_option linter.unusedSimpArgs false
set_option linter.unusedVariables false
attribute [local irreducible] Lt Lq CW OW TW CallH
set_option maxRecDepth 100000 in
set_option maxHeartbeats 8000000 in
theorem rnew_ok (H : Hp) (a : Option Addr) (cap : Nat) (l : List Int) (hv : Holds H 1 (.slice a l.length cap) l.length (l.map (Value.int .i64))) (hl : l.length ≤ 1000) : CallH Try.prog 10 #[.slice a l.length cap] H (fun v H' => (goodN l = false ∧ v = .tuple #[.agg #[.slice none 0 0, .int .i64 0, .int .i64 0, .bool false, .bool false], .int .i64 1] ∧ H' = H) ∨ (goodN l = true ∧ Le H H' ∧ ∃ a' cap' X, v = .tuple #[(newRs l).v (.slice a' X.length cap'), .int .i64 0] ∧ RX H' a' cap' X ∧ (newRs l).dv = rdv X)) := by
 refine zaB (l := [_]) (rl := [.cell 2 38, .tmp 3]) (n := 47) Try.func10 rfl rfl rfl rfl rfl ?_
 simp only [envOf, Nat.reduceAdd]
 refine zad (fun K1 hK1 => ?_)
 refine zaa ?_
 refine zac (fun K hK r => ?_)
 simp only [x_alloc, zr38, zal, Value.cells, eX, ↓reduceIte, Nat.reduceEqDiff, Int.reduceToNat]
 intro b2 hb2
 have f2_H : H b2 = none := zaj lhA hb2
 try simp only [eX, ↓reduceIte, Nat.reduceEqDiff, Int.reduceToNat]
 refine hK _ _ ?_; clear hK K
 refine zao rfl ?_
 refine zae ?_
 try simp only [Ex.thnH, Ex.inBlockH, ↓reduceIte, Nat.reduceEqDiff]
 refine hK1 _ _ ?_; try clear hK1 K1
 refine zad (fun K2 hK2 => ?_)
 refine zaa ?_
 refine zac (fun K hK r => ?_)
 simp only [x_build, bp38, List.map_toArray, List.map_cons, List.map_nil, eX, ↓reduceIte, Nat.reduceEqDiff, Int.reduceToNat]
 simp only [fill_nil, zal, List.setIfInBounds_toArray, List.set_cons_zero, List.set_cons_succ]
 try simp only [eX, ↓reduceIte, Nat.reduceEqDiff, Int.reduceToNat]
 refine hK _ _ ?_; clear hK K
 refine zac (fun K hK r => ?_)
 simp only [x_alloc, zr38, zal, Value.cells, eX, ↓reduceIte, Nat.reduceEqDiff, Int.reduceToNat]
 intro b4 hb4
 try have n4_b2 : b2 ≠ b4 := zai hbA hb4
 have f4_H : H b4 = none := zaj lhA hb4
 try simp only [eX, ↓reduceIte, Nat.reduceEqDiff, Int.reduceToNat]
 refine hK _ _ ?_; clear hK K
 refine zbq rfl (zaJ) (fun K hK r => ?_)
 simp only [zaL, eX, ↓reduceIte, Nat.reduceEqDiff, Int.reduceToNat]
 first | refine zaz sz38 bdA hbA bdA plA (by decide) ?_ | refine zaI sz38 bdA hbA bdA plA (by decide) ?_
 try simp only [eX, ↓reduceIte, Nat.reduceEqDiff, Int.reduceToNat]
 refine hK _ _ ?_; clear hK K
 refine zae ?_
 try simp only [Ex.thnH, Ex.inBlockH, ↓reduceIte, Nat.reduceEqDiff]
 refine hK2 _ _ ?_; try clear hK2 K2
 refine zad (fun K3 hK3 => ?_)
 refine zad (fun K4 hK4 => ?_)
 refine zaa ?_
 refine zam rfl ?_
 refine zac (fun K hK r => ?_)
 simp only [zaM, l_len, List.map_toArray, List.map_cons, List.map_nil, zaS _ _ Try.underlying41, eX, ↓reduceIte, Nat.reduceEqDiff, Int.reduceToNat]
 refine hK _ _ ?_; clear hK K
 refine zac (fun K hK r => ?_)
 simp (disch := (first | omega | decide)) only [zaF, zaH, b_lss, zaq, zar, zat, zau, zas, zav, Bool.not_true, Bool.not_false, eX, ↓reduceIte, Nat.reduceEqDiff, Int.reduceToNat]
 refine hK _ _ ?_; clear hK K
 refine zam rfl ?_
 (first | refine zbc (d := 10) rfl (fun g10 => ?_) (fun g10 => ?_) | skip)
 all_goals try (exfalso; exact cnA g10)
 all_goals (try simp only [decide_eq_true_eq, decide_eq_false_iff_not, Bool.not_eq_true, Bool.not_eq_false, Bool.and_eq_true, Bool.or_eq_true, Bool.or_eq_false_iff, Bool.not_eq_eq_eq_not, Bool.not_true, Bool.not_false] at g10)
 all_goals
  try simp only [eX, ↓reduceIte, Nat.reduceEqDiff, Int.reduceToNat]
  first
  |refine zaf rfl (zab (by decide)) rfl (fun K hK r => ?_)
   simp only [zaU, eX, ↓reduceIte, Nat.reduceEqDiff, Int.reduceToNat]
   refine hK _ _ ?_; clear hK K
  |refine zag rfl (zab (by decide)) rfl ?_
   simp only [eX, ↓reduceIte, Nat.reduceEqDiff, Int.reduceToNat]
  first
  |refine zaf rfl (zab (by decide)) rfl (fun K hK r => ?_)
   simp only [zaM, l_len, List.map_toArray, List.map_cons, List.map_nil, zaS _ _ Try.underlying41, eX, ↓reduceIte, Nat.reduceEqDiff, Int.reduceToNat]
   refine hK _ _ ?_; clear hK K
  |refine zag rfl (zab (by decide)) rfl ?_
   simp only [eX, ↓reduceIte, Nat.reduceEqDiff, Int.reduceToNat]
  first
  |refine zaf rfl (zab (by decide)) rfl (fun K hK r => ?_)
   simp (disch := (first | omega | decide)) only [zaF, zaH, b_gtr, zaq, zar, zat, zau, zas, zav, Bool.not_true, Bool.not_false, eX, ↓reduceIte, Nat.reduceEqDiff, Int.reduceToNat]
   refine hK _ _ ?_; clear hK K
  |refine zag rfl (zab (by decide)) rfl ?_
   simp only [eX, ↓reduceIte, Nat.reduceEqDiff, Int.reduceToNat]
  refine zac (fun K hK r => ?_)
  simp only [zbp, zaZ, HL.ite_bool, if_true, if_false, Bool.false_eq_true, eX, ↓reduceIte, Nat.reduceEqDiff, Int.reduceToNat]
  refine hK _ _ ?_; clear hK K
  refine zae ?_
  try simp only [Ex.thnH, Ex.inBlockH, ↓reduceIte, Nat.reduceEqDiff]
  refine hK4 _ _ ?_; try clear hK4 K4
  refine zaG (fun r => rfl) (fun c14 => ?_) (fun c14 => ?_)
  ·first
   |(exfalso; exact cnA c14; done)
   |skip
    (try simp only [decide_eq_true_eq, decide_eq_false_iff_not, Bool.not_eq_true, Bool.not_eq_false, Bool.and_eq_true, Bool.or_eq_true, Bool.or_eq_false_iff, Bool.not_eq_eq_eq_not, Bool.not_true, Bool.not_false] at c14)
    have hbad : goodN l = false := by unfold goodN; simp; omega
    refine zad (fun K5 hK5 => ?_)
    refine zaa ?_
    refine zac (fun K hK r => ?_)
    simp only [zan, eX, ↓reduceIte, Nat.reduceEqDiff, Int.reduceToNat]
    first | refine zaN Try.underlying38 rfl sz38 hbA bdA ?_ | refine zaC Try.underlying38 rfl sz38 hbA bdA ?_
    try simp only [List.extract_toArray, List.extract_eq_take_drop, Nat.zero_add, Nat.reduceAdd, Nat.reduceSub, Nat.sub_zero, List.drop_succ_cons, List.drop_zero, List.take_succ_cons, List.take_zero, List.take_nil, List.drop_nil]
    try simp only [eX, ↓reduceIte, Nat.reduceEqDiff, Int.reduceToNat]
    refine hK _ _ ?_; clear hK K
    refine zbq rfl (zaJ) (fun K hK r => ?_)
    simp only [zaL, eX, ↓reduceIte, Nat.reduceEqDiff, Int.reduceToNat]
    first | refine zaz sz38 bdA hbA bdA plA (by decide) ?_ | refine zaI sz38 bdA hbA bdA plA (by decide) ?_
    try simp only [eX, ↓reduceIte, Nat.reduceEqDiff, Int.reduceToNat]
    refine hK _ _ ?_; clear hK K
    refine zao rfl ?_
    refine zae ?_
    try simp only [Ex.thnH, Ex.inBlockH, ↓reduceIte, Nat.reduceEqDiff]
    refine hK5 _ _ ?_; try clear hK5 K5
    refine zaR ?_
    try simp only [Ex.thnH, Ex.inBlockH, ↓reduceIte, Nat.reduceEqDiff]
    refine ⟨[_, _], ⟨⟨_, rfl, zbd Try.underlying38 rfl sz38 hbA bdA⟩, rfl, trivial⟩, H, lhA, .inl ⟨hbad, rfl, rfl⟩⟩
  ·first
   |(exfalso; exact cnA c14; done)
   |skip
    (try simp only [decide_eq_true_eq, decide_eq_false_iff_not, Bool.not_eq_true, Bool.not_eq_false, Bool.and_eq_true, Bool.or_eq_true, Bool.or_eq_false_iff, Bool.not_eq_eq_eq_not, Bool.not_true, Bool.not_false] at c14)
    have hlen : 1 ≤ l.length ∧ l.length ≤ 5 := by omega
    refine zaO ?_
    try simp only [Ex.thnH, Ex.inBlockH, ↓reduceIte, Nat.reduceEqDiff]
    refine hK3 _ _ ?_; try clear hK3 K3
    refine zad (fun K6 hK6 => ?_)
    refine zad (fun K7 hK7 => ?_)
    refine zaa ?_
    refine zao rfl ?_
    refine zae ?_
    try simp only [Ex.thnH, Ex.inBlockH, ↓reduceIte, Nat.reduceEqDiff]
    refine hK7 _ _ ?_; try clear hK7 K7
    refine zaV ?_
    refine CW_loop (fun m e H_ => ∃ (k : Nat) (v : Value) (rs : Option Nat) (X : List RDX) (G : Hp), k ≤ l.length ∧ m = l.length - k ∧ (∀ j, j < k → okN (l.getD j default) = true) ∧ NR H H_ l k v rs X G ∧ G b2 = none ∧ G b4 = none ∧ H_ b2 = some (.cells #[.slice none 0 0, .int .i64 0, .int .i64 0, .bool false, .bool false] 38) ∧ H_ b4 = some (.cells #[v, .int .i64 0, .int .i64 0, .bool false, .bool false] 38) ∧ Env.has [(0, .slice a l.length cap), (2, .pointer (some ⟨b2, 0, none⟩)), (4, .pointer (some ⟨b4, 0, none⟩)), (5, .int .i64 k)] e) (l.length) ?_ ?_
    ·skip
     refine ⟨0, .slice none 0 0, none, [], emptyHp, by omega, by omega, (fun j hj => absurd hj (by omega)), ⟨rfl, OwnS.nil _ _ _, (fun x hx => by simp at hx), le_empty _, (fun b hb => absurd rfl hb), (fun r hr => by cases hr), lhA, rfl⟩, rfl, rfl, hbA, hbA, rfl, rfl, rfl, rfl, trivial⟩
    intro m_ e_ H_ hI_
    obtain ⟨k, v, rs, X, G, hk, rfl, hoks, hN, g2, g4, k2, k4, he⟩ := hI_
    refine CW_env he.sub ?_; clear he e_
    have hOld := hN.old
    obtain ⟨va, vc, rfl⟩ := hN.own.holds.form
    refine zad (fun K8 hK8 => ?_)
    refine zad (fun K9 hK9 => ?_)
    refine zaa ?_
    refine zam rfl ?_
    refine zam rfl ?_
    refine zac (fun K hK r => ?_)
    simp only [zaM, l_len, List.map_toArray, List.map_cons, List.map_nil, zaS _ _ Try.underlying41, eX, ↓reduceIte, Nat.reduceEqDiff, Int.reduceToNat]
    refine hK _ _ ?_; clear hK K
    refine zac (fun K hK r => ?_)
    simp (disch := (first | omega | decide)) only [zaF, zaH, b_lss, zaq, zar, zat, zau, zas, zav, Bool.not_true, Bool.not_false, eX, ↓reduceIte, Nat.reduceEqDiff, Int.reduceToNat]
    refine hK _ _ ?_; clear hK K
    refine zae ?_
    try simp only [Ex.thnH, Ex.inBlockH, ↓reduceIte, Nat.reduceEqDiff]
    refine hK9 _ _ ?_; try clear hK9 K9
    refine zaG (fun r => rfl) (fun c19 => ?_) (fun c19 => ?_)
    ·first
     |(exfalso; exact cnA c19; done)
     |skip
      (try simp only [decide_eq_true_eq, decide_eq_false_iff_not, Bool.not_eq_true, Bool.not_eq_false, Bool.and_eq_true, Bool.or_eq_true, Bool.or_eq_false_iff, Bool.not_eq_eq_eq_not, Bool.not_true, Bool.not_false] at c19)
      obtain ⟨bw, ow, cw, Tw, Fw, ew, hbw, hsw, atw⟩ := hv.at (by omega)
      refine zaO ?_
      try simp only [Ex.thnH, Ex.inBlockH, ↓reduceIte, Nat.reduceEqDiff]
      refine hK8 _ _ ?_; try clear hK8 K8
      refine zad (fun K10 hK10 => ?_)
      refine zaV ?_
      refine zad (fun K11 hK11 => ?_)
      refine zad (fun K12 hK12 => ?_)
      refine zaa ?_
      refine zam rfl ?_
      refine zam rfl ?_
      refine zac (fun K hK r => ?_)
      simp only [zaK, eX, ↓reduceIte, Nat.reduceEqDiff, Int.reduceToNat]
      refine zbi Try.underlying41 sz3 ew ixA ixA ?_
      try simp only [Int.toNat_natCast, Nat.mul_one]
      refine hK _ _ ?_; clear hK K
      refine zac (fun K hK r => ?_)
      simp only [zan, eX, ↓reduceIte, Nat.reduceEqDiff, Int.reduceToNat]
      refine zak Try.underlying3 rfl (hOld _ _ hbw) (v := .int .i64 (l.getD k default)) (by first | exact ints_get atw rfl k (by omega) | (rw [Nat.mul_one]; exact ints_get atw rfl k (by omega))) ?_
      refine hK _ _ ?_; clear hK K
      refine zac (fun K hK r => ?_)
      simp (disch := (first | omega | decide)) only [zaF, zaH, b_lss, zaq, zar, zat, zau, zas, zav, Bool.not_true, Bool.not_false, eX, ↓reduceIte, Nat.reduceEqDiff, Int.reduceToNat]
      refine hK _ _ ?_; clear hK K
      refine zam rfl ?_
      (first | refine zbc (d := 27) rfl (fun g27 => ?_) (fun g27 => ?_) | skip)
      all_goals try (exfalso; exact cnA g27)
      all_goals (try simp only [decide_eq_true_eq, decide_eq_false_iff_not, Bool.not_eq_true, Bool.not_eq_false, Bool.and_eq_true, Bool.or_eq_true, Bool.or_eq_false_iff, Bool.not_eq_eq_eq_not, Bool.not_true, Bool.not_false] at g27)
      all_goals
       try simp only [eX, ↓reduceIte, Nat.reduceEqDiff, Int.reduceToNat]
       first
       |refine zaf rfl (zab (by decide)) rfl (fun K hK r => ?_)
        simp only [zaU, eX, ↓reduceIte, Nat.reduceEqDiff, Int.reduceToNat]
        refine hK _ _ ?_; clear hK K
       |refine zag rfl (zab (by decide)) rfl ?_
        simp only [eX, ↓reduceIte, Nat.reduceEqDiff, Int.reduceToNat]
       first
       |refine zaf rfl (zab (by decide)) rfl (fun K hK r => ?_)
        simp only [zaU, eX, ↓reduceIte, Nat.reduceEqDiff, Int.reduceToNat]
        refine hK _ _ ?_; clear hK K
       |refine zag rfl (zab (by decide)) rfl ?_
        simp only [eX, ↓reduceIte, Nat.reduceEqDiff, Int.reduceToNat]
       first
       |refine zaf rfl (zab (by decide)) rfl (fun K hK r => ?_)
        simp only [zaK, eX, ↓reduceIte, Nat.reduceEqDiff, Int.reduceToNat]
        refine zbi Try.underlying41 sz3 ew ixA ixA ?_
        try simp only [Int.toNat_natCast, Nat.mul_one]
        refine hK _ _ ?_; clear hK K
       |refine zag rfl (zab (by decide)) rfl ?_
        simp only [eX, ↓reduceIte, Nat.reduceEqDiff, Int.reduceToNat]
       first
       |refine zaf rfl (zab (by decide)) rfl (fun K hK r => ?_)
        simp only [zan, eX, ↓reduceIte, Nat.reduceEqDiff, Int.reduceToNat]
        refine zak Try.underlying3 rfl (hOld _ _ hbw) (v := .int .i64 (l.getD k default)) (by first | exact ints_get atw rfl k (by omega) | (rw [Nat.mul_one]; exact ints_get atw rfl k (by omega))) ?_
        refine hK _ _ ?_; clear hK K
       |refine zag rfl (zab (by decide)) rfl ?_
        simp only [eX, ↓reduceIte, Nat.reduceEqDiff, Int.reduceToNat]
       first
       |refine zaf rfl (zab (by decide)) rfl (fun K hK r => ?_)
        simp (disch := (first | omega | decide)) only [zaF, zaH, b_gtr, zaq, zar, zat, zau, zas, zav, Bool.not_true, Bool.not_false, eX, ↓reduceIte, Nat.reduceEqDiff, Int.reduceToNat]
        refine hK _ _ ?_; clear hK K
       |refine zag rfl (zab (by decide)) rfl ?_
        simp only [eX, ↓reduceIte, Nat.reduceEqDiff, Int.reduceToNat]
       refine zac (fun K hK r => ?_)
       simp only [zbp, zaZ, HL.ite_bool, if_true, if_false, Bool.false_eq_true, eX, ↓reduceIte, Nat.reduceEqDiff, Int.reduceToNat]
       refine hK _ _ ?_; clear hK K
       refine zae ?_
       try simp only [Ex.thnH, Ex.inBlockH, ↓reduceIte, Nat.reduceEqDiff]
       refine hK12 _ _ ?_; try clear hK12 K12
       refine zaG (fun r => rfl) (fun c33 => ?_) (fun c33 => ?_)
       ·first
        |(exfalso; exact cnA c33; done)
        |skip
         (try simp only [decide_eq_true_eq, decide_eq_false_iff_not, Bool.not_eq_true, Bool.not_eq_false, Bool.and_eq_true, Bool.or_eq_true, Bool.or_eq_false_iff, Bool.not_eq_eq_eq_not, Bool.not_true, Bool.not_false] at c33)
         have hbad : goodN l = false := good_bad (k := k) (by omega) (by unfold okN; rw [Bool.and_eq_false_iff]; simp only [decide_eq_false_iff_not]; omega)
         refine zad (fun K13 hK13 => ?_)
         refine zaa ?_
         refine zac (fun K hK r => ?_)
         simp only [x_build, bp38, List.map_toArray, List.map_cons, List.map_nil, eX, ↓reduceIte, Nat.reduceEqDiff, Int.reduceToNat]
         simp only [fill_nil, zal, List.setIfInBounds_toArray, List.set_cons_zero, List.set_cons_succ]
         try simp only [eX, ↓reduceIte, Nat.reduceEqDiff, Int.reduceToNat]
         refine hK _ _ ?_; clear hK K
         refine zbq rfl (zaJ) (fun K hK r => ?_)
         simp only [zaL, eX, ↓reduceIte, Nat.reduceEqDiff, Int.reduceToNat]
         first | refine zaz sz38 bdA hbA bdA plA (by decide) ?_ | refine zaI sz38 bdA hbA bdA plA (by decide) ?_
         try simp only [eX, ↓reduceIte, Nat.reduceEqDiff, Int.reduceToNat]
         refine hK _ _ ?_; clear hK K
         refine zao rfl ?_
         refine zae ?_
         try simp only [Ex.thnH, Ex.inBlockH, ↓reduceIte, Nat.reduceEqDiff]
         refine hK13 _ _ ?_; try clear hK13 K13
         refine zaR ?_
         try simp only [Ex.thnH, Ex.inBlockH, ↓reduceIte, Nat.reduceEqDiff]
         refine ⟨[_, _], ⟨⟨_, rfl, zbd Try.underlying38 rfl sz38 hbA bdA⟩, rfl, trivial⟩, H, lhA, .inl ⟨hbad, rfl, rfl⟩⟩
       ·first
        |(exfalso; exact cnA c33; done)
        |skip
         (try simp only [decide_eq_true_eq, decide_eq_false_iff_not, Bool.not_eq_true, Bool.not_eq_false, Bool.and_eq_true, Bool.or_eq_true, Bool.or_eq_false_iff, Bool.not_eq_eq_eq_not, Bool.not_true, Bool.not_false] at c33)
         have hok : okN (l.getD k default) = true := by unfold okN; rw [Bool.and_eq_true]; simp only [decide_eq_true_eq]; omega
         have hn0 : 1 ≤ l.getD k default ∧ l.getD k default ≤ 4096 := by omega
         refine zaO ?_
         try simp only [Ex.thnH, Ex.inBlockH, ↓reduceIte, Nat.reduceEqDiff]
         refine hK11 _ _ ?_; try clear hK11 K11
         obtain ⟨R9, hR9⟩ : ∃ R : Hp, R = (emptyHp.upd b4 (.cells #[.slice va k vc, .int .i64 0, .int .i64 0, .bool false, .bool false] 38)).upd bw (.cells cw Tw Fw) := ⟨_, rfl⟩
         refine CW_drawR [0, 1, 0, 0, 0, 1, 2, 0, 2, 2, 0, 3] [0, 1, 2, 3, 4, 5, 6, 7, 8, 9, 10, 11] R9 (by kernel_rfl) (by kernel_rfl) (by subst hR9; exact le_put (le_put (le_empty _) k4) (hOld _ _ hbw)) (fun lR9 => ?_)
         apply zay rfl (zab (by decide)) rfl
         ·intro r
          simp only [zah, fa38_0, zap, Nat.reduceAdd, Nat.zero_add, eX, ↓reduceIte, Nat.reduceEqDiff]
          exact ⟨rfl, Le.refl _⟩
         simp only [eX, ↓reduceIte, Nat.reduceEqDiff, Int.reduceToNat]
         apply TW_look rfl (zab (by decide)) rfl
         ·intro r
          simp only [zan, eX, ↓reduceIte, Nat.reduceEqDiff]
          refine zak Try.underlying36 rfl (by rw [hR9]; exact (zaA _ _ (Ne.symm (zai hbw f4_H))).trans (zax _ _ _)) (v := .slice va k vc) rfl ?_
          exact ⟨rfl, Le.refl _⟩
         simp only [eX, ↓reduceIte, Nat.reduceEqDiff, Int.reduceToNat]
         apply zay rfl (zab (by decide)) rfl
         ·intro r
          simp only [zaU, eX, ↓reduceIte, Nat.reduceEqDiff]
          exact ⟨rfl, Le.refl _⟩
         simp only [eX, ↓reduceIte, Nat.reduceEqDiff, Int.reduceToNat]
         apply zay rfl (zab (by decide)) rfl
         ·intro r
          simp only [zaU, eX, ↓reduceIte, Nat.reduceEqDiff]
          exact ⟨rfl, Le.refl _⟩
         simp only [eX, ↓reduceIte, Nat.reduceEqDiff, Int.reduceToNat]
         apply zay rfl (zab (by decide)) rfl
         ·intro r
          simp only [zaK, eX, ↓reduceIte, Nat.reduceEqDiff]
          refine zbi Try.underlying41 sz3 ew ixA ixA ?_
          try simp only [Int.toNat_natCast, Nat.mul_one]
          exact ⟨rfl, Le.refl _⟩
         simp only [eX, ↓reduceIte, Nat.reduceEqDiff, Int.reduceToNat]
         apply TW_look rfl (zab (by decide)) rfl
         ·intro r
          simp only [zan, eX, ↓reduceIte, Nat.reduceEqDiff]
          refine zak Try.underlying3 rfl (by rw [hR9]; exact zax _ _ _) (v := .int .i64 (l.getD k default)) (by first | exact ints_get atw rfl k (by omega) | (rw [Nat.mul_one]; exact ints_get atw rfl k (by omega))) ?_
          exact ⟨rfl, Le.refl _⟩
         simp only [eX, ↓reduceIte, Nat.reduceEqDiff, Int.reduceToNat]
         refine TW_chain rfl (zab (by decide)) rfl (fun K hK r => ?_)
         simp only [x_makeSlice, eX, ↓reduceIte, Nat.reduceEqDiff, Int.reduceToNat]
         refine Lt_makeSlice Try.underlying84 sz45 by45 zr45 rfl arA arA arA arA ?_
         intro b41 hb41
         try have n41_b2 : b2 ≠ b41 := zai hbA hb41
         try have n41_b4 : b4 ≠ b41 := zai hbA hb41
         have f41_H : H b41 = none := zaj lhA hb41
         have f41_R9 : R9 b41 = none := zaj lhA hb41
         try simp only [eX, ↓reduceIte, Nat.reduceEqDiff, Int.reduceToNat]
         refine hK _ _ leA ?_; clear hK K
         apply zay rfl (zab (by decide)) rfl
         ·intro r
          simp only [x_build, bp87, List.map_toArray, List.map_cons, List.map_nil, eX, ↓reduceIte, Nat.reduceEqDiff]
          rw [fill_one rfl clA bdA]
          simp only [fill_nil, zal, List.setIfInBounds_toArray, List.set_cons_zero, List.set_cons_succ]
          exact ⟨rfl, Le.refl _⟩
         simp only [eX, ↓reduceIte, Nat.reduceEqDiff, Int.reduceToNat]
         refine TW_chain rfl (zab (by decide)) rfl (fun K hK r => ?_)
         simp only [zbn, List.map_toArray, List.map_cons, List.map_nil, eX, ↓reduceIte, Nat.reduceEqDiff, Int.reduceToNat]
         refine zbm (vs := [_]) Try.underlying36 sz87 zr87 rfl bsA (by first | decide | (simp; done)) ?_
         simp only [List.flatMap_cons, List.flatMap_nil, Value.cells, List.append_nil, List.cons_append, List.nil_append, List.length_cons, List.length_nil, Nat.zero_add, Nat.reduceAdd]
         intro b43 hb43
         try have n43_b2 : b2 ≠ b43 := zai hbA hb43
         try have n43_b4 : b4 ≠ b43 := zai hbA hb43
         try have n43_b41 : b41 ≠ b43 := zai hbA hb43
         have f43_H : H b43 = none := zaj lhA hb43
         have f43_R9 : R9 b43 = none := zaj lhA hb43
         try simp only [eX, ↓reduceIte, Nat.reduceEqDiff, Int.reduceToNat]
         refine hK _ _ leA ?_; clear hK K
         refine TW_chain rfl (zab (by decide)) rfl (fun K hK r => ?_)
         simp only [zaM, l_append, List.map_toArray, List.map_cons, List.map_nil, eX, ↓reduceIte, Nat.reduceEqDiff, Int.reduceToNat]
         rw [zero_secs] at hb43 ⊢
         have hb41k : H_ b43 = none := zaj (le_upd _ _ _ hb41) hb43
         have n41 : b41 ≠ b43 := zai (zax _ _ _) hb43
         refine Lt_append Try.underlying36 Try.underlying36 (by simp) sz87 by87 (by decide) zr87 rfl _ (n := k) (m := 1) (ds := [.slice (some ⟨b41, 0, none⟩) (l.getD k default).toNat (l.getD k default).toNat, .slice none 0 0]) ((hN.own.make hb41).make hb43) (fun Kx => len_slice _ _ _ Kx) (fun Kx => first_slice (w := 2) (n := 1) (cs := [.slice (some ⟨b41, 0, none⟩) (l.getD k default).toNat (l.getD k default).toNat, .slice none 0 0]) ⟨rfl, .inr ⟨b43, 0, 1, _, _, _, rfl, hbA, by simp, by simp⟩⟩ Kx) rfl (PlainL.cons (plain_slice _ _ _) (PlainL.cons (plain_slice _ _ _) PlainL.nil)) (by omega) ?_
         intro v44 H44 rs44 hg44 ho44 hr44
         obtain ⟨wa44, wc44, rfl⟩ := ho44.holds.form
         have q44 : ∀ z o, H_ z = some o → rs ≠ some z → H44 z = some o := fun z o hz hn => hg44.known z o ((zaA _ _ (zai hz hb41k)).trans ((zaA _ _ (zai hz hb41)).trans hz)) hn
         have x2 := hN.own.neT k2 (by decide)
         have x4 := hN.own.neT k4 (by decide)
         have y4 := q44 _ _ k4 x4
         have y2 := q44 _ _ k2 x2
         have lR44 : Le R9 H44 := by rw [hR9]; exact le_put (le_put (le_empty _) y4) (q44 _ _ (hOld _ _ hbw) (fun e => by have := (hN.frr bw e).1; rw [hbw] at this; cases this))
         have y41 := hg44.known b41 _ ((zaA _ _ n41).trans (zax _ _ _)) (fun e => hN.own.known b41 e hb41)
         have hr44' : ∀ r, rs44 = some r → rs = some r ∨ (H_ r = none ∧ r ≠ b41) := fun r e => (hr44 r e).imp id (fun hn => by
          have h2 := upd_none hn
          exact ⟨upd_none h2, fun e => by subst e; rw [zax] at h2; cases h2⟩)
         have z4 := ho44.neT y4 (by decide)
         have z41 : b4 ≠ b41 := zai k4 hb41
         have z24 : b2 ≠ b41 := zai k2 hb41
         have hrsG : ∀ z, rs = some z → G z = none ∧ H z = none := fun z e => ⟨(hN.frr z e).2, (hN.frr z e).1⟩
         refine hK _ _ leA ?_; clear hK K
         apply zay rfl (zab (by decide)) rfl
         ·intro r
          simp only [zah, fa38_0, zap, Nat.reduceAdd, Nat.zero_add, eX, ↓reduceIte, Nat.reduceEqDiff]
          exact ⟨rfl, Le.refl _⟩
         simp only [eX, ↓reduceIte, Nat.reduceEqDiff, Int.reduceToNat]
         refine TW_last rfl (zaJ) rfl (fun K hK r => ?_)
         simp only [zaL, eX, ↓reduceIte, Nat.reduceEqDiff, Int.reduceToNat]
         refine zaY sz36 hbA bdA plA fzA ?_
         try simp only [setL0, setL1, setL2, setL3, setL4, setL5, setL6, setL7, setL8, setL9]
         try simp only [eX, ↓reduceIte, Nat.reduceEqDiff, Int.reduceToNat]
         refine hK _ _ ?_; clear hK K
         refine TW_nil ?_
         try simp only [Ex.thnH, Ex.inBlockH, ↓reduceIte, Nat.reduceEqDiff]
         refine hK10 _ _ ?_; try clear hK10 K10
         refine zaa ?_
         refine zam rfl ?_
         refine zac (fun K hK r => ?_)
         simp (disch := (first | omega | decide)) only [zaF, zaH, b_add, zaw, zaE, zaD, zaQ, eX, ↓reduceIte, Nat.reduceEqDiff, Int.reduceToNat]
         refine hK _ _ ?_; clear hK K
         refine zao rfl ?_
         refine zae ?_
         try simp only [Ex.thnH, Ex.inBlockH, ↓reduceIte, Nat.reduceEqDiff]
         refine ⟨l.length - (k + 1), by omega, k + 1, _, rs44, _, _, by omega, rfl, (fun j hj => ?_), hN.next (by omega) hb41 (ho44.upd z4) ((zaA _ _ (Ne.symm z41)).trans y41) (fun x o hx hc => (zaA _ _ (fun e => ?_)).trans (q44 x o hx (fun e => ?_))) hr44', ?_, ?_, (zaA _ _ n4_b2).trans y2, zax _ _ _, rfl, rfl, rfl, rfl, trivial⟩
         ·by_cases e : j = k
          ·subst e; exact hok
          ·exact hoks j (by omega)
         ·subst e
          rcases hc with h1 | h1
          ·exact h1 g4
          ·exact h1 f4_H
         ·rcases hc with h1 | h1
          ·exact h1 (hrsG x e).1
          ·exact h1 (hrsG x e).2
         ·exact (zaA _ _ z24).trans g2
         ·exact (zaA _ _ z41).trans g4
    ·first
     |(exfalso; exact cnA c19; done)
     |skip
      (try simp only [decide_eq_true_eq, decide_eq_false_iff_not, Bool.not_eq_true, Bool.not_eq_false, Bool.and_eq_true, Bool.or_eq_true, Bool.or_eq_false_iff, Bool.not_eq_eq_eq_not, Bool.not_true, Bool.not_false] at c19)
      have hkn : k = l.length := by omega
      refine CW_exit ?_
      try simp only [Ex.thnH, Ex.inBlockH, ↓reduceIte, Nat.reduceEqDiff]
      refine hK6 _ _ ?_; try clear hK6 K6
      refine zad (fun K14 hK14 => ?_)
      refine zaa ?_
      refine zac (fun K hK r => ?_)
      simp only [zan, eX, ↓reduceIte, Nat.reduceEqDiff, Int.reduceToNat]
      first | refine zaN Try.underlying38 rfl sz38 hbA bdA ?_ | refine zaC Try.underlying38 rfl sz38 hbA bdA ?_
      try simp only [List.extract_toArray, List.extract_eq_take_drop, Nat.zero_add, Nat.reduceAdd, Nat.reduceSub, Nat.sub_zero, List.drop_succ_cons, List.drop_zero, List.take_succ_cons, List.take_zero, List.take_nil, List.drop_nil]
      try simp only [eX, ↓reduceIte, Nat.reduceEqDiff, Int.reduceToNat]
      refine hK _ _ ?_; clear hK K
      refine zbq rfl (zaJ) (fun K hK r => ?_)
      simp only [zaL, eX, ↓reduceIte, Nat.reduceEqDiff, Int.reduceToNat]
      first | refine zaz sz38 bdA hbA bdA plA (by decide) ?_ | refine zaI sz38 bdA hbA bdA plA (by decide) ?_
      try simp only [eX, ↓reduceIte, Nat.reduceEqDiff, Int.reduceToNat]
      refine hK _ _ ?_; clear hK K
      refine zao rfl ?_
      refine zae ?_
      try simp only [Ex.thnH, Ex.inBlockH, ↓reduceIte, Nat.reduceEqDiff]
      refine hK14 _ _ ?_; try clear hK14 K14
      refine zaR ?_
      try simp only [Ex.thnH, Ex.inBlockH, ↓reduceIte, Nat.reduceEqDiff]
      refine ⟨[_, _], ⟨⟨_, rfl, zbd Try.underlying38 rfl sz38 hbA bdA⟩, rfl, trivial⟩, _, Le.refl _, .inr ⟨good_all hlen.1 hlen.2 (by rw [← hkn]; exact hoks), ?_, ?_⟩⟩
      ·exact zaP hOld f2_H
      ·subst hkn
       refine ⟨va, vc, X, by rw [hN.len]; rfl, ⟨?_, fun x hx => (hN.ok x hx).le (zaP hN.le g2)⟩, by show l.map newR = _; rw [hN.dv, List.take_of_length_le (Nat.le_refl _)]⟩
       rw [hN.len]
       exact (hN.own.upd (hN.own.neT k2 (by decide))).holds
end Go.Proofs.Ytcjdkfhmlnfedaa.HL
end
section
namespace Go.Proofs.Ytcjdkfhmlnfedaa.HL
open Go
set_option linter.unusedSimpArgs false
set_option linter.unusedVariables false
def leI : List Int → Int
  | [] => 0
  | x :: r => x + 256 * leI r
def leR : Nat → Int → List Int
  | 0, _ => []
  | k + 1, n => (n % 256) :: leR k (n / 256)
theorem leR_len : ∀ (k : Nat) (n : Int), (leR k n).length = k
  | 0, _ => rfl
  | k + 1, n => by simp [leR, leR_len k]
theorem leR_byte : ∀ (k : Nat) (n : Int), ByteL (leR k n)
  | 0, _ => by intro x hx; cases hx
  | k + 1, n => by
    intro x hx
    rcases List.mem_cons.1 hx with rfl | hx
    · omega
    · exact leR_byte k _ x hx
theorem leI_leR : ∀ (k : Nat) (n : Int), leI (leR k n) = n % 256 ^ k
  | 0, n => by simp [leI, leR]
  | k + 1, n => by
    have hp : (0 : Int) < 256 ^ k := Int.pow_pos (by decide)
    rw [leR, leI, leI_leR k, Int.pow_succ, Int.mul_comm (256 ^ k) 256]
    have h1 := Int.emod_nonneg (n / 256) (Int.ne_of_gt hp)
    have h2 := Int.emod_lt_of_pos (n / 256) hp
    have h3 := Int.mul_ediv_add_emod (n / 256) (256 ^ k)
    have h4 := ((Int.ediv_emod_unique (a := n) (b := 256 * 256 ^ k) (r := n % 256 + 256 * (n / 256 % 256 ^ k)) (q := n / 256 / 256 ^ k) (by omega)).2 ⟨?_, by omega, by omega⟩).2
    · exact h4.symm
    · rw [Int.mul_assoc]; omega
theorem leI_range : ∀ (l : List Int), ByteL l → 0 ≤ leI l ∧ leI l < 256 ^ l.length
  | [], _ => by simp [leI]
  | x :: r, h => by
    have hx := h x (by simp)
    have := leI_range r (fun y hy => h y (by simp [hy]))
    simp only [List.length_cons, leI, Int.pow_succ]
    omega
theorem leI_snoc : ∀ (l : List Int) (x : Int), leI (l ++ [x]) = leI l + x * 256 ^ l.length
  | [], x => by simp [leI]
  | y :: r, x => by
    have h1 := leI_snoc r x
    simp only [List.cons_append, List.length_cons, leI, h1, Int.pow_succ]
    rw [Int.mul_add, Int.add_assoc, ← Int.mul_assoc x, Int.mul_comm (x * 256 ^ r.length) 256]
def stampI (n : Int) : List Int := [0, 1, 2, 3, 4, 5].map fun k => IntKind.u8.wrap (n.fdiv (2 ^ (8 * k)))
abbrev stampL (n : Int) : List Value := u8s (stampI n)
theorem stampL_step (n : Int) (k : Nat) (h : k < 6) : (stampL n).take (k + 1) = (stampL n).take k ++ [.int .u8 (IntKind.u8.wrap (n.fdiv (2 ^ (min (8 * (k : Int)).toNat IntKind.i64.bits))))] := by
  rcases k with _ | _ | _ | _ | _ | _ | k <;> first | rfl | omega
theorem stampI_len (n : Int) : (stampI n).length = 6 := rfl
theorem stampI_eq (n : Int) : stampI n = leR 6 n := by
  have e : ∀ b : Int, 0 ≤ b → n.fdiv b = n / b := fun b h => Int.fdiv_eq_ediv_of_nonneg n h
  simp only [stampI, leR, List.map_cons, List.map_nil, u8_def, Nat.mul_zero, Nat.reduceMul, Int.reducePow, List.cons.injEq, and_true, e 1 (by decide), e 256 (by decide), e 65536 (by decide), e 16777216 (by decide), e 4294967296 (by decide), e 1099511627776 (by decide)]
  refine ⟨?_, ?_, ?_, ?_, ?_, ?_⟩ <;> first | omega | trivial
theorem leI_stamp (n : Int) (h0 : 0 ≤ n) (h1 : n ≤ 281474976710655) : leI (stampI n) = n := by
  rw [stampI_eq, leI_leR]; simp only [Int.reducePow]; omega
theorem stamp_byte (n : Int) : ByteL (stampI n) := by rw [stampI_eq]; exact leR_byte 6 n
theorem le_step (D : List Int) (k : Nat) (hk : k < 6) (hl : k < D.length) (hB : ByteL D) :
    IntKind.i64.wrap (BitVec.ofInt IntKind.i64.bits (leI (D.take k)) ||| BitVec.ofInt IntKind.i64.bits (IntKind.i64.wrap (IntKind.i64.wrap (D.getD k 0) * 2 ^ min (8 * (k : Int)).toNat IntKind.i64.bits))).toNat = leI (D.take (k + 1)) := by
  have hx : 0 ≤ D.getD k 0 ∧ D.getD k 0 ≤ 255 := by
    rw [List.getD_eq_getElem?_getD, List.getElem?_eq_getElem hl]; exact hB _ (List.getElem_mem hl)
  have hr := leI_range (D.take k) (fun x h => hB x (List.mem_of_mem_take h))
  have hlen : (D.take k).length = k := by simp; omega
  rw [hlen] at hr
  have e1 : min (8 * (k : Int)).toNat IntKind.i64.bits = 8 * k := by
    have : IntKind.i64.bits = 64 := rfl
    omega
  have e2 : (2 : Int) ^ (8 * k) = 256 ^ k := by rw [Int.pow_mul]; rfl
  have e3 : (256 : Int) ^ k ≤ 1099511627776 := (show ∀ j, j < 6 → (256 : Int) ^ j ≤ 1099511627776 by decide) k hk
  have hp : (0 : Int) < 256 ^ k := Int.pow_pos (by decide)
  have e4 : D.getD k 0 * 256 ^ k ≤ 255 * 1099511627776 := Int.mul_le_mul hx.2 e3 (by omega) (by decide)
  have e5 : 0 ≤ D.getD k 0 * 256 ^ k := Int.mul_nonneg hx.1 (by omega)
  have e6 : D.take (k + 1) = D.take k ++ [D.getD k 0] := by
    rw [List.take_add_one, List.getD_eq_getElem?_getD, List.getElem?_eq_getElem hl]; rfl
  rw [zaw (D.getD k 0) (by omega) (by omega), e1, e2, zaw (D.getD k 0 * 256 ^ k) (by omega) (by omega), ← e2, or_i64 _ _ _ hr.1 (by rw [e2]; exact hr.2) hx.1 (by rw [e2]; omega), e6, leI_snoc, hlen, e2]
def sealL (st kd : Int) (l : List Int) : List Int := stampI st ++ [kd, (l.length : Int)] ++ l ++ List.replicate (50 - l.length) 0 ++ stampI st
def badI (st kd : Int) (l : List Int) : Option Int := if st < 1 ∨ st > 281474976710655 ∨ kd < 1 ∨ kd > 255 then some 1 else if l.length > 50 then some 2 else none
def zeroS : List Int := List.replicate 64 0
def sealI (st kd : Int) (l : List Int) : List Int := match badI st kd l with | some _ => zeroS | none => sealL st kd l
theorem badI_none {st kd : Int} {l : List Int} (h : badI st kd l = none) : 1 ≤ st ∧ st ≤ 281474976710655 ∧ 1 ≤ kd ∧ kd ≤ 255 ∧ l.length ≤ 50 := by
  unfold badI at h; split at h <;> try cases h
  split at h <;> try cases h
  omega
theorem sealL_len {st kd : Int} {l : List Int} (h : l.length ≤ 50) : (sealL st kd l).length = 64 := by
  simp [sealL, stampI_len]; omega
theorem sealL_byte {st kd : Int} {l : List Int} (hb : ByteL l) (h : badI st kd l = none) : ByteL (sealL st kd l) := by
  have := badI_none h
  intro x hx
  simp only [sealL, List.mem_append, List.mem_cons, List.mem_replicate, List.not_mem_nil, or_false] at hx
  rcases hx with (((hx | hx) | hx) | hx) | hx
  · exact stamp_byte _ x hx
  · omega
  · exact hb x hx
  · omega
  · exact stamp_byte _ x hx
def stOf (L : List Int) : Int := leI (L.take 6)
def tailOf (L : List Int) : Int := leI ((L.drop 58).take 6)
def kdOf (L : List Int) : Int := L.getD 6 0
def szS (L : List Int) : Int := L.getD 7 0
def dtOf (L : List Int) : List Int := (L.drop 8).take (szS L).toNat
theorem sealI_len (st kd : Int) (l : List Int) : (sealI st kd l).length = 64 := by
  unfold sealI; split
  · rfl
  · rename_i h; exact sealL_len (badI_none h).2.2.2.2
theorem dtOf_len {L : List Int} (hc : L.length = 64) (h : szS L ≤ 50) : (dtOf L).length = (szS L).toNat := by simp [dtOf]; omega
def goodI (L : List Int) : Bool := decide (stOf L = tailOf L ∧ szS L ≤ 50 ∧ badI (stOf L) (kdOf L) (dtOf L) = none ∧ sealL (stOf L) (kdOf L) (dtOf L) = L)
def openI (L : List Int) : Option (Int × Int × List Int) := if goodI L = true then some (stOf L, kdOf L, dtOf L) else none
theorem open_none_bad {L : List Int} (h : (badI (stOf L) (kdOf L) (dtOf L)).isSome = true) : openI L = none := by
  rw [openI, if_neg]; rw [goodI]; intro hh; simp only [decide_eq_true_eq] at hh; rw [hh.2.2.1] at h; cases h
theorem open_none_ne {L : List Int} (h : ¬ sealI (stOf L) (kdOf L) (dtOf L) = L) : openI L = none := by
  rw [openI, if_neg]; rw [goodI]; intro hh; simp only [decide_eq_true_eq] at hh
  apply h; rw [sealI, hh.2.2.1]; exact hh.2.2.2
theorem open_some {L : List Int} (h1 : leI (L.take 6) = leI ((L.drop 58).take 6)) (h2 : L.getD 7 0 ≤ 50) (h3 : (badI (stOf L) (kdOf L) (dtOf L)).isSome = false) (h4 : sealI (stOf L) (kdOf L) (dtOf L) = L) : openI L = some (stOf L, kdOf L, dtOf L) := by
  have h5 : badI (stOf L) (kdOf L) (dtOf L) = none := by cases h : badI (stOf L) (kdOf L) (dtOf L) <;> simp_all
  rw [openI, if_pos]
  rw [goodI, decide_eq_true_eq]
  refine ⟨h1, h2, h5, ?_⟩
  rw [sealI, h5] at h4; exact h4
def opS (L : List Int) : Int := match openI L with | some (s, _, _) => s | none => 0
def opK (L : List Int) : Int := match openI L with | some (_, k, _) => k | none => 0
def opD (L : List Int) : List Int := match openI L with | some (_, _, d) => d | none => []
def opE (L : List Int) : Option Int := match openI L with | some _ => none | none => some 9
def isB (L : List Int) (st kd : Int) : Bool := (opE L).isNone && decide (opS L = st) && decide (opK L = kd)
def isD (L : List Int) (st kd : Int) : List Int := if isB L st kd = true then opD L else []
theorem opD_len (L : List Int) : (opD L).length ≤ 50 := by
  unfold opD openI
  split
  · rename_i s k d h
    split at h
    · rename_i hg
      simp only [goodI, decide_eq_true_eq] at hg
      have h1 := (badI_none hg.2.2.1).2.2.2.2
      cases h; exact h1
    · cases h
  · exact Nat.zero_le _
theorem opD_byte {L : List Int} (hB : ByteL L) : ByteL (opD L) := by
  unfold opD openI
  split
  · rename_i s k d h
    split at h
    · cases h; exact fun x hx => hB x (List.mem_of_mem_drop (List.mem_of_mem_take hx))
    · cases h
  · intro x hx; cases hx
def dvK : Nat → Int → Int
  | 0, n => n
  | k + 1, n => dvK k (n / 256)
theorem dvK_succ : ∀ (k : Nat) (n : Int), dvK (k + 1) n = dvK k n / 256
  | 0, _ => rfl
  | k + 1, n => by rw [dvK, dvK_succ k]; rfl
theorem dvK_range : ∀ (k : Nat) (n : Int), 0 ≤ n → n ≤ 281474976710655 → 0 ≤ dvK k n ∧ dvK k n ≤ 281474976710655
  | 0, _, h, h2 => ⟨h, h2⟩
  | k + 1, n, h, h2 => by rw [dvK]; exact dvK_range k _ (by omega) (by omega)
theorem leR_snoc : ∀ (k : Nat) (n : Int), leR (k + 1) n = leR k n ++ [dvK k n % 256]
  | 0, _ => rfl
  | k + 1, n => by rw [leR, leR_snoc k]; rfl
def refS (st : Int) (k : Nat) : List Int := leR k st ++ List.replicate (58 - k) 0 ++ (leR k st ++ List.replicate (6 - k) 0)
def refD (st kd : Int) (l : List Int) (k : Nat) : List Int := leR 6 st ++ [kd, (l.length : Int)] ++ (l.take k ++ List.replicate (50 - k) 0) ++ leR 6 st
theorem u8s_set (l : List Int) (i : Nat) (x : Int) : (u8s l).toArray.setIfInBounds i (.int .u8 x) = (u8s (l.set i x)).toArray := by simp [List.map_set]
theorem set_mid (A : List Int) (n : Nat) (B : List Int) (i : Nat) (x : Int) (h : A.length = i) (hn : 0 < n) : (A ++ List.replicate n 0 ++ B).set i x = A ++ [x] ++ List.replicate (n - 1) 0 ++ B := by
  obtain ⟨m, rfl⟩ : ∃ m, n = m + 1 := ⟨n - 1, by omega⟩
  subst h
  rw [List.append_assoc, List.set_append_right _ _ (Nat.le_refl _), Nat.sub_self]
  simp [List.replicate_succ]
theorem refS_step (st : Int) (k : Nat) (hk : k < 6) : ((refS st k).set k (dvK k st % 256)).set (58 + k) (dvK k st % 256) = refS st (k + 1) := by
  have h1 : (refS st k).set k (dvK k st % 256) = leR (k + 1) st ++ List.replicate (58 - (k + 1)) 0 ++ (leR k st ++ List.replicate (6 - k) 0) := by
    rw [refS, set_mid _ _ _ _ _ (leR_len k st) (by omega), leR_snoc]; rfl
  rw [h1]
  have h2 := set_mid (leR (k + 1) st ++ List.replicate (58 - (k + 1)) 0 ++ leR k st) (6 - k) [] (58 + k) (dvK k st % 256) (by simp [leR_len]; omega) (by omega)
  simp only [List.append_nil, List.append_assoc] at h2 ⊢
  rw [h2, refS, leR_snoc]
  simp only [List.append_assoc]
  rfl
theorem refS_size (st : Int) (k : Nat) (hk : k ≤ 6) : (refS st k).length = 64 := by simp [refS, leR_len]; omega
theorem refD_size (st kd : Int) (l : List Int) (k : Nat) (hk : k ≤ 50) (hl : k ≤ l.length) : (refD st kd l k).length = 64 := by simp [refD, leR_len]; omega
theorem refD_zero (st kd : Int) (l : List Int) : ((refS st 6).set 6 kd).set 7 l.length = refD st kd l 0 := rfl
theorem refD_step (st kd : Int) (l : List Int) (k : Nat) (hk : k < l.length) (h5 : l.length ≤ 50) : (refD st kd l k).set (8 + k) (l.getD k 0) = refD st kd l (k + 1) := by
  have h2 := set_mid (leR 6 st ++ [kd, (l.length : Int)] ++ l.take k) (50 - k) (leR 6 st) (8 + k) (l.getD k 0) (by simp [leR_len]; omega) (by omega)
  have e6 : l.take (k + 1) = l.take k ++ [l.getD k 0] := by
    rw [List.take_add_one, List.getD_eq_getElem?_getD, List.getElem?_eq_getElem hk]; rfl
  have e7 : 50 - k - 1 = 50 - (k + 1) := by omega
  rw [refD, refD, e6]
  simp only [List.append_assoc, e7] at h2 ⊢
  exact h2
theorem refD_full (st kd : Int) (l : List Int) (h : badI st kd l = none) : refD st kd l l.length = sealI st kd l := by
  rw [sealI, h, refD, sealL, stampI_eq, List.take_length]; simp
theorem parts_seal {st kd : Int} {l : List Int} (h : badI st kd l = none) : stOf (sealL st kd l) = st ∧ tailOf (sealL st kd l) = st ∧ kdOf (sealL st kd l) = kd ∧ szS (sealL st kd l) = l.length ∧ dtOf (sealL st kd l) = l := by
  obtain ⟨h1, h2, h3, h4, h5⟩ := badI_none h
  have e1 : stOf (sealL st kd l) = st := by
    rw [stOf, sealL, List.append_assoc, List.append_assoc, List.append_assoc, List.take_left' (stampI_len st)]; exact leI_stamp st (by omega) h2
  have e5 : (sealL st kd l).drop 58 = stampI st := by
    rw [sealL, List.drop_left' (by simp [stampI_len]; omega)]
  have e2 : tailOf (sealL st kd l) = st := by
    rw [tailOf, e5, List.take_of_length_le (by simp [stampI_len])]; exact leI_stamp st (by omega) h2
  have e6 : (sealL st kd l).drop 6 = [kd, (l.length : Int)] ++ l ++ List.replicate (50 - l.length) 0 ++ stampI st := by
    rw [sealL, List.append_assoc, List.append_assoc, List.append_assoc, List.drop_left' (stampI_len st)]; simp
  have e3 : kdOf (sealL st kd l) = kd := by
    have : (sealL st kd l)[6]? = some kd := by
      have := congrArg (·[0]?) e6; simpa [List.getElem?_drop] using this
    rw [kdOf, List.getD_eq_getElem?_getD, this]; rfl
  have e4 : szS (sealL st kd l) = l.length := by
    have : (sealL st kd l)[7]? = some (l.length : Int) := by
      have := congrArg (·[1]?) e6; simpa [List.getElem?_drop] using this
    rw [szS, List.getD_eq_getElem?_getD, this]; rfl
  have e8 : (sealL st kd l).drop 8 = l ++ (List.replicate (50 - l.length) 0 ++ stampI st) := by
    have : (sealL st kd l).drop 8 = ((sealL st kd l).drop 6).drop 2 := by rw [List.drop_drop]
    rw [this, e6]; simp
  refine ⟨e1, e2, e3, e4, ?_⟩
  rw [dtOf, e4, e8]; simp
theorem good_seal {st kd : Int} {l : List Int} (h : badI st kd l = none) : goodI (sealL st kd l) = true := by
  obtain ⟨h1, h2, h3, h4, h5⟩ := parts_seal h
  have h6 := badI_none h
  simp only [goodI, h1, h2, h3, h4, h5, h, and_true, true_and, decide_eq_true_eq]; omega
theorem open_seal {st kd : Int} {l : List Int} (h : badI st kd l = none) : openI (sealL st kd l) = some (st, kd, l) := by
  obtain ⟨h1, h2, h3, h4, h5⟩ := parts_seal h
  rw [openI, if_pos (good_seal h), h1, h3, h5]
theorem good_iff {L : List Int} : goodI L = true ↔ (stOf L = tailOf L ∧ szS L ≤ 50 ∧ badI (stOf L) (kdOf L) (dtOf L) = none ∧ sealL (stOf L) (kdOf L) (dtOf L) = L) := by simp [goodI]
theorem leI_drop {L : List Int} (hc : L.length = 64) (i : Nat) (hi : i < 6) : leI ((L.take 6).drop i) = L.getD i 0 + 256 * leI ((L.take 6).drop (i + 1)) := by
  have hl : i < (L.take 6).length := by simp; omega
  rw [List.drop_eq_getElem_cons hl, leI]
  congr 1
  rw [List.getD_eq_getElem?_getD, List.getElem?_eq_getElem (by omega)]; simp
theorem leI_small {L : List Int} (hc : L.length = 64) (hB : ByteL L) (k : Nat) (hk : k ≤ 5) : 0 ≤ leI ((L.take 6).drop (6 - k)) ∧ leI ((L.take 6).drop (6 - k)) ≤ 1099511627775 := by
  have h := leI_range ((L.take 6).drop (6 - k)) (fun x hx => hB x (List.mem_of_mem_take (List.mem_of_mem_drop hx)))
  have hl : ((L.take 6).drop (6 - k)).length = k := by simp; omega
  rw [hl] at h
  have e3 : (256 : Int) ^ k ≤ 1099511627776 := (show ∀ j, j < 6 → (256 : Int) ^ j ≤ 1099511627776 by decide) k (by omega)
  omega
def rdOf (L : List Int) : List Int := (L.drop 8).take (min (szS L).toNat 50)
theorem rdOf_len {L : List Int} (hc : L.length = 64) : (rdOf L).length = min (szS L).toNat 50 := by simp [rdOf]; omega
theorem rdOf_step {L : List Int} (hc : L.length = 64) (k : Nat) (hk : k < 50) : (L.drop 8).take (k + 1) = (L.drop 8).take k ++ [L.getD (8 + k) 0] := by
  rw [List.take_add_one, List.getElem?_drop, getD_of_lt L (8 + k) (by omega)]; rfl
theorem ref_some {L : List Int} (hB : ByteL L) (h1 : badI (stOf L) (kdOf L) (rdOf L) = none) (h2 : sealI (stOf L) (kdOf L) (rdOf L) = L) : openI L = some (stOf L, kdOf L, rdOf L) := by
  rw [sealI, h1] at h2
  have h2 : sealL (stOf L) (kdOf L) (rdOf L) = L := h2
  have := open_seal h1
  rw [h2] at this; exact this
theorem ref_none {L : List Int} (hc : L.length = 64) (hB : ByteL L) (h : ¬ (badI (stOf L) (kdOf L) (rdOf L) = none ∧ sealI (stOf L) (kdOf L) (rdOf L) = L)) : openI L = none := by
  rw [openI, if_neg]
  intro hg
  have hz := getD_byte hB 7
  simp only [goodI, decide_eq_true_eq] at hg
  have e : rdOf L = dtOf L := by
    have : szS L ≤ 50 := hg.2.1
    rw [rdOf, dtOf, Nat.min_eq_left (by omega)]
  rw [e] at h
  exact h ⟨hg.2.2.1, by rw [sealI, hg.2.2.1]; exact hg.2.2.2⟩
theorem badI_zero {st kd : Int} {l : List Int} (h : (badI st kd l).getD 0 = 0) : badI st kd l = none := by
  unfold badI at *; split <;> rename_i h1
  · rw [if_pos h1] at h; simp at h
  · rw [if_neg h1] at h; split at h
    · simp at h
    · rename_i h2; rw [if_neg h2]
theorem open_vals {L : List Int} {s k : Int} {d : List Int} (h : openI L = some (s, k, d)) : opS L = s ∧ opK L = k ∧ opD L = d ∧ opE L = none := by simp [opS, opK, opD, opE, h]
theorem open_nones {L : List Int} (h : openI L = none) : opS L = 0 ∧ opK L = 0 ∧ opD L = [] ∧ opE L = some 9 := by simp [opS, opK, opD, opE, h]
end Go.Proofs.Ytcjdkfhmlnfedaa.HL
end
section
namespace Go.Proofs.Ytcjdkfhmlnfedaa.HL
open Go Go.Proofs
set_option linter.unusedSimpArgs false
set_option linter.unusedVariables false
attribute [local irreducible] Lt Lq CW OW TW CallH
set_option maxRecDepth 100000 in
set_option maxHeartbeats 1000000 in
theorem num_Same (H : Hp) (va vb : Value) (n m : Nat) (a b : List Int) (ha : Holds H 1 va n (u8s a)) (hb : Holds H 1 vb m (u8s b)) (wa : ByteL a) (wb : ByteL b) :
  CallH Try.prog 25 #[va, vb] H (fun v H' => v = .bool (decide (a = b)) ∧ H' = H) := by
 refine zaB (l := [_, _]) (rl := [.tmp 4]) (n := 10) Try.func25 rfl rfl rfl rfl rfl ?_
 simp only [envOf, Nat.reduceAdd]
 refine zad (fun K1 hK1 => ?_)
 refine zaa ?_
 refine zao rfl ?_
 refine zae ?_
 try simp only [Ex.thnH, Ex.inBlockH, ↓reduceIte, Nat.reduceEqDiff]
 refine hK1 _ _ ?_; try clear hK1 K1
 refine zad (fun K2 hK2 => ?_)
 refine zaa ?_
 refine zam rfl ?_
 refine zac (fun K hK r => ?_)
 simp only [x_convert, eX, ↓reduceIte, Nat.reduceEqDiff, Int.reduceToNat]
 refine Lt_convBS Try.underlying22 Try.underlying5 Try.underlying9 hdA ?_
 try simp only [eX, ↓reduceIte, Nat.reduceEqDiff, Int.reduceToNat]
 refine hK _ _ ?_; clear hK K
 refine zam rfl ?_
 refine zac (fun K hK r => ?_)
 simp only [x_convert, eX, ↓reduceIte, Nat.reduceEqDiff, Int.reduceToNat]
 refine Lt_convBS Try.underlying22 Try.underlying5 Try.underlying9 hdA ?_
 try simp only [eX, ↓reduceIte, Nat.reduceEqDiff, Int.reduceToNat]
 refine hK _ _ ?_; clear hK K
 refine zac (fun K hK r => ?_)
 simp only [zaF, zbo, b_seql, eX, ↓reduceIte, Nat.reduceEqDiff, Int.reduceToNat]
 refine hK _ _ ?_; clear hK K
 refine zao rfl ?_
 refine zae ?_
 try simp only [Ex.thnH, Ex.inBlockH, ↓reduceIte, Nat.reduceEqDiff]
 refine hK2 _ _ ?_; try clear hK2 K2
 refine zaR ?_
 try simp only [Ex.thnH, Ex.inBlockH, ↓reduceIte, Nat.reduceEqDiff]
 refine ⟨[_], ⟨rfl, trivial⟩, H, Le.refl _, ?_, rfl⟩
 show Value.bool _ = _
 rw [strOf_beq wa wb]
theorem copy_cells (l : List Int) : (putCells (putCells (Builtin.zeroCells (Value.int .u8 0).cells ((l.length : Int) + 2).toNat) 0 (u8s l)) l.length [Value.int .u8 165, Value.int .u8 90]) = (u8s (l ++ [165, 90])).toArray := by
  have hz : (Builtin.zeroCells (Value.int .u8 0).cells ((l.length : Int) + 2).toNat).size = l.length + 2 := by rw [zeroCells_size]; simp [Value.cells]; omega
  have hp : (putCells (Builtin.zeroCells (Value.int .u8 0).cells ((l.length : Int) + 2).toNat) 0 (u8s l)).size = l.length + 2 := by rw [putCells_size, hz]
  apply Array.ext'
  rw [putCells_toList _ _ _ (by rw [hp]; simp), putCells_toList _ _ _ (by rw [hz]; simp)]
  have e1 : (u8s l).length = l.length := by simp
  simp only [Nat.zero_add, List.take_zero, List.nil_append]
  rw [List.take_append_of_le_length (by omega), List.take_of_length_le (by omega), List.drop_eq_nil_of_le (by simp [hz])]
  simp
set_option maxRecDepth 100000 in
set_option maxHeartbeats 1000000 in
theorem num_Copy (H : Hp) (v : Value) (l : List Int) (hv : Holds H 1 v l.length (u8s l)) (hn : l.length ≤ 1000000) :
  CallH Try.prog 13 #[v] H (fun v' H' => ∃ r, H r = none ∧ v' = .slice (some ⟨r, 0, none⟩) l.length (l.length + 2) ∧ H' = H.upd r (.cells (u8s (l ++ [165, 90])).toArray 5)) := by
 refine zaB (l := [_]) (rl := [.tmp 2]) (n := 14) Try.func13 rfl rfl rfl rfl rfl ?_
 simp only [envOf, Nat.reduceAdd]
 obtain ⟨a, cap, rfl⟩ := hv.form
 refine zad (fun K1 hK1 => ?_)
 refine zaa ?_
 refine zao rfl ?_
 refine zae ?_
 try simp only [Ex.thnH, Ex.inBlockH, ↓reduceIte, Nat.reduceEqDiff]
 refine hK1 _ _ ?_; try clear hK1 K1
 refine zad (fun K2 hK2 => ?_)
 refine zaa ?_
 refine zam rfl ?_
 refine zac (fun K hK r => ?_)
 simp only [zaM, l_len, List.map_toArray, List.map_cons, List.map_nil, zaS _ _ Try.underlying22, eX, ↓reduceIte, Nat.reduceEqDiff, Int.reduceToNat]
 refine hK _ _ ?_; clear hK K
 refine zac (fun K hK r => ?_)
 simp (disch := (first | omega | decide)) only [zaF, zaH, b_add, zaw, zaE, zaD, zaQ, eX, ↓reduceIte, Nat.reduceEqDiff, Int.reduceToNat]
 refine hK _ _ ?_; clear hK K
 refine zac (fun K hK r => ?_)
 simp only [x_makeSlice, eX, ↓reduceIte, Nat.reduceEqDiff, Int.reduceToNat]
 refine Lt_makeSlice Try.underlying22 sz5 by5 zr5 rfl arA arA arA arA ?_
 intro b6 hb6
 have f6_H : H b6 = none := zaj lhA hb6
 try simp only [eX, ↓reduceIte, Nat.reduceEqDiff, Int.reduceToNat]
 refine hK _ _ ?_; clear hK K
 refine zam rfl ?_
 refine zac (fun K hK r => ?_)
 simp only [zaM, l_append, List.map_toArray, List.map_cons, List.map_nil, eX, ↓reduceIte, Nat.reduceEqDiff, Int.reduceToNat]
 refine Lt_appendRoom (m := l.length) (ds := u8s l) Try.underlying22 Try.underlying22 (by simp) sz5 _ hbA bdA (len_slice _ _ _) (fun K => ?_) (by simp) (PlainL.ints _ _) (by decide) (by omega) ?_
 ·refine (first_holds (hv.le lhA) (Nat.le_refl _) K).trans ?_
  rw [Nat.mul_one, List.take_of_length_le (by simp)]
 simp only [upd_upd, Nat.zero_mul, Nat.zero_add]
 refine hK _ _ ?_; clear hK K
 refine zac (fun K hK r => ?_)
 simp only [zbn, List.map_toArray, List.map_cons, List.map_nil, eX, ↓reduceIte, Nat.reduceEqDiff, Int.reduceToNat]
 refine zbm (vs := [_, _]) Try.underlying22 sz5 zr5 rfl bsA (by first | decide | (simp; done)) ?_
 simp only [List.flatMap_cons, List.flatMap_nil, Value.cells, List.append_nil, List.cons_append, List.nil_append, List.length_cons, List.length_nil, Nat.zero_add, Nat.reduceAdd]
 intro b9 hb9
 try have n9_b6 : b6 ≠ b9 := zai hbA hb9
 have f9_H : H b9 = none := zaj lhA hb9
 try simp only [eX, ↓reduceIte, Nat.reduceEqDiff, Int.reduceToNat]
 refine hK _ _ ?_; clear hK K
 refine zac (fun K hK r => ?_)
 simp only [zaM, l_append, List.map_toArray, List.map_cons, List.map_nil, eX, ↓reduceIte, Nat.reduceEqDiff, Int.reduceToNat]
 refine Lt_appendRoom (m := 2) (ds := [.int .u8 165, .int .u8 90]) Try.underlying22 Try.underlying22 (by simp) sz5 _ hbA bdA (len_slice _ _ _) (fun K => ?_) (by simp) plA (by decide) (by omega) ?_
 ·refine (first_holds (w := 1) (n := 2) (cs := [.int .u8 165, .int .u8 90]) ⟨rfl, .inr ⟨b9, 0, 2, _, _, _, rfl, hbA, by simp, by simp⟩⟩ (Nat.le_refl _) K).trans ?_
  rfl
 refine hK _ _ ?_; clear hK K
 refine zam rfl ?_
 refine zac (fun K hK r => ?_)
 simp only [zaM, l_len, List.map_toArray, List.map_cons, List.map_nil, zaS _ _ Try.underlying22, eX, ↓reduceIte, Nat.reduceEqDiff, Int.reduceToNat]
 refine hK _ _ ?_; clear hK K
 refine zac (fun K hK r => ?_)
 simp only [x_slice, Option.map_some, Option.map_none, eX, ↓reduceIte, Nat.reduceEqDiff, Int.reduceToNat]
 refine Lt_sliceS Try.underlying22 sz5 bound_none (bound_some ixA) bound_none bxA bxA bxA (by simp) ?_
 try simp only [zap, Nat.mul_one, Nat.zero_add, Int.reduceToNat, Nat.reduceSub, Nat.reduceEqDiff, ↓reduceIte]
 try simp only [eX, ↓reduceIte, Nat.reduceEqDiff, Int.reduceToNat]
 refine hK _ _ ?_; clear hK K
 refine zao rfl ?_
 refine zae ?_
 try simp only [Ex.thnH, Ex.inBlockH, ↓reduceIte, Nat.reduceEqDiff]
 refine hK2 _ _ ?_; try clear hK2 K2
 refine zaR ?_
 try simp only [Ex.thnH, Ex.inBlockH, ↓reduceIte, Nat.reduceEqDiff]
 have e0 : ((l.length : Int) + 2).toNat = l.length + 2 := by omega
 refine ⟨[_], ⟨rfl, trivial⟩, H.upd b6 (.cells (u8s (l ++ [165, 90])).toArray 5), ?_, b6, f6_H, ?_, rfl⟩
 ·rw [← copy_cells l]
  intro x o hx
  by_cases e : x = b6
  ·subst e
   rw [zax] at hx
   rw [zax, ← hx]
   simp only [Nat.mul_one, Nat.zero_add, Nat.zero_mul, Value.cells]
  ·rw [zaA _ _ e] at hx
   have e9 : x ≠ b9 := fun h => by rw [h, f9_H] at hx; cases hx
   simp only [zaA _ _ e, zaA _ _ e9]; exact hx
 ·show Value.slice (if _ then _ else _) _ _ = _
  rw [e0, if_neg (by omega)]
  rfl
set_option maxRecDepth 100000 in
set_option maxHeartbeats 1000000 in
theorem stamp_ok (H : Hp) (b : Nat) (c : Array Value) (t : TypeId) (at_ n : Int) (hb : H b = some (.cells c t)) (hc : c.size = 64) (h0 : 0 ≤ at_) (h1 : at_ ≤ 58) :
  CallH Try.prog 61 #[.pointer (some ⟨b, 0, none⟩), .int .i64 at_, .int .i64 n] H (fun v H' => v = .tuple #[] ∧ H' = H.upd b (.cells (putCells c at_.toNat (stampL n)) t)) := by
 refine zaB (l := [_, _, _]) (rl := []) (n := 22) Try.func61 rfl rfl rfl rfl rfl ?_
 simp only [envOf, Nat.reduceAdd]
 refine zad (fun K1 hK1 => ?_)
 refine zaa ?_
 refine zam rfl ?_
 refine zae ?_
 try simp only [Ex.thnH, Ex.inBlockH, ↓reduceIte, Nat.reduceEqDiff]
 refine hK1 _ _ ?_; try clear hK1 K1
 refine zaV ?_
 refine CW_loop (fun m e H_ => ∃ k : Nat, k ≤ 6 ∧ m = 6 - k ∧ Env.has [(0, .pointer (some ⟨b, 0, none⟩)), (1, .int .i64 at_), (2, .int .i64 n), (7, .int .i64 k)] e ∧ H_ = H.upd b (.cells (putCells c at_.toNat ((stampL n).take k)) t)) (6) ?_ ?_
 ·skip
  exact ⟨0, by omega, rfl, ⟨rfl, rfl, rfl, rfl, trivial⟩, by simp [putCells, upd_self, hb]⟩
 intro m_ e_ H_ hI_
 obtain ⟨k, hk6, rfl, he, rfl⟩ := hI_
 refine CW_env he.sub ?_; clear he e_
 refine zad (fun K2 hK2 => ?_)
 refine zaa ?_
 refine zac (fun K hK r => ?_)
 simp (disch := (first | omega | decide)) only [zaF, zaH, b_lss, zaq, zar, zat, zau, zas, zav, Bool.not_true, Bool.not_false, eX, ↓reduceIte, Nat.reduceEqDiff, Int.reduceToNat]
 refine hK _ _ ?_; clear hK K
 refine zae ?_
 try simp only [Ex.thnH, Ex.inBlockH, ↓reduceIte, Nat.reduceEqDiff]
 refine hK2 _ _ ?_; try clear hK2 K2
 refine zad (fun K3 hK3 => ?_)
 refine zaG (fun r => rfl) (fun c8 => ?_) (fun c8 => ?_)
 ·first
  |(exfalso; exact cnA c8; done)
  |skip
   (try simp only [decide_eq_true_eq, decide_eq_false_iff_not, Bool.not_eq_true, Bool.not_eq_false, Bool.and_eq_true, Bool.or_eq_true, Bool.or_eq_false_iff, Bool.not_eq_eq_eq_not, Bool.not_true, Bool.not_false] at c8)
   refine zaO ?_
   try simp only [Ex.thnH, Ex.inBlockH, ↓reduceIte, Nat.reduceEqDiff]
   refine hK3 _ _ ?_; try clear hK3 K3
   refine zad (fun K4 hK4 => ?_)
   refine zaV ?_
   refine zad (fun K5 hK5 => ?_)
   refine zaa ?_
   refine zam rfl ?_
   refine zao rfl ?_
   refine zae ?_
   try simp only [Ex.thnH, Ex.inBlockH, ↓reduceIte, Nat.reduceEqDiff]
   refine hK5 _ _ ?_; try clear hK5 K5
   refine CW_drawO [0, 0, 0, 0, 0, 0, 0, 0, 0, 0, 0, 3] [0, 1, 2, 3, 4, 5, 6, 7, 8, 9, 10, 11] emptyHp (by kernel_rfl) (by kernel_rfl) (le_empty _) ?_
   apply zay rfl (zab (by decide)) rfl
   ·intro r
    simp only [zaU, eX, ↓reduceIte, Nat.reduceEqDiff]
    exact ⟨rfl, Le.refl _⟩
   simp only [eX, ↓reduceIte, Nat.reduceEqDiff, Int.reduceToNat]
   apply zay rfl (zab (by decide)) rfl
   ·intro r
    simp only [zaU, eX, ↓reduceIte, Nat.reduceEqDiff]
    exact ⟨rfl, Le.refl _⟩
   simp only [eX, ↓reduceIte, Nat.reduceEqDiff, Int.reduceToNat]
   apply zay rfl (zab (by decide)) rfl
   ·intro r
    simp only [zaU, eX, ↓reduceIte, Nat.reduceEqDiff]
    exact ⟨rfl, Le.refl _⟩
   simp only [eX, ↓reduceIte, Nat.reduceEqDiff, Int.reduceToNat]
   apply zay rfl (zab (by decide)) rfl
   ·intro r
    simp (disch := (first | omega | decide)) only [zaF, zaH, b_add, zaw, zaE, zaD, zaQ, eX, ↓reduceIte, Nat.reduceEqDiff]
    exact ⟨rfl, Le.refl _⟩
   simp only [eX, ↓reduceIte, Nat.reduceEqDiff, Int.reduceToNat]
   apply zay rfl (zab (by decide)) rfl
   ·intro r
    simp only [zaU, eX, ↓reduceIte, Nat.reduceEqDiff]
    exact ⟨rfl, Le.refl _⟩
   simp only [eX, ↓reduceIte, Nat.reduceEqDiff, Int.reduceToNat]
   apply zay rfl (zab (by decide)) rfl
   ·intro r
    simp only [zaU, eX, ↓reduceIte, Nat.reduceEqDiff]
    exact ⟨rfl, Le.refl _⟩
   simp only [eX, ↓reduceIte, Nat.reduceEqDiff, Int.reduceToNat]
   apply zay rfl (zab (by decide)) rfl
   ·intro r
    simp (disch := (first | omega | decide)) only [zaF, zaH, b_mul, zaw, zaE, zaD, zaQ, eX, ↓reduceIte, Nat.reduceEqDiff]
    exact ⟨rfl, Le.refl _⟩
   simp only [eX, ↓reduceIte, Nat.reduceEqDiff, Int.reduceToNat]
   apply zay rfl (zab (by decide)) rfl
   ·intro r
    simp (disch := (first | omega | decide)) only [zaF, zaH, b_shr, zaw, zaE, zaD, zaQ, eX, ↓reduceIte, Nat.reduceEqDiff]
    exact ⟨rfl, Le.refl _⟩
   simp only [eX, ↓reduceIte, Nat.reduceEqDiff, Int.reduceToNat]
   apply zay rfl (zab (by decide)) rfl
   ·intro r
    simp (disch := (first | omega | decide)) only [x_convert, c_int _ _ _ _ Try.underlying3 Try.underlying5, zaw, zaE, zaD, zaQ, eX, ↓reduceIte, Nat.reduceEqDiff]
    exact ⟨rfl, Le.refl _⟩
   simp only [eX, ↓reduceIte, Nat.reduceEqDiff, Int.reduceToNat]
   apply zay rfl (zab (by decide)) rfl
   ·intro r
    rw [zbh _ _ rfl]
    exact ⟨rfl, Le.refl _⟩
   simp only [eX, ↓reduceIte, Nat.reduceEqDiff, Int.reduceToNat]
   apply zay rfl (zab (by decide)) rfl
   ·intro r
    simp only [zaK, eX, ↓reduceIte, Nat.reduceEqDiff]
    refine Lt_indexA Try.underlying45 sz5 ixA ixA ?_
    try simp only [zap, Nat.mul_one, Nat.zero_add, Int.reduceToNat]
    exact ⟨rfl, Le.refl _⟩
   simp only [eX, ↓reduceIte, Nat.reduceEqDiff, Int.reduceToNat]
   refine TW_last rfl (zaJ) rfl (fun K hK r => ?_)
   simp only [zaL, eX, ↓reduceIte, Nat.reduceEqDiff, Int.reduceToNat]
   refine zaY sz5 hbA bdA plA fzA ?_
   try simp only [setL0, setL1, setL2, setL3, setL4, setL5, setL6, setL7, setL8, setL9]
   try simp only [eX, ↓reduceIte, Nat.reduceEqDiff, Int.reduceToNat]
   refine hK _ _ ?_; clear hK K
   refine TW_nil ?_
   try simp only [Ex.thnH, Ex.inBlockH, ↓reduceIte, Nat.reduceEqDiff]
   refine hK4 _ _ ?_; try clear hK4 K4
   refine zaa ?_
   refine zac (fun K hK r => ?_)
   simp (disch := (first | omega | decide)) only [zaF, zaH, b_add, zaw, zaE, zaD, zaQ, eX, ↓reduceIte, Nat.reduceEqDiff, Int.reduceToNat]
   refine hK _ _ ?_; clear hK K
   refine zam rfl ?_
   refine zae ?_
   try simp only [Ex.thnH, Ex.inBlockH, ↓reduceIte, Nat.reduceEqDiff]
   refine ⟨6 - (k + 1), by omega, k + 1, by omega, rfl, ⟨rfl, rfl, rfl, (by first | rfl | simp [Env.get]), trivial⟩, ?_⟩
   rw [stampL_step n k (by omega), putCells_snoc]
   congr 3
   have : (List.take k (stampL n)).length = k := by simp [stampL, u8s, stampI]; omega
   rw [this]; omega
 ·first
  |(exfalso; exact cnA c8; done)
  |skip
   (try simp only [decide_eq_true_eq, decide_eq_false_iff_not, Bool.not_eq_true, Bool.not_eq_false, Bool.and_eq_true, Bool.or_eq_true, Bool.or_eq_false_iff, Bool.not_eq_eq_eq_not, Bool.not_true, Bool.not_false] at c8)
   refine CW_exit ?_
   try simp only [Ex.thnH, Ex.inBlockH, ↓reduceIte, Nat.reduceEqDiff]
   obtain rfl : k = 6 := by omega
   exact ⟨[], trivial, _, Le.refl _, rfl, rfl⟩
set_option maxRecDepth 100000 in
set_option maxHeartbeats 1000000 in
theorem stamped_ok (H : Hp) (b : Nat) (L : List Int) (t : TypeId) (at_ : Nat) (hb : H b = some (.cells (u8s L).toArray t)) (hc : L.length = 64) (h1 : at_ ≤ 58) (hB : ByteL L) :
  CallH Try.prog 69 #[.pointer (some ⟨b, 0, none⟩), .int .i64 at_] H (fun v H' => v = .int .i64 (leI ((L.drop at_).take 6)) ∧ H' = H) := by
 refine zaB (l := [_, _]) (rl := [.tmp 4]) (n := 29) Try.func69 rfl rfl rfl rfl rfl ?_
 simp only [envOf, Nat.reduceAdd]
 have hB6 : ∀ k, ByteL ((L.drop at_).take k) := fun k x hx => hB x (List.mem_of_mem_drop (List.mem_of_mem_take hx))
 have hlen : ∀ k, k ≤ 6 → ((L.drop at_).take k).length = k := fun k hk => by simp; omega
 refine zad (fun K1 hK1 => ?_)
 refine zaa ?_
 refine zao rfl ?_
 refine zae ?_
 try simp only [Ex.thnH, Ex.inBlockH, ↓reduceIte, Nat.reduceEqDiff]
 refine hK1 _ _ ?_; try clear hK1 K1
 refine zad (fun K2 hK2 => ?_)
 refine zaa ?_
 refine zao rfl ?_
 refine zae ?_
 try simp only [Ex.thnH, Ex.inBlockH, ↓reduceIte, Nat.reduceEqDiff]
 refine hK2 _ _ ?_; try clear hK2 K2
 refine zad (fun K3 hK3 => ?_)
 refine zad (fun K4 hK4 => ?_)
 refine zaa ?_
 refine zam rfl ?_
 refine zac (fun K hK r => ?_)
 rw [zbh _ _ rfl]
 simp only [eX, ↓reduceIte, Nat.reduceEqDiff, Int.reduceToNat]
 refine hK _ _ ?_; clear hK K
 refine zam rfl ?_
 refine zam rfl ?_
 refine zac (fun K hK r => ?_)
 simp (disch := (first | omega | decide)) only [zaF, zaH, b_add, zaw, zaE, zaD, zaQ, eX, ↓reduceIte, Nat.reduceEqDiff, Int.reduceToNat]
 refine hK _ _ ?_; clear hK K
 refine zac (fun K hK r => ?_)
 simp only [x_slice, Option.map_some, Option.map_none, eX, ↓reduceIte, Nat.reduceEqDiff, Int.reduceToNat]
 refine Lt_sliceA Try.underlying45 sz5 bound_none (bound_some ixA) (bound_some ixA) bxA bxA bxA (by simp) ?_
 try simp only [zap, Nat.mul_one, Nat.zero_add, Int.reduceToNat, Nat.reduceSub, Nat.reduceEqDiff, ↓reduceIte]
 try simp only [eX, ↓reduceIte, Nat.reduceEqDiff, Int.reduceToNat]
 refine hK _ _ ?_; clear hK K
 refine zac (fun K hK r => ?_)
 simp only [zaM, l_len, List.map_toArray, List.map_cons, List.map_nil, zaS _ _ Try.underlying22, eX, ↓reduceIte, Nat.reduceEqDiff, Int.reduceToNat]
 refine hK _ _ ?_; clear hK K
 refine zam rfl ?_
 refine zae ?_
 try simp only [Ex.thnH, Ex.inBlockH, ↓reduceIte, Nat.reduceEqDiff]
 refine hK4 _ _ ?_; try clear hK4 K4
 refine zaV ?_
 refine CW_loop (fun m e H_ => ∃ k : Nat, k ≤ 6 ∧ m = 6 - k ∧ Env.has [(13, .slice (some ⟨b, at_, none⟩) 6 (64 - at_)), (14, .int .i64 6), (5, .int .i64 (leI ((L.drop at_).take k))), (15, .int .i64 k)] e ∧ H_ = H) (6) ?_ ?_
 ·skip
  refine ⟨0, by omega, rfl, ⟨?_, ?_, rfl, rfl, trivial⟩, rfl⟩
  rotate_left
  ·show some (Value.int _ _) = _
   congr 2; omega
  show some (Value.slice (some (if _ then _ else _)) _ _) = _
  rw [if_neg (by omega)]
  congr 2
  all_goals simp
  all_goals omega
 intro m_ e_ H_ hI_
 obtain ⟨k, hk6, rfl, he, rfl⟩ := hI_
 refine CW_env he.sub ?_; clear he e_
 refine zad (fun K5 hK5 => ?_)
 refine zaa ?_
 refine zac (fun K hK r => ?_)
 simp (disch := (first | omega | decide)) only [zaF, zaH, b_lss, zaq, zar, zat, zau, zas, zav, Bool.not_true, Bool.not_false, eX, ↓reduceIte, Nat.reduceEqDiff, Int.reduceToNat]
 refine hK _ _ ?_; clear hK K
 refine zae ?_
 try simp only [Ex.thnH, Ex.inBlockH, ↓reduceIte, Nat.reduceEqDiff]
 refine hK5 _ _ ?_; try clear hK5 K5
 refine zad (fun K6 hK6 => ?_)
 refine zaG (fun r => rfl) (fun c16 => ?_) (fun c16 => ?_)
 ·first
  |(exfalso; exact cnA c16; done)
  |skip
   (try simp only [decide_eq_true_eq, decide_eq_false_iff_not, Bool.not_eq_true, Bool.not_eq_false, Bool.and_eq_true, Bool.or_eq_true, Bool.or_eq_false_iff, Bool.not_eq_eq_eq_not, Bool.not_true, Bool.not_false] at c16)
   refine zaO ?_
   try simp only [Ex.thnH, Ex.inBlockH, ↓reduceIte, Nat.reduceEqDiff]
   refine hK6 _ _ ?_; try clear hK6 K6
   refine zad (fun K7 hK7 => ?_)
   refine zaV ?_
   refine zad (fun K8 hK8 => ?_)
   refine zaa ?_
   refine zam rfl ?_
   refine zac (fun K hK r => ?_)
   simp only [zaK, eX, ↓reduceIte, Nat.reduceEqDiff, Int.reduceToNat]
   refine Lt_indexS Try.underlying22 sz5 ixA ixA ?_
   try simp only [zap, Nat.mul_one, Nat.zero_add, Int.reduceToNat]
   try simp only [eX, ↓reduceIte, Nat.reduceEqDiff, Int.reduceToNat]
   refine hK _ _ ?_; clear hK K
   refine zac (fun K hK r => ?_)
   simp only [zan, eX, ↓reduceIte, Nat.reduceEqDiff, Int.reduceToNat]
   refine zak Try.underlying5 rfl hbA (v := .int .u8 (L.getD (at_ + k) 0)) ?_ ?_
   ·simp only [List.getElem?_toArray, Nat.zero_add, Int.toNat_natCast]
    rw [u8s_get _ _ (by omega), List.getD_eq_getElem?_getD, List.getElem?_eq_getElem (by omega)]; rfl
   refine hK _ _ ?_; clear hK K
   refine zao rfl ?_
   refine zao rfl ?_
   refine zae ?_
   try simp only [Ex.thnH, Ex.inBlockH, ↓reduceIte, Nat.reduceEqDiff]
   refine hK8 _ _ ?_; try clear hK8 K8
   refine zaa ?_
   refine zam rfl ?_
   refine zam rfl ?_
   refine zac (fun K hK r => ?_)
   simp (disch := (first | omega | decide)) only [x_convert, c_int _ _ _ _ Try.underlying5 Try.underlying3, zaw, zaE, zaD, zaQ, eX, ↓reduceIte, Nat.reduceEqDiff, Int.reduceToNat]
   refine hK _ _ ?_; clear hK K
   refine zam rfl ?_
   refine zac (fun K hK r => ?_)
   simp (disch := (first | omega | decide)) only [zaF, zaH, b_mul, zaw, zaE, zaD, zaQ, eX, ↓reduceIte, Nat.reduceEqDiff, Int.reduceToNat]
   refine hK _ _ ?_; clear hK K
   refine zac (fun K hK r => ?_)
   simp (disch := (first | omega | decide)) only [zaF, zaH, b_shl, zaw, zaE, zaD, zaQ, eX, ↓reduceIte, Nat.reduceEqDiff, Int.reduceToNat]
   refine hK _ _ ?_; clear hK K
   refine zac (fun K hK r => ?_)
   simp only [zaF, zaH, b_or, eX, ↓reduceIte, Nat.reduceEqDiff, Int.reduceToNat]
   refine hK _ _ ?_; clear hK K
   refine zao rfl ?_
   refine zae ?_
   try simp only [Ex.thnH, Ex.inBlockH, ↓reduceIte, Nat.reduceEqDiff]
   refine hK7 _ _ ?_; try clear hK7 K7
   refine zaa ?_
   refine zac (fun K hK r => ?_)
   simp (disch := (first | omega | decide)) only [zaF, zaH, b_add, zaw, zaE, zaD, zaQ, eX, ↓reduceIte, Nat.reduceEqDiff, Int.reduceToNat]
   refine hK _ _ ?_; clear hK K
   refine zam rfl ?_
   refine zae ?_
   try simp only [Ex.thnH, Ex.inBlockH, ↓reduceIte, Nat.reduceEqDiff]
   refine ⟨6 - (k + 1), by omega, k + 1, by omega, rfl, ⟨rfl, rfl, ?_, (by first | rfl | simp [Env.get]), trivial⟩, rfA⟩
   have e := le_step (L.drop at_) k (by omega) (by simp; omega) (fun x hx => hB x (List.mem_of_mem_drop hx))
   have e2 : (L.drop at_).getD k 0 = L.getD (at_ + k) 0 := by simp [List.getD_eq_getElem?_getD]
   rw [e2] at e
   rw [← e]; rfl
 ·first
  |(exfalso; exact cnA c16; done)
  |skip
   (try simp only [decide_eq_true_eq, decide_eq_false_iff_not, Bool.not_eq_true, Bool.not_eq_false, Bool.and_eq_true, Bool.or_eq_true, Bool.or_eq_false_iff, Bool.not_eq_eq_eq_not, Bool.not_true, Bool.not_false] at c16)
   refine CW_exit ?_
   try simp only [Ex.thnH, Ex.inBlockH, ↓reduceIte, Nat.reduceEqDiff]
   refine hK3 _ _ ?_; try clear hK3 K3
   refine zad (fun K9 hK9 => ?_)
   refine zaa ?_
   refine zam rfl ?_
   refine zao rfl ?_
   refine zae ?_
   try simp only [Ex.thnH, Ex.inBlockH, ↓reduceIte, Nat.reduceEqDiff]
   refine hK9 _ _ ?_; try clear hK9 K9
   refine zaR ?_
   try simp only [Ex.thnH, Ex.inBlockH, ↓reduceIte, Nat.reduceEqDiff]
   obtain rfl : k = 6 := by omega
   exact ⟨[_], ⟨rfl, trivial⟩, _, Le.refl _, rfl, rfl⟩
set_option maxRecDepth 100000 in
set_option maxHeartbeats 1000000 in
theorem Clone_ok (H : Hp) (a : Addr) (n cap : Nat) (l : List Int) (hv : Holds H 1 (.slice (some a) n cap) n (u8s l)) (hn : n ≤ 1000000) :
  CallH Try.prog 60 #[.slice (some a) n cap] H (fun v' H' => Le H H' ∧ ∃ rs, OwnS H' 5 1 v' n (u8s l) rs ∧ ∀ r, rs = some r → H r = none) := by
 refine zaB (l := [_]) (rl := [.tmp 2]) (n := 8) Try.func60 rfl rfl rfl rfl rfl ?_
 simp only [envOf, Nat.reduceAdd]
 obtain rfl : n = l.length := by have := hv.1; simpa using this
 refine zad (fun K1 hK1 => ?_)
 refine zaa ?_
 refine zao rfl ?_
 refine zae ?_
 try simp only [Ex.thnH, Ex.inBlockH, ↓reduceIte, Nat.reduceEqDiff]
 refine hK1 _ _ ?_; try clear hK1 K1
 refine zad (fun K2 hK2 => ?_)
 refine zad (fun K3 hK3 => ?_)
 refine zaa ?_
 refine zam rfl ?_
 refine zac (fun K hK r => ?_)
 simp only [zaF, zaH, g_bool, zbo, zbk, g_slice, g_map, g_func, zbl, g_iface, zbe, g_nil_r, g_nil_l, eX, ↓reduceIte, Nat.reduceEqDiff, Int.reduceToNat]
 rw [e_eql _ _ _ _ (by simp)]
 rw [q_equal, q_slice_nil _ _ _ Try.underlying22]
 try simp only [eX, ↓reduceIte, Nat.reduceEqDiff, Int.reduceToNat]
 refine hK _ _ ?_; clear hK K
 refine zae ?_
 try simp only [Ex.thnH, Ex.inBlockH, ↓reduceIte, Nat.reduceEqDiff]
 refine hK3 _ _ ?_; try clear hK3 K3
 refine zaG (fun r => rfl) (fun c4 => ?_) (fun c4 => ?_)
 ·first
  |(exfalso; exact cnA c4; done)
  |skip
   (try simp only [decide_eq_true_eq, decide_eq_false_iff_not, Bool.not_eq_true, Bool.not_eq_false, Bool.and_eq_true, Bool.or_eq_true, Bool.or_eq_false_iff, Bool.not_eq_eq_eq_not, Bool.not_true, Bool.not_false] at c4)
   refine zad (fun K4 hK4 => ?_)
   refine zaa ?_
   refine zao rfl ?_
   refine zae ?_
   try simp only [Ex.thnH, Ex.inBlockH, ↓reduceIte, Nat.reduceEqDiff]
   refine hK4 _ _ ?_; try clear hK4 K4
   refine zaR ?_
   try simp only [Ex.thnH, Ex.inBlockH, ↓reduceIte, Nat.reduceEqDiff]
   refine ⟨[_], ⟨rfl, trivial⟩, _, Le.refl _, hg7.le (H0 := H) lhA (fun r hr => by cases hr; exact f5_H), rs7, (by show OwnS _ _ _ v7 _ _ _; simpa using ho7), fun r hr => ?_⟩
   rcases hr7 r hr with h | h
   ·cases h; exact f5_H
   ·exact zaj lhA h
 ·first
  |(exfalso; exact cnA c4; done)
  |skip
   (try simp only [decide_eq_true_eq, decide_eq_false_iff_not, Bool.not_eq_true, Bool.not_eq_false, Bool.and_eq_true, Bool.or_eq_true, Bool.or_eq_false_iff, Bool.not_eq_eq_eq_not, Bool.not_true, Bool.not_false] at c4)
   refine zaO ?_
   try simp only [Ex.thnH, Ex.inBlockH, ↓reduceIte, Nat.reduceEqDiff]
   refine hK2 _ _ ?_; try clear hK2 K2
   refine zad (fun K5 hK5 => ?_)
   refine zaa ?_
   refine zac (fun K hK r => ?_)
   simp only [zbn, List.map_toArray, List.map_cons, List.map_nil, eX, ↓reduceIte, Nat.reduceEqDiff, Int.reduceToNat]
   refine zbm (vs := []) Try.underlying22 sz5 zr5 rfl bsA (by first | decide | (simp; done)) ?_
   simp only [List.flatMap_cons, List.flatMap_nil, Value.cells, List.append_nil, List.cons_append, List.nil_append, List.length_cons, List.length_nil, Nat.zero_add, Nat.reduceAdd]
   intro b5 hb5
   have f5_H : H b5 = none := zaj lhA hb5
   try simp only [eX, ↓reduceIte, Nat.reduceEqDiff, Int.reduceToNat]
   refine hK _ _ ?_; clear hK K
   refine zam rfl ?_
   refine zac (fun K hK r => ?_)
   simp only [zaM, l_append, List.map_toArray, List.map_cons, List.map_nil, eX, ↓reduceIte, Nat.reduceEqDiff, Int.reduceToNat]
   refine Lt_append Try.underlying22 Try.underlying22 (by simp) sz5 by5 (by decide) zr5 rfl _ (n := 0) (cs := []) (rs := some b5) (ds := u8s l) ⟨rfl, .inr ⟨b5, 0, _, rfl, hbA, Nat.le_refl _, by simp, by simp, rfl⟩⟩ (len_slice _ _ _) (fun K => ?_) (by simp) (PlainL.ints _ _) (by omega) ?_
   ·refine (first_holds (hv.le lhA) (Nat.le_refl _) K).trans ?_
    rw [Nat.mul_one, List.take_of_length_le (by have := hv.1; omega)]
   intro v7 H7 rs7 hg7 ho7 hr7
   refine hK _ _ ?_; clear hK K
   refine zao rfl ?_
   refine zae ?_
   try simp only [Ex.thnH, Ex.inBlockH, ↓reduceIte, Nat.reduceEqDiff]
   refine hK5 _ _ ?_; try clear hK5 K5
   refine zaR ?_
   try simp only [Ex.thnH, Ex.inBlockH, ↓reduceIte, Nat.reduceEqDiff]
   refine ⟨[_], ⟨rfl, trivial⟩, _, Le.refl _, hg7.le (H0 := H) lhA (fun r hr => by cases hr; exact f5_H), rs7, (by show OwnS _ _ _ v7 _ _ _; simpa using ho7), fun r hr => ?_⟩
   rcases hr7 r hr with h | h
   ·cases h; exact f5_H
   ·exact zaj lhA h
set_option maxRecDepth 100000 in
set_option maxHeartbeats 1000000 in
theorem num_Kept (H : Hp) (r : Nat) (v : Value) (l : List Int) (hr : H r = some (.cells (u8s (l ++ [165, 90])).toArray 5)) (hv : Holds H 1 v l.length (u8s l)) (hn : l.length ≤ 1000000) (hB : ByteL l) :
  CallH Try.prog 16 #[.slice (some ⟨r, 0, none⟩) l.length (l.length + 2), v] H (fun v' H' => v' = .bool true ∧ H' = H) := by
 refine zaB (l := [_, _]) (rl := [.tmp 4]) (n := 39) Try.func16 rfl rfl rfl rfl rfl ?_
 simp only [envOf, Nat.reduceAdd]
 obtain ⟨a, cap, rfl⟩ := hv.form
 have hm : Holds H 1 (.slice (some ⟨r, 0, none⟩) l.length (l.length + 2)) l.length (u8s l) := ⟨by simp, .inr ⟨r, 0, _, _, _, _, rfl, hr, by simp, by simp⟩⟩
 refine zad (fun K1 hK1 => ?_)
 refine zaa ?_
 refine zao rfl ?_
 refine zae ?_
 try simp only [Ex.thnH, Ex.inBlockH, ↓reduceIte, Nat.reduceEqDiff]
 refine hK1 _ _ ?_; try clear hK1 K1
 refine zad (fun K2 hK2 => ?_)
 refine zad (fun K3 hK3 => ?_)
 refine zaa ?_
 refine zam rfl ?_
 refine zac (fun K hK r => ?_)
 simp only [x_convert, eX, ↓reduceIte, Nat.reduceEqDiff, Int.reduceToNat]
 refine Lt_convBS Try.underlying22 Try.underlying5 Try.underlying9 hdA ?_
 try simp only [eX, ↓reduceIte, Nat.reduceEqDiff, Int.reduceToNat]
 refine hK _ _ ?_; clear hK K
 refine zam rfl ?_
 refine zac (fun K hK r => ?_)
 simp only [x_convert, eX, ↓reduceIte, Nat.reduceEqDiff, Int.reduceToNat]
 refine Lt_convBS Try.underlying22 Try.underlying5 Try.underlying9 hdA ?_
 try simp only [eX, ↓reduceIte, Nat.reduceEqDiff, Int.reduceToNat]
 refine hK _ _ ?_; clear hK K
 refine zac (fun K hK r => ?_)
 simp only [zaF, zbo, b_sneq, eX, ↓reduceIte, Nat.reduceEqDiff, Int.reduceToNat]
 refine hK _ _ ?_; clear hK K
 refine zam rfl ?_
 (first | refine zbc (d := 11) rfl (fun g11 => ?_) (fun g11 => ?_) | skip)
 all_goals try (exfalso; exact cnA g11)
 all_goals (try simp only [decide_eq_true_eq, decide_eq_false_iff_not, Bool.not_eq_true, Bool.not_eq_false, Bool.and_eq_true, Bool.or_eq_true, Bool.or_eq_false_iff, Bool.not_eq_eq_eq_not, Bool.not_true, Bool.not_false] at g11)
 all_goals
  try simp only [eX, ↓reduceIte, Nat.reduceEqDiff, Int.reduceToNat]
  first
  |refine zaf rfl (zab (by decide)) rfl (fun K hK r => ?_)
   simp only [zaU, eX, ↓reduceIte, Nat.reduceEqDiff, Int.reduceToNat]
   refine hK _ _ ?_; clear hK K
  |refine zag rfl (zab (by decide)) rfl ?_
   simp only [eX, ↓reduceIte, Nat.reduceEqDiff, Int.reduceToNat]
  first
  |refine zaf rfl (zab (by decide)) rfl (fun K hK r => ?_)
   simp only [zaM, l_cap, List.map_toArray, List.map_cons, List.map_nil, i_cap_slice _ _ Try.underlying22, eX, ↓reduceIte, Nat.reduceEqDiff, Int.reduceToNat]
   refine hK _ _ ?_; clear hK K
  |refine zag rfl (zab (by decide)) rfl ?_
   simp only [eX, ↓reduceIte, Nat.reduceEqDiff, Int.reduceToNat]
  first
  |refine zaf rfl (zab (by decide)) rfl (fun K hK r => ?_)
   simp only [zaU, eX, ↓reduceIte, Nat.reduceEqDiff, Int.reduceToNat]
   refine hK _ _ ?_; clear hK K
  |refine zag rfl (zab (by decide)) rfl ?_
   simp only [eX, ↓reduceIte, Nat.reduceEqDiff, Int.reduceToNat]
  first
  |refine zaf rfl (zab (by decide)) rfl (fun K hK r => ?_)
   simp only [zaM, l_len, List.map_toArray, List.map_cons, List.map_nil, zaS _ _ Try.underlying22, eX, ↓reduceIte, Nat.reduceEqDiff, Int.reduceToNat]
   refine hK _ _ ?_; clear hK K
  |refine zag rfl (zab (by decide)) rfl ?_
   simp only [eX, ↓reduceIte, Nat.reduceEqDiff, Int.reduceToNat]
  first
  |refine zaf rfl (zab (by decide)) rfl (fun K hK r => ?_)
   simp (disch := (first | omega | decide)) only [zaF, zaH, b_add, zaw, zaE, zaD, zaQ, eX, ↓reduceIte, Nat.reduceEqDiff, Int.reduceToNat]
   refine hK _ _ ?_; clear hK K
  |refine zag rfl (zab (by decide)) rfl ?_
   simp only [eX, ↓reduceIte, Nat.reduceEqDiff, Int.reduceToNat]
  first
  |refine zaf rfl (zab (by decide)) rfl (fun K hK r => ?_)
   simp (disch := (first | omega | decide)) only [zaF, zaH, b_lss, zaq, zar, zat, zau, zas, zav, Bool.not_true, Bool.not_false, eX, ↓reduceIte, Nat.reduceEqDiff, Int.reduceToNat]
   refine hK _ _ ?_; clear hK K
  |refine zag rfl (zab (by decide)) rfl ?_
   simp only [eX, ↓reduceIte, Nat.reduceEqDiff, Int.reduceToNat]
  refine zac (fun K hK r => ?_)
  simp only [zbp, zaZ, HL.ite_bool, if_true, if_false, Bool.false_eq_true, eX, ↓reduceIte, Nat.reduceEqDiff, Int.reduceToNat]
  refine hK _ _ ?_; clear hK K
  refine zae ?_
  try simp only [Ex.thnH, Ex.inBlockH, ↓reduceIte, Nat.reduceEqDiff]
  refine hK3 _ _ ?_; try clear hK3 K3
  refine zaG (fun r => rfl) (fun c18 => ?_) (fun c18 => ?_)
  ·first
   |(exfalso; exact cnA c18; done)
   |skip
    (try simp only [decide_eq_true_eq, decide_eq_false_iff_not, Bool.not_eq_true, Bool.not_eq_false, Bool.and_eq_true, Bool.or_eq_true, Bool.or_eq_false_iff, Bool.not_eq_eq_eq_not, Bool.not_true, Bool.not_false] at c18)
    refine zad (fun K4 hK4 => ?_)
    refine zaa ?_
    refine zao rfl ?_
    refine zae ?_
    try simp only [Ex.thnH, Ex.inBlockH, ↓reduceIte, Nat.reduceEqDiff]
    refine hK4 _ _ ?_; try clear hK4 K4
    refine zaR ?_
    try simp only [Ex.thnH, Ex.inBlockH, ↓reduceIte, Nat.reduceEqDiff]
    exact ⟨[_], ⟨rfl, trivial⟩, _, Le.refl _, rfl, rfl⟩
  ·first
   |(exfalso; exact cnA c18; done)
   |skip
    (try simp only [decide_eq_true_eq, decide_eq_false_iff_not, Bool.not_eq_true, Bool.not_eq_false, Bool.and_eq_true, Bool.or_eq_true, Bool.or_eq_false_iff, Bool.not_eq_eq_eq_not, Bool.not_true, Bool.not_false] at c18)
    refine zaO ?_
    try simp only [Ex.thnH, Ex.inBlockH, ↓reduceIte, Nat.reduceEqDiff]
    refine hK2 _ _ ?_; try clear hK2 K2
    refine zad (fun K5 hK5 => ?_)
    refine zaa ?_
    refine zam rfl ?_
    refine zam rfl ?_
    refine zac (fun K hK r => ?_)
    simp only [zaM, l_len, List.map_toArray, List.map_cons, List.map_nil, zaS _ _ Try.underlying22, eX, ↓reduceIte, Nat.reduceEqDiff, Int.reduceToNat]
    refine hK _ _ ?_; clear hK K
    refine zac (fun K hK r => ?_)
    simp (disch := (first | omega | decide)) only [zaF, zaH, b_add, zaw, zaE, zaD, zaQ, eX, ↓reduceIte, Nat.reduceEqDiff, Int.reduceToNat]
    refine hK _ _ ?_; clear hK K
    refine zac (fun K hK r => ?_)
    simp only [x_slice, Option.map_some, Option.map_none, eX, ↓reduceIte, Nat.reduceEqDiff, Int.reduceToNat]
    refine Lt_sliceS Try.underlying22 sz5 bound_none (bound_some ixA) bound_none bxA bxA bxA (by simp) ?_
    try simp only [zap, Nat.mul_one, Nat.zero_add, Int.reduceToNat, Nat.reduceSub, Nat.reduceEqDiff, ↓reduceIte]
    try simp only [eX, ↓reduceIte, Nat.reduceEqDiff, Int.reduceToNat]
    refine hK _ _ ?_; clear hK K
    refine zao rfl ?_
    refine zae ?_
    try simp only [Ex.thnH, Ex.inBlockH, ↓reduceIte, Nat.reduceEqDiff]
    refine hK5 _ _ ?_; try clear hK5 K5
    refine zad (fun K6 hK6 => ?_)
    refine zaa ?_
    refine zam rfl ?_
    refine zam rfl ?_
    refine zac (fun K hK r => ?_)
    simp only [zaM, l_len, List.map_toArray, List.map_cons, List.map_nil, zaS _ _ Try.underlying22, eX, ↓reduceIte, Nat.reduceEqDiff, Int.reduceToNat]
    refine hK _ _ ?_; clear hK K
    refine zac (fun K hK r => ?_)
    simp only [zaK, eX, ↓reduceIte, Nat.reduceEqDiff, Int.reduceToNat]
    refine Lt_indexS Try.underlying22 sz5 ixA ixA ?_
    try simp only [zap, Nat.mul_one, Nat.zero_add, Int.reduceToNat]
    try simp only [eX, ↓reduceIte, Nat.reduceEqDiff, Int.reduceToNat]
    refine hK _ _ ?_; clear hK K
    refine zac (fun K hK r => ?_)
    simp only [zan, eX, ↓reduceIte, Nat.reduceEqDiff, Int.reduceToNat]
    refine zak Try.underlying5 rfl hbA (v := .int .u8 165) (by simp) ?_
    refine hK _ _ ?_; clear hK K
    refine zac (fun K hK r => ?_)
    simp (disch := (first | omega | decide)) only [zaF, zaH, b_eql, zaq, zar, zat, zau, zas, zav, Bool.not_true, Bool.not_false, eX, ↓reduceIte, Nat.reduceEqDiff, Int.reduceToNat]
    refine hK _ _ ?_; clear hK K
    refine zam rfl ?_
    (first | refine zbc (d := 30) rfl (fun g30 => ?_) (fun g30 => ?_) | skip)
    all_goals try (exfalso; exact cnA g30)
    all_goals (try simp only [decide_eq_true_eq, decide_eq_false_iff_not, Bool.not_eq_true, Bool.not_eq_false, Bool.and_eq_true, Bool.or_eq_true, Bool.or_eq_false_iff, Bool.not_eq_eq_eq_not, Bool.not_true, Bool.not_false] at g30)
    all_goals
     try simp only [eX, ↓reduceIte, Nat.reduceEqDiff, Int.reduceToNat]
     first
     |refine zaf rfl (zab (by decide)) rfl (fun K hK r => ?_)
      simp only [zaU, eX, ↓reduceIte, Nat.reduceEqDiff, Int.reduceToNat]
      refine hK _ _ ?_; clear hK K
     |refine zag rfl (zab (by decide)) rfl ?_
      simp only [eX, ↓reduceIte, Nat.reduceEqDiff, Int.reduceToNat]
     first
     |refine zaf rfl (zab (by decide)) rfl (fun K hK r => ?_)
      simp only [zaU, eX, ↓reduceIte, Nat.reduceEqDiff, Int.reduceToNat]
      refine hK _ _ ?_; clear hK K
     |refine zag rfl (zab (by decide)) rfl ?_
      simp only [eX, ↓reduceIte, Nat.reduceEqDiff, Int.reduceToNat]
     first
     |refine zaf rfl (zab (by decide)) rfl (fun K hK r => ?_)
      simp only [zaM, l_len, List.map_toArray, List.map_cons, List.map_nil, zaS _ _ Try.underlying22, eX, ↓reduceIte, Nat.reduceEqDiff, Int.reduceToNat]
      refine hK _ _ ?_; clear hK K
     |refine zag rfl (zab (by decide)) rfl ?_
      simp only [eX, ↓reduceIte, Nat.reduceEqDiff, Int.reduceToNat]
     first
     |refine zaf rfl (zab (by decide)) rfl (fun K hK r => ?_)
      simp (disch := (first | omega | decide)) only [zaF, zaH, b_add, zaw, zaE, zaD, zaQ, eX, ↓reduceIte, Nat.reduceEqDiff, Int.reduceToNat]
      refine hK _ _ ?_; clear hK K
     |refine zag rfl (zab (by decide)) rfl ?_
      simp only [eX, ↓reduceIte, Nat.reduceEqDiff, Int.reduceToNat]
     first
     |refine zaf rfl (zab (by decide)) rfl (fun K hK r => ?_)
      simp only [zaK, eX, ↓reduceIte, Nat.reduceEqDiff, Int.reduceToNat]
      refine Lt_indexS Try.underlying22 sz5 ixA ixA ?_
      try simp only [zap, Nat.mul_one, Nat.zero_add, Int.reduceToNat]
      try simp only [eX, ↓reduceIte, Nat.reduceEqDiff, Int.reduceToNat]
      refine hK _ _ ?_; clear hK K
     |refine zag rfl (zab (by decide)) rfl ?_
      simp only [eX, ↓reduceIte, Nat.reduceEqDiff, Int.reduceToNat]
     first
     |refine zaf rfl (zab (by decide)) rfl (fun K hK r => ?_)
      simp only [zan, eX, ↓reduceIte, Nat.reduceEqDiff, Int.reduceToNat]
      refine zak Try.underlying5 rfl hbA (v := .int .u8 90) ?_ ?_
      ·have e : ((l.length : Int) + 1).toNat = l.length + 1 := by omega
       simp [e]
      refine hK _ _ ?_; clear hK K
     |refine zag rfl (zab (by decide)) rfl ?_
      simp only [eX, ↓reduceIte, Nat.reduceEqDiff, Int.reduceToNat]
     first
     |refine zaf rfl (zab (by decide)) rfl (fun K hK r => ?_)
      simp (disch := (first | omega | decide)) only [zaF, zaH, b_eql, zaq, zar, zat, zau, zas, zav, Bool.not_true, Bool.not_false, eX, ↓reduceIte, Nat.reduceEqDiff, Int.reduceToNat]
      refine hK _ _ ?_; clear hK K
     |refine zag rfl (zab (by decide)) rfl ?_
      simp only [eX, ↓reduceIte, Nat.reduceEqDiff, Int.reduceToNat]
     refine zac (fun K hK r => ?_)
     simp only [zbp, zaZ, HL.ite_bool, if_true, if_false, Bool.false_eq_true, eX, ↓reduceIte, Nat.reduceEqDiff, Int.reduceToNat]
     refine hK _ _ ?_; clear hK K
     refine zao rfl ?_
     refine zae ?_
     try simp only [Ex.thnH, Ex.inBlockH, ↓reduceIte, Nat.reduceEqDiff]
     refine hK6 _ _ ?_; try clear hK6 K6
     refine zaR ?_
     try simp only [Ex.thnH, Ex.inBlockH, ↓reduceIte, Nat.reduceEqDiff]
     exact ⟨[_], ⟨rfl, trivial⟩, _, Le.refl _, rfl, rfl⟩
theorem seal_cells (st kd : Int) (l : List Int) (h5 : l.length ≤ 50) :
    putCells (putCells (((putCells (Array.replicate 64 (.int .u8 0)) 0 (stampL st)).setIfInBounds 6 (.int .u8 kd)).setIfInBounds 7 (.int .u8 l.length)) 8 (u8s l)) 58 (stampL st) = (u8s (sealL st kd l)).toArray := by
  have e0 : (Array.replicate 64 (Value.int .u8 0)).toList = [] ++ List.replicate 64 (Value.int .u8 0) := by simp
  have e1 := putCells_grow e0 (o := 0) rfl (stampL st) (by simp [stampL, u8s, stampI])
  have e2 := putCells_grow e1 (o := 6) (by simp [stampL, u8s, stampI]) [.int .u8 kd] (by simp [stampL, u8s, stampI])
  have e3 := putCells_grow e2 (o := 7) (by simp [stampL, u8s, stampI]) [.int .u8 l.length] (by simp [stampL, u8s, stampI])
  have e4 := putCells_grow e3 (o := 8) (by simp [stampL, u8s, stampI]) (u8s l) (by simp [stampL, u8s, stampI]; omega)
  have e5 : 64 - (stampL st).length - [Value.int .u8 kd].length - [Value.int .u8 l.length].length - (u8s l).length = (50 - l.length) + 6 := by simp [stampL, u8s, stampI]; omega
  rw [e5, ← List.replicate_append_replicate, ← List.append_assoc] at e4
  have e6 := putCells_grow e4 (o := 58) (by simp [stampL, u8s, stampI]; omega) (stampL st) (by simp [stampL, u8s, stampI])
  apply Array.ext'
  simp only [putCells] at e6 ⊢
  rw [e6]
  simp [sealL, stampL, u8s, stampI]
theorem zero_cells : (u8s zeroS).toArray = Array.replicate 64 (.int .u8 0) := by rfl
set_option maxRecDepth 100000 in
set_option maxHeartbeats 1000000 in
theorem Seal_ok (H : Hp) (st kd : Int) (data : Value) (l : List Int) (hd : Holds H 1 data l.length (u8s l)) :
  CallH Try.prog 36 #[.agg #[.int .i64 st, .int .i64 kd, data]] H (fun v H' => v = .tuple #[.agg (u8s (sealI st kd l)).toArray, errV (badI st kd l)] ∧ H' = H) := by
 refine zaB (l := [_]) (rl := [.cell 2 45, .tmp 3]) (n := 52) Try.func36 rfl rfl rfl rfl rfl ?_
 simp only [envOf, Nat.reduceAdd]
 obtain ⟨a, cap, rfl⟩ := hd.form
 refine zad (fun K1 hK1 => ?_)
 refine zaa ?_
 refine zac (fun K hK r => ?_)
 simp only [x_box, Value.cells, eX, ↓reduceIte, Nat.reduceEqDiff, Int.reduceToNat]
 intro b1 hb1
 have f1_H : H b1 = none := zaj lhA hb1
 try simp only [eX, ↓reduceIte, Nat.reduceEqDiff, Int.reduceToNat]
 refine hK _ _ ?_; clear hK K
 refine zac (fun K hK r => ?_)
 simp only [x_alloc, zr45, zal, Value.cells, eX, ↓reduceIte, Nat.reduceEqDiff, Int.reduceToNat]
 intro b2 hb2
 try have n2_b1 : b1 ≠ b2 := zai hbA hb2
 have f2_H : H b2 = none := zaj lhA hb2
 try simp only [eX, ↓reduceIte, Nat.reduceEqDiff, Int.reduceToNat]
 refine hK _ _ ?_; clear hK K
 refine zao rfl ?_
 refine zae ?_
 try simp only [Ex.thnH, Ex.inBlockH, ↓reduceIte, Nat.reduceEqDiff]
 refine hK1 _ _ ?_; try clear hK1 K1
 refine zad (fun K2 hK2 => ?_)
 refine zaV ?_
 refine zad (fun K3 hK3 => ?_)
 refine zaa ?_
 refine zac (fun K hK r => ?_)
 simp only [zah, fa99_0, zap, Nat.reduceAdd, Nat.zero_add, eX, ↓reduceIte, Nat.reduceEqDiff, Int.reduceToNat]
 refine hK _ _ ?_; clear hK K
 refine zac (fun K hK r => ?_)
 simp only [zan, eX, ↓reduceIte, Nat.reduceEqDiff, Int.reduceToNat]
 refine zak Try.underlying3 rfl hbA ldA ?_
 try simp only [eX, ↓reduceIte, Nat.reduceEqDiff, Int.reduceToNat]
 refine hK _ _ ?_; clear hK K
 refine zac (fun K hK r => ?_)
 simp (disch := (first | omega | decide)) only [zaF, zaH, b_lss, zaq, zar, zat, zau, zas, zav, Bool.not_true, Bool.not_false, eX, ↓reduceIte, Nat.reduceEqDiff, Int.reduceToNat]
 refine hK _ _ ?_; clear hK K
 refine zam rfl ?_
 (first | refine zbc (d := 8) rfl (fun g8 => ?_) (fun g8 => ?_) | skip)
 all_goals try (exfalso; exact cnA g8)
 all_goals (try simp only [decide_eq_true_eq, decide_eq_false_iff_not, Bool.not_eq_true, Bool.not_eq_false, Bool.and_eq_true, Bool.or_eq_true, Bool.or_eq_false_iff, Bool.not_eq_eq_eq_not, Bool.not_true, Bool.not_false] at g8)
 all_goals
  try simp only [eX, ↓reduceIte, Nat.reduceEqDiff, Int.reduceToNat]
  first
  |refine zaf rfl (zab (by decide)) rfl (fun K hK r => ?_)
   simp only [zah, fa99_0, zap, Nat.reduceAdd, Nat.zero_add, eX, ↓reduceIte, Nat.reduceEqDiff, Int.reduceToNat]
   refine hK _ _ ?_; clear hK K
  |refine zag rfl (zab (by decide)) rfl ?_
   simp only [eX, ↓reduceIte, Nat.reduceEqDiff, Int.reduceToNat]
  first
  |refine zaf rfl (zab (by decide)) rfl (fun K hK r => ?_)
   simp only [zan, eX, ↓reduceIte, Nat.reduceEqDiff, Int.reduceToNat]
   refine zak Try.underlying3 rfl hbA ldA ?_
   try simp only [eX, ↓reduceIte, Nat.reduceEqDiff, Int.reduceToNat]
   refine hK _ _ ?_; clear hK K
  |refine zag rfl (zab (by decide)) rfl ?_
   simp only [eX, ↓reduceIte, Nat.reduceEqDiff, Int.reduceToNat]
  first
  |refine zaf rfl (zab (by decide)) rfl (fun K hK r => ?_)
   simp (disch := (first | omega | decide)) only [zaF, zaH, b_gtr, zaq, zar, zat, zau, zas, zav, Bool.not_true, Bool.not_false, eX, ↓reduceIte, Nat.reduceEqDiff, Int.reduceToNat]
   refine hK _ _ ?_; clear hK K
  |refine zag rfl (zab (by decide)) rfl ?_
   simp only [eX, ↓reduceIte, Nat.reduceEqDiff, Int.reduceToNat]
  refine zac (fun K hK r => ?_)
  simp only [zbp, zaZ, HL.ite_bool, if_true, if_false, Bool.false_eq_true, eX, ↓reduceIte, Nat.reduceEqDiff, Int.reduceToNat]
  refine hK _ _ ?_; clear hK K
  refine zam rfl ?_
  (first | refine zbc (d := 13) rfl (fun g13 => ?_) (fun g13 => ?_) | skip)
  all_goals try (exfalso; exact cnA g13)
  all_goals (try simp only [decide_eq_true_eq, decide_eq_false_iff_not, Bool.not_eq_true, Bool.not_eq_false, Bool.and_eq_true, Bool.or_eq_true, Bool.or_eq_false_iff, Bool.not_eq_eq_eq_not, Bool.not_true, Bool.not_false] at g13)
  all_goals
   try simp only [eX, ↓reduceIte, Nat.reduceEqDiff, Int.reduceToNat]
   first
   |refine zaf rfl (zab (by decide)) rfl (fun K hK r => ?_)
    simp only [zah, fa99_1, zap, Nat.reduceAdd, Nat.zero_add, eX, ↓reduceIte, Nat.reduceEqDiff, Int.reduceToNat]
    refine hK _ _ ?_; clear hK K
   |refine zag rfl (zab (by decide)) rfl ?_
    simp only [eX, ↓reduceIte, Nat.reduceEqDiff, Int.reduceToNat]
   first
   |refine zaf rfl (zab (by decide)) rfl (fun K hK r => ?_)
    simp only [zan, eX, ↓reduceIte, Nat.reduceEqDiff, Int.reduceToNat]
    refine zak Try.underlying3 rfl hbA ldA ?_
    try simp only [eX, ↓reduceIte, Nat.reduceEqDiff, Int.reduceToNat]
    refine hK _ _ ?_; clear hK K
   |refine zag rfl (zab (by decide)) rfl ?_
    simp only [eX, ↓reduceIte, Nat.reduceEqDiff, Int.reduceToNat]
   first
   |refine zaf rfl (zab (by decide)) rfl (fun K hK r => ?_)
    simp (disch := (first | omega | decide)) only [zaF, zaH, b_lss, zaq, zar, zat, zau, zas, zav, Bool.not_true, Bool.not_false, eX, ↓reduceIte, Nat.reduceEqDiff, Int.reduceToNat]
    refine hK _ _ ?_; clear hK K
   |refine zag rfl (zab (by decide)) rfl ?_
    simp only [eX, ↓reduceIte, Nat.reduceEqDiff, Int.reduceToNat]
   refine zac (fun K hK r => ?_)
   simp only [zbp, zaZ, HL.ite_bool, if_true, if_false, Bool.false_eq_true, eX, ↓reduceIte, Nat.reduceEqDiff, Int.reduceToNat]
   refine hK _ _ ?_; clear hK K
   refine zam rfl ?_
   (first | refine zbc (d := 18) rfl (fun g18 => ?_) (fun g18 => ?_) | skip)
   all_goals try (exfalso; exact cnA g18)
   all_goals (try simp only [decide_eq_true_eq, decide_eq_false_iff_not, Bool.not_eq_true, Bool.not_eq_false, Bool.and_eq_true, Bool.or_eq_true, Bool.or_eq_false_iff, Bool.not_eq_eq_eq_not, Bool.not_true, Bool.not_false] at g18)
   all_goals
    try simp only [eX, ↓reduceIte, Nat.reduceEqDiff, Int.reduceToNat]
    first
    |refine zaf rfl (zab (by decide)) rfl (fun K hK r => ?_)
     simp only [zah, fa99_1, zap, Nat.reduceAdd, Nat.zero_add, eX, ↓reduceIte, Nat.reduceEqDiff, Int.reduceToNat]
     refine hK _ _ ?_; clear hK K
    |refine zag rfl (zab (by decide)) rfl ?_
     simp only [eX, ↓reduceIte, Nat.reduceEqDiff, Int.reduceToNat]
    first
    |refine zaf rfl (zab (by decide)) rfl (fun K hK r => ?_)
     simp only [zan, eX, ↓reduceIte, Nat.reduceEqDiff, Int.reduceToNat]
     refine zak Try.underlying3 rfl hbA ldA ?_
     try simp only [eX, ↓reduceIte, Nat.reduceEqDiff, Int.reduceToNat]
     refine hK _ _ ?_; clear hK K
    |refine zag rfl (zab (by decide)) rfl ?_
     simp only [eX, ↓reduceIte, Nat.reduceEqDiff, Int.reduceToNat]
    first
    |refine zaf rfl (zab (by decide)) rfl (fun K hK r => ?_)
     simp (disch := (first | omega | decide)) only [zaF, zaH, b_gtr, zaq, zar, zat, zau, zas, zav, Bool.not_true, Bool.not_false, eX, ↓reduceIte, Nat.reduceEqDiff, Int.reduceToNat]
     refine hK _ _ ?_; clear hK K
    |refine zag rfl (zab (by decide)) rfl ?_
     simp only [eX, ↓reduceIte, Nat.reduceEqDiff, Int.reduceToNat]
    refine zac (fun K hK r => ?_)
    simp only [zbp, zaZ, HL.ite_bool, if_true, if_false, Bool.false_eq_true, eX, ↓reduceIte, Nat.reduceEqDiff, Int.reduceToNat]
    refine hK _ _ ?_; clear hK K
    refine zao rfl ?_
    refine zae ?_
    try simp only [Ex.thnH, Ex.inBlockH, ↓reduceIte, Nat.reduceEqDiff]
    refine hK3 _ _ ?_; try clear hK3 K3
    refine zaG (fun r => rfl) (fun c4 => ?_) (fun c4 => ?_)
    ·first
     |(exfalso; exact cnA c4; done)
     |skip
      (try simp only [decide_eq_true_eq, decide_eq_false_iff_not, Bool.not_eq_true, Bool.not_eq_false, Bool.and_eq_true, Bool.or_eq_true, Bool.or_eq_false_iff, Bool.not_eq_eq_eq_not, Bool.not_true, Bool.not_false] at c4)
      refine zad (fun K4 hK4 => ?_)
      refine zaa ?_
      refine zac (fun K hK r => ?_)
      simp only [zan, eX, ↓reduceIte, Nat.reduceEqDiff, Int.reduceToNat]
      first | refine zaN Try.underlying45 rfl sz45 hbA bdA ?_ | refine zaC Try.underlying45 rfl sz45 hbA bdA ?_
      try simp only [eX, ↓reduceIte, Nat.reduceEqDiff, Int.reduceToNat]
      refine hK _ _ ?_; clear hK K
      refine zac (fun K hK r => ?_)
      simp only [zbf, zbg, Try.underlying73, zal, eX, ↓reduceIte, Nat.reduceEqDiff, Int.reduceToNat]
      refine hK _ _ ?_; clear hK K
      refine zbq rfl (zaJ) (fun K hK r => ?_)
      simp only [zaL, eX, ↓reduceIte, Nat.reduceEqDiff, Int.reduceToNat]
      first | refine zaz sz45 bdA hbA bdA plA (by decide) ?_ | refine zaI sz45 bdA hbA bdA plA (by decide) ?_
      try simp only [eX, ↓reduceIte, Nat.reduceEqDiff, Int.reduceToNat]
      refine hK _ _ ?_; clear hK K
      refine zao rfl ?_
      refine zae ?_
      try simp only [Ex.thnH, Ex.inBlockH, ↓reduceIte, Nat.reduceEqDiff]
      refine hK4 _ _ ?_; try clear hK4 K4
      refine zaR ?_
      try simp only [Ex.thnH, Ex.inBlockH, ↓reduceIte, Nat.reduceEqDiff]
      first
      |(have hb : badI st kd l = none := by simp only [badI]; rw [if_neg (by omega), if_neg (by omega)]
        refine ⟨[_, _], ⟨⟨_, rfl, zbd Try.underlying45 rfl sz45 hbA bdA⟩, rfl, trivial⟩, H, lhA, ?_, rfl⟩
        show Value.tuple #[_, _] = _
        rw [seal_cells st kd l (by omega), sealI, hb]; rfl)
      |(have hb : badI st kd l = some 2 := by simp only [badI]; rw [if_neg (by omega), if_pos (by omega)]
        refine ⟨[_, _], ⟨⟨_, rfl, zbd Try.underlying45 rfl sz45 hbA bdA⟩, rfl, trivial⟩, H, lhA, ?_, rfl⟩
        show Value.tuple #[_, _] = _
        rw [sealI, hb]; simp only [zero_cells]; rfl)
      |(have hb : badI st kd l = some 1 := by simp only [badI]; rw [if_pos (by omega)]
        refine ⟨[_, _], ⟨⟨_, rfl, zbd Try.underlying45 rfl sz45 hbA bdA⟩, rfl, trivial⟩, H, lhA, ?_, rfl⟩
        show Value.tuple #[_, _] = _
        rw [sealI, hb]; simp only [zero_cells]; rfl)
      |skip
    ·first
     |(exfalso; exact cnA c4; done)
     |skip
      (try simp only [decide_eq_true_eq, decide_eq_false_iff_not, Bool.not_eq_true, Bool.not_eq_false, Bool.and_eq_true, Bool.or_eq_true, Bool.or_eq_false_iff, Bool.not_eq_eq_eq_not, Bool.not_true, Bool.not_false] at c4)
      refine zad (fun K5 hK5 => ?_)
      refine zaa ?_
      refine zac (fun K hK r => ?_)
      simp only [zah, fa99_2, zap, Nat.reduceAdd, Nat.zero_add, eX, ↓reduceIte, Nat.reduceEqDiff, Int.reduceToNat]
      refine hK _ _ ?_; clear hK K
      refine zac (fun K hK r => ?_)
      simp only [zan, eX, ↓reduceIte, Nat.reduceEqDiff, Int.reduceToNat]
      refine zak Try.underlying22 rfl hbA ldA ?_
      try simp only [eX, ↓reduceIte, Nat.reduceEqDiff, Int.reduceToNat]
      refine hK _ _ ?_; clear hK K
      refine zac (fun K hK r => ?_)
      simp only [zaM, l_len, List.map_toArray, List.map_cons, List.map_nil, zaS _ _ Try.underlying22, eX, ↓reduceIte, Nat.reduceEqDiff, Int.reduceToNat]
      refine hK _ _ ?_; clear hK K
      refine zac (fun K hK r => ?_)
      simp (disch := (first | omega | decide)) only [zaF, zaH, b_gtr, zaq, zar, zat, zau, zas, zav, Bool.not_true, Bool.not_false, eX, ↓reduceIte, Nat.reduceEqDiff, Int.reduceToNat]
      refine hK _ _ ?_; clear hK K
      refine zao rfl ?_
      refine zae ?_
      try simp only [Ex.thnH, Ex.inBlockH, ↓reduceIte, Nat.reduceEqDiff]
      refine hK5 _ _ ?_; try clear hK5 K5
      refine zaG (fun r => rfl) (fun c25 => ?_) (fun c25 => ?_)
      ·first
       |(exfalso; exact cnA c25; done)
       |skip
        (try simp only [decide_eq_true_eq, decide_eq_false_iff_not, Bool.not_eq_true, Bool.not_eq_false, Bool.and_eq_true, Bool.or_eq_true, Bool.or_eq_false_iff, Bool.not_eq_eq_eq_not, Bool.not_true, Bool.not_false] at c25)
        refine zad (fun K6 hK6 => ?_)
        refine zaa ?_
        refine zac (fun K hK r => ?_)
        simp only [zan, eX, ↓reduceIte, Nat.reduceEqDiff, Int.reduceToNat]
        first | refine zaN Try.underlying45 rfl sz45 hbA bdA ?_ | refine zaC Try.underlying45 rfl sz45 hbA bdA ?_
        try simp only [eX, ↓reduceIte, Nat.reduceEqDiff, Int.reduceToNat]
        refine hK _ _ ?_; clear hK K
        refine zac (fun K hK r => ?_)
        simp only [zbf, zbg, Try.underlying73, zal, eX, ↓reduceIte, Nat.reduceEqDiff, Int.reduceToNat]
        refine hK _ _ ?_; clear hK K
        refine zbq rfl (zaJ) (fun K hK r => ?_)
        simp only [zaL, eX, ↓reduceIte, Nat.reduceEqDiff, Int.reduceToNat]
        first | refine zaz sz45 bdA hbA bdA plA (by decide) ?_ | refine zaI sz45 bdA hbA bdA plA (by decide) ?_
        try simp only [eX, ↓reduceIte, Nat.reduceEqDiff, Int.reduceToNat]
        refine hK _ _ ?_; clear hK K
        refine zao rfl ?_
        refine zae ?_
        try simp only [Ex.thnH, Ex.inBlockH, ↓reduceIte, Nat.reduceEqDiff]
        refine hK6 _ _ ?_; try clear hK6 K6
        refine zaR ?_
        try simp only [Ex.thnH, Ex.inBlockH, ↓reduceIte, Nat.reduceEqDiff]
        first
        |(have hb : badI st kd l = none := by simp only [badI]; rw [if_neg (by omega), if_neg (by omega)]
          refine ⟨[_, _], ⟨⟨_, rfl, zbd Try.underlying45 rfl sz45 hbA bdA⟩, rfl, trivial⟩, H, lhA, ?_, rfl⟩
          show Value.tuple #[_, _] = _
          rw [seal_cells st kd l (by omega), sealI, hb]; rfl)
        |(have hb : badI st kd l = some 2 := by simp only [badI]; rw [if_neg (by omega), if_pos (by omega)]
          refine ⟨[_, _], ⟨⟨_, rfl, zbd Try.underlying45 rfl sz45 hbA bdA⟩, rfl, trivial⟩, H, lhA, ?_, rfl⟩
          show Value.tuple #[_, _] = _
          rw [sealI, hb]; simp only [zero_cells]; rfl)
        |(have hb : badI st kd l = some 1 := by simp only [badI]; rw [if_pos (by omega)]
          refine ⟨[_, _], ⟨⟨_, rfl, zbd Try.underlying45 rfl sz45 hbA bdA⟩, rfl, trivial⟩, H, lhA, ?_, rfl⟩
          show Value.tuple #[_, _] = _
          rw [sealI, hb]; simp only [zero_cells]; rfl)
        |skip
      ·first
       |(exfalso; exact cnA c25; done)
       |skip
        (try simp only [decide_eq_true_eq, decide_eq_false_iff_not, Bool.not_eq_true, Bool.not_eq_false, Bool.and_eq_true, Bool.or_eq_true, Bool.or_eq_false_iff, Bool.not_eq_eq_eq_not, Bool.not_true, Bool.not_false] at c25)
        refine zaO ?_
        try simp only [Ex.thnH, Ex.inBlockH, ↓reduceIte, Nat.reduceEqDiff]
        refine hK2 _ _ ?_; try clear hK2 K2
        refine zad (fun K7 hK7 => ?_)
        refine zaa ?_
        refine zac (fun K hK r => ?_)
        simp only [zah, fa99_0, zap, Nat.reduceAdd, Nat.zero_add, eX, ↓reduceIte, Nat.reduceEqDiff, Int.reduceToNat]
        refine hK _ _ ?_; clear hK K
        refine zac (fun K hK r => ?_)
        simp only [zan, eX, ↓reduceIte, Nat.reduceEqDiff, Int.reduceToNat]
        refine zak Try.underlying3 rfl hbA ldA ?_
        try simp only [eX, ↓reduceIte, Nat.reduceEqDiff, Int.reduceToNat]
        refine hK _ _ ?_; clear hK K
        refine zac (fun K hK r => ?_)
        simp only [zaT _ bd61, List.map_toArray, List.map_cons, List.map_nil, eX, ↓reduceIte, Nat.reduceEqDiff, Int.reduceToNat]
        refine (stamp_ok _ _ _ _ _ _ hbA (by simp) (by omega) (by omega)).mono ?_
        rintro v H' ⟨rfl, rfl⟩
        try simp only [eX, ↓reduceIte, Nat.reduceEqDiff, Int.reduceToNat]
        refine hK _ _ ?_; clear hK K
        refine zae ?_
        try simp only [Ex.thnH, Ex.inBlockH, ↓reduceIte, Nat.reduceEqDiff]
        refine hK7 _ _ ?_; try clear hK7 K7
        refine zad (fun K8 hK8 => ?_)
        obtain ⟨R6, hR6⟩ : ∃ R : Hp, R = H.upd b1 (.cells #[.int .i64 st, .int .i64 kd, .slice a l.length cap] 99) := ⟨_, rfl⟩
        refine CW_drawR [0, 1, 0, 0, 1, 0, 0, 0, 2, 0, 3] [0, 1, 2, 3, 4, 5, 6, 7, 8, 9, 10] R6 (by kernel_rfl) (by kernel_rfl) (by subst hR6; exact leA) (fun lR6 => ?_)
        apply zay rfl (zab (by decide)) rfl
        ·intro r
         simp only [zah, fa99_1, zap, Nat.reduceAdd, Nat.zero_add, eX, ↓reduceIte, Nat.reduceEqDiff]
         exact ⟨rfl, Le.refl _⟩
        simp only [eX, ↓reduceIte, Nat.reduceEqDiff, Int.reduceToNat]
        apply TW_look rfl (zab (by decide)) rfl
        ·intro r
         simp only [zan, eX, ↓reduceIte, Nat.reduceEqDiff]
         refine zak Try.underlying3 rfl hbA ldA ?_
         exact ⟨rfl, Le.refl _⟩
        simp only [eX, ↓reduceIte, Nat.reduceEqDiff, Int.reduceToNat]
        apply zay rfl (zab (by decide)) rfl
        ·intro r
         simp (disch := (first | omega | decide)) only [x_convert, c_int _ _ _ _ Try.underlying3 Try.underlying5, zaw, zaE, zaD, zaQ, eX, ↓reduceIte, Nat.reduceEqDiff]
         exact ⟨rfl, Le.refl _⟩
        simp only [eX, ↓reduceIte, Nat.reduceEqDiff, Int.reduceToNat]
        apply zay rfl (zab (by decide)) rfl
        ·intro r
         simp only [zah, fa99_2, zap, Nat.reduceAdd, Nat.zero_add, eX, ↓reduceIte, Nat.reduceEqDiff]
         exact ⟨rfl, Le.refl _⟩
        simp only [eX, ↓reduceIte, Nat.reduceEqDiff, Int.reduceToNat]
        apply TW_look rfl (zab (by decide)) rfl
        ·intro r
         simp only [zan, eX, ↓reduceIte, Nat.reduceEqDiff]
         refine zak Try.underlying22 rfl hbA ldA ?_
         exact ⟨rfl, Le.refl _⟩
        simp only [eX, ↓reduceIte, Nat.reduceEqDiff, Int.reduceToNat]
        apply zay rfl (zab (by decide)) rfl
        ·intro r
         simp only [zaM, l_len, List.map_toArray, List.map_cons, List.map_nil, zaS _ _ Try.underlying22, eX, ↓reduceIte, Nat.reduceEqDiff]
         exact ⟨rfl, Le.refl _⟩
        simp only [eX, ↓reduceIte, Nat.reduceEqDiff, Int.reduceToNat]
        apply zay rfl (zab (by decide)) rfl
        ·intro r
         simp (disch := (first | omega | decide)) only [x_convert, c_int _ _ _ _ Try.underlying3 Try.underlying5, zaw, zaE, zaD, zaQ, eX, ↓reduceIte, Nat.reduceEqDiff]
         exact ⟨rfl, Le.refl _⟩
        simp only [eX, ↓reduceIte, Nat.reduceEqDiff, Int.reduceToNat]
        apply zay rfl (zab (by decide)) rfl
        ·intro r
         simp only [zaK, eX, ↓reduceIte, Nat.reduceEqDiff]
         refine Lt_indexA Try.underlying45 sz5 ixA ixA ?_
         try simp only [zap, Nat.mul_one, Nat.zero_add, Int.reduceToNat]
         exact ⟨rfl, Le.refl _⟩
        simp only [eX, ↓reduceIte, Nat.reduceEqDiff, Int.reduceToNat]
        refine TW_chain rfl (zaJ) rfl (fun K hK r => ?_)
        simp only [zaL, eX, ↓reduceIte, Nat.reduceEqDiff, Int.reduceToNat]
        refine zaY sz5 hbA bdA plA fzA ?_
        try simp only [setL0, setL1, setL2, setL3, setL4, setL5, setL6, setL7, setL8, setL9]
        try simp only [eX, ↓reduceIte, Nat.reduceEqDiff, Int.reduceToNat]
        refine hK _ _ leA ?_; clear hK K
        apply zay rfl (zab (by decide)) rfl
        ·intro r
         simp only [zaK, eX, ↓reduceIte, Nat.reduceEqDiff]
         refine Lt_indexA Try.underlying45 sz5 ixA ixA ?_
         try simp only [zap, Nat.mul_one, Nat.zero_add, Int.reduceToNat]
         exact ⟨rfl, Le.refl _⟩
        simp only [eX, ↓reduceIte, Nat.reduceEqDiff, Int.reduceToNat]
        refine TW_last rfl (zaJ) rfl (fun K hK r => ?_)
        simp only [zaL, eX, ↓reduceIte, Nat.reduceEqDiff, Int.reduceToNat]
        refine zaY sz5 hbA bdA plA fzA ?_
        try simp only [setL0, setL1, setL2, setL3, setL4, setL5, setL6, setL7, setL8, setL9]
        try simp only [eX, ↓reduceIte, Nat.reduceEqDiff, Int.reduceToNat]
        refine hK _ _ ?_; clear hK K
        refine TW_nil ?_
        try simp only [Ex.thnH, Ex.inBlockH, ↓reduceIte, Nat.reduceEqDiff]
        refine hK8 _ _ ?_; try clear hK8 K8
        refine zad (fun K9 hK9 => ?_)
        obtain ⟨R7, hR7⟩ : ∃ R : Hp, R = H.upd b1 (.cells #[.int .i64 st, .int .i64 kd, .slice a l.length cap] 99) := ⟨_, rfl⟩
        refine CW_drawR [0, 0, 1, 3] [0, 1, 2, 3] R7 (by kernel_rfl) (by kernel_rfl) (by subst hR7; exact leA) (fun lR7 => ?_)
        apply zay rfl (zab (by decide)) rfl
        ·intro r
         simp only [x_slice, Option.map_some, Option.map_none, eX, ↓reduceIte, Nat.reduceEqDiff]
         refine Lt_sliceA Try.underlying45 sz5 bound_none bound_none (bound_some ixA) bxA bxA bxA (by simp) ?_
         try simp only [zap, Nat.mul_one, Nat.zero_add, Int.reduceToNat, Nat.reduceSub, Nat.reduceEqDiff, ↓reduceIte]
         exact ⟨rfl, Le.refl _⟩
        simp only [eX, ↓reduceIte, Nat.reduceEqDiff, Int.reduceToNat]
        apply zay rfl (zab (by decide)) rfl
        ·intro r
         simp only [zah, fa99_2, zap, Nat.reduceAdd, Nat.zero_add, eX, ↓reduceIte, Nat.reduceEqDiff]
         exact ⟨rfl, Le.refl _⟩
        simp only [eX, ↓reduceIte, Nat.reduceEqDiff, Int.reduceToNat]
        apply TW_look rfl (zab (by decide)) rfl
        ·intro r
         simp only [zan, eX, ↓reduceIte, Nat.reduceEqDiff]
         refine zak Try.underlying22 rfl hbA ldA ?_
         exact ⟨rfl, Le.refl _⟩
        simp only [eX, ↓reduceIte, Nat.reduceEqDiff, Int.reduceToNat]
        refine TW_last rfl (zab (by decide)) rfl (fun K hK r => ?_)
        simp only [zaM, l_copy, List.map_toArray, List.map_cons, List.map_nil, eX, ↓reduceIte, Nat.reduceEqDiff, Int.reduceToNat]
        have hmin : Nat.min l.length 56 = l.length := Nat.min_eq_left (by omega)
        refine Lt_copy (w := 1) (cs := u8s l) Try.underlying22 sz5 _ hbA bdA (len_slice _ _ _) (fun K => ?_) (by rw [hmin]; simp [u8s]) (PlainL.ints _ _) (by decide) ?_
        ·rw [hmin]
         refine (first_holds (hd.le lhA) (Nat.le_refl _) K).trans ?_
         rw [Nat.mul_one, List.take_of_length_le (by simp [u8s])]
        refine hK _ _ ?_; clear hK K
        refine TW_nil ?_
        try simp only [Ex.thnH, Ex.inBlockH, ↓reduceIte, Nat.reduceEqDiff]
        refine hK9 _ _ ?_; try clear hK9 K9
        refine zad (fun K10 hK10 => ?_)
        refine zaa ?_
        refine zac (fun K hK r => ?_)
        simp only [zah, fa99_0, zap, Nat.reduceAdd, Nat.zero_add, eX, ↓reduceIte, Nat.reduceEqDiff, Int.reduceToNat]
        refine hK _ _ ?_; clear hK K
        refine zac (fun K hK r => ?_)
        simp only [zan, eX, ↓reduceIte, Nat.reduceEqDiff, Int.reduceToNat]
        refine zak Try.underlying3 rfl hbA ldA ?_
        try simp only [eX, ↓reduceIte, Nat.reduceEqDiff, Int.reduceToNat]
        refine hK _ _ ?_; clear hK K
        refine zac (fun K hK r => ?_)
        simp only [zaT _ bd61, List.map_toArray, List.map_cons, List.map_nil, eX, ↓reduceIte, Nat.reduceEqDiff, Int.reduceToNat]
        refine (stamp_ok _ _ _ _ _ _ hbA (by simp) (by omega) (by omega)).mono ?_
        rintro v H' ⟨rfl, rfl⟩
        try simp only [eX, ↓reduceIte, Nat.reduceEqDiff, Int.reduceToNat]
        refine hK _ _ ?_; clear hK K
        refine zae ?_
        try simp only [Ex.thnH, Ex.inBlockH, ↓reduceIte, Nat.reduceEqDiff]
        refine hK10 _ _ ?_; try clear hK10 K10
        refine zad (fun K11 hK11 => ?_)
        refine zaa ?_
        refine zac (fun K hK r => ?_)
        simp only [zan, eX, ↓reduceIte, Nat.reduceEqDiff, Int.reduceToNat]
        first | refine zaN Try.underlying45 rfl sz45 hbA bdA ?_ | refine zaC Try.underlying45 rfl sz45 hbA bdA ?_
        try simp only [eX, ↓reduceIte, Nat.reduceEqDiff, Int.reduceToNat]
        refine hK _ _ ?_; clear hK K
        refine zbq rfl (zaJ) (fun K hK r => ?_)
        simp only [zaL, eX, ↓reduceIte, Nat.reduceEqDiff, Int.reduceToNat]
        first | refine zaz sz45 bdA hbA bdA plA (by decide) ?_ | refine zaI sz45 bdA hbA bdA plA (by decide) ?_
        try simp only [eX, ↓reduceIte, Nat.reduceEqDiff, Int.reduceToNat]
        refine hK _ _ ?_; clear hK K
        refine zao rfl ?_
        refine zae ?_
        try simp only [Ex.thnH, Ex.inBlockH, ↓reduceIte, Nat.reduceEqDiff]
        refine hK11 _ _ ?_; try clear hK11 K11
        refine zaR ?_
        try simp only [Ex.thnH, Ex.inBlockH, ↓reduceIte, Nat.reduceEqDiff]
        first
        |(have hb : badI st kd l = none := by simp only [badI]; rw [if_neg (by omega), if_neg (by omega)]
          refine ⟨[_, _], ⟨⟨_, rfl, zbd Try.underlying45 rfl sz45 hbA bdA⟩, rfl, trivial⟩, H, lhA, ?_, rfl⟩
          show Value.tuple #[_, _] = _
          rw [seal_cells st kd l (by omega), sealI, hb]; rfl)
        |(have hb : badI st kd l = some 2 := by simp only [badI]; rw [if_neg (by omega), if_pos (by omega)]
          refine ⟨[_, _], ⟨⟨_, rfl, zbd Try.underlying45 rfl sz45 hbA bdA⟩, rfl, trivial⟩, H, lhA, ?_, rfl⟩
          show Value.tuple #[_, _] = _
          rw [sealI, hb]; simp only [zero_cells]; rfl)
        |(have hb : badI st kd l = some 1 := by simp only [badI]; rw [if_pos (by omega)]
          refine ⟨[_, _], ⟨⟨_, rfl, zbd Try.underlying45 rfl sz45 hbA bdA⟩, rfl, trivial⟩, H, lhA, ?_, rfl⟩
          show Value.tuple #[_, _] = _
          rw [sealI, hb]; simp only [zero_cells]; rfl)
        |skip
end Go.Proofs.Ytcjdkfhmlnfedaa.HL
end
section
namespace Go.Proofs.Ytcjdkfhmlnfedaa.HL
open Go Go.Proofs
set_option linter.unusedSimpArgs false
set_option linter.unusedVariables false
attribute [local irreducible] Lt Lq CW OW TW CallH
set_option maxRecDepth 100000 in
set_option maxHeartbeats 1000000 in
theorem Open_ok (H : Hp) (L : List Int) (hc : L.length = 64) (hB : ByteL L) :
  CallH Try.prog 65 #[.agg (u8s L).toArray] H (fun v H' => Le H H' ∧ ((openI L = none ∧ v = .tuple #[.agg #[.int .i64 0, .int .i64 0, .slice none 0 0], errV (some 9)]) ∨
   ∃ st kd d x rs, openI L = some (st, kd, d) ∧ v = .tuple #[.agg #[.int .i64 st, .int .i64 kd, x], errV none] ∧ OwnS H' 5 1 x d.length (u8s d) rs ∧ ∀ r, rs = some r → H r = none)) := by
 refine zaB (l := [_]) (rl := [.cell 2 99, .tmp 3]) (n := 44) Try.func65 rfl rfl rfl rfl rfl ?_
 simp only [envOf, Nat.reduceAdd]
 have hsl : (sealI (stOf L) (kdOf L) (dtOf L)).length = 64 := sealI_len _ _ _
 have h7 : 0 ≤ L.getD 7 0 ∧ L.getD 7 0 ≤ 255 := getD_byte hB 7
 have h6 : 0 ≤ L.getD 6 0 ∧ L.getD 6 0 ≤ 255 := getD_byte hB 6
 refine zad (fun K1 hK1 => ?_)
 refine zaa ?_
 refine zac (fun K hK r => ?_)
 simp only [x_box, Value.cells, eX, ↓reduceIte, Nat.reduceEqDiff, Int.reduceToNat]
 intro b1 hb1
 have f1_H : H b1 = none := zaj lhA hb1
 try simp only [eX, ↓reduceIte, Nat.reduceEqDiff, Int.reduceToNat]
 refine hK _ _ ?_; clear hK K
 refine zac (fun K hK r => ?_)
 simp only [x_alloc, zr99, zal, Value.cells, eX, ↓reduceIte, Nat.reduceEqDiff, Int.reduceToNat]
 intro b2 hb2
 try have n2_b1 : b1 ≠ b2 := zai hbA hb2
 have f2_H : H b2 = none := zaj lhA hb2
 try simp only [eX, ↓reduceIte, Nat.reduceEqDiff, Int.reduceToNat]
 refine hK _ _ ?_; clear hK K
 refine zao rfl ?_
 refine zae ?_
 try simp only [Ex.thnH, Ex.inBlockH, ↓reduceIte, Nat.reduceEqDiff]
 refine hK1 _ _ ?_; try clear hK1 K1
 refine zad (fun K2 hK2 => ?_)
 refine zaa ?_
 refine zac (fun K hK r => ?_)
 simp only [zaK, eX, ↓reduceIte, Nat.reduceEqDiff, Int.reduceToNat]
 refine Lt_indexA Try.underlying45 sz5 ixA ixA ?_
 try simp only [zap, Nat.mul_one, Nat.zero_add, Int.reduceToNat]
 try simp only [eX, ↓reduceIte, Nat.reduceEqDiff, Int.reduceToNat]
 refine hK _ _ ?_; clear hK K
 refine zac (fun K hK r => ?_)
 simp only [zan, eX, ↓reduceIte, Nat.reduceEqDiff, Int.reduceToNat]
 refine zak Try.underlying5 rfl hbA (v := .int .u8 (L.getD 7 0)) (u8s_at L 7 (by omega)) ?_
 refine hK _ _ ?_; clear hK K
 refine zac (fun K hK r => ?_)
 simp (disch := (first | omega | decide)) only [x_convert, c_int _ _ _ _ Try.underlying5 Try.underlying3, zaw, zaE, zaD, zaQ, eX, ↓reduceIte, Nat.reduceEqDiff, Int.reduceToNat]
 refine hK _ _ ?_; clear hK K
 refine zao rfl ?_
 refine zae ?_
 try simp only [Ex.thnH, Ex.inBlockH, ↓reduceIte, Nat.reduceEqDiff]
 refine hK2 _ _ ?_; try clear hK2 K2
 refine zad (fun K3 hK3 => ?_)
 refine zad (fun K4 hK4 => ?_)
 refine zaa ?_
 refine zac (fun K hK r => ?_)
 simp only [zaT _ bd69, List.map_toArray, List.map_cons, List.map_nil, eX, ↓reduceIte, Nat.reduceEqDiff, Int.reduceToNat]
 refine (stamped_ok _ _ L _ 0 hbA hc (by omega) hB).mono ?_
 rintro v H' ⟨rfl, rfl⟩
 try simp only [eX, ↓reduceIte, Nat.reduceEqDiff, Int.reduceToNat]
 refine hK _ _ ?_; clear hK K
 refine zac (fun K hK r => ?_)
 simp only [zaT _ bd69, List.map_toArray, List.map_cons, List.map_nil, eX, ↓reduceIte, Nat.reduceEqDiff, Int.reduceToNat]
 refine (stamped_ok _ _ L _ 58 hbA hc (by omega) hB).mono ?_
 rintro v H' ⟨rfl, rfl⟩
 try simp only [eX, ↓reduceIte, Nat.reduceEqDiff, Int.reduceToNat]
 refine hK _ _ ?_; clear hK K
 refine zac (fun K hK r => ?_)
 simp (disch := (first | omega | decide)) only [zaF, zaH, b_neq, zaq, zar, zat, zau, zas, zav, Bool.not_true, Bool.not_false, eX, ↓reduceIte, Nat.reduceEqDiff, Int.reduceToNat]
 refine hK _ _ ?_; clear hK K
 refine zam rfl ?_
 (first | refine zbc (d := 14) rfl (fun g14 => ?_) (fun g14 => ?_) | skip)
 all_goals try (exfalso; exact cnA g14)
 all_goals (try simp only [decide_eq_true_eq, decide_eq_false_iff_not, Bool.not_eq_true, Bool.not_eq_false, Bool.and_eq_true, Bool.or_eq_true, Bool.or_eq_false_iff, Bool.not_eq_eq_eq_not, Bool.not_true, Bool.not_false] at g14)
 all_goals
  try simp only [eX, ↓reduceIte, Nat.reduceEqDiff, Int.reduceToNat]
  first
  |refine zaf rfl (zab (by decide)) rfl (fun K hK r => ?_)
   simp only [zaU, eX, ↓reduceIte, Nat.reduceEqDiff, Int.reduceToNat]
   refine hK _ _ ?_; clear hK K
  |refine zag rfl (zab (by decide)) rfl ?_
   simp only [eX, ↓reduceIte, Nat.reduceEqDiff, Int.reduceToNat]
  first
  |refine zaf rfl (zab (by decide)) rfl (fun K hK r => ?_)
   simp (disch := (first | omega | decide)) only [zaF, zaH, b_gtr, zaq, zar, zat, zau, zas, zav, Bool.not_true, Bool.not_false, eX, ↓reduceIte, Nat.reduceEqDiff, Int.reduceToNat]
   refine hK _ _ ?_; clear hK K
  |refine zag rfl (zab (by decide)) rfl ?_
   simp only [eX, ↓reduceIte, Nat.reduceEqDiff, Int.reduceToNat]
  refine zac (fun K hK r => ?_)
  simp only [zbp, zaZ, HL.ite_bool, if_true, if_false, Bool.false_eq_true, eX, ↓reduceIte, Nat.reduceEqDiff, Int.reduceToNat]
  refine hK _ _ ?_; clear hK K
  refine zae ?_
  try simp only [Ex.thnH, Ex.inBlockH, ↓reduceIte, Nat.reduceEqDiff]
  refine hK4 _ _ ?_; try clear hK4 K4
  refine zaG (fun r => rfl) (fun c17 => ?_) (fun c17 => ?_)
  ·first
   |(exfalso; exact cnA c17; done)
   |skip
    (try simp only [decide_eq_true_eq, decide_eq_false_iff_not, Bool.not_eq_true, Bool.not_eq_false, Bool.and_eq_true, Bool.or_eq_true, Bool.or_eq_false_iff, Bool.not_eq_eq_eq_not, Bool.not_true, Bool.not_false] at c17)
    refine zad (fun K5 hK5 => ?_)
    refine zaa ?_
    refine zac (fun K hK r => ?_)
    simp only [x_build, bp99, List.map_toArray, List.map_cons, List.map_nil, eX, ↓reduceIte, Nat.reduceEqDiff, Int.reduceToNat]
    simp only [fill_nil, zal, List.setIfInBounds_toArray, List.set_cons_zero, List.set_cons_succ]
    try simp only [eX, ↓reduceIte, Nat.reduceEqDiff, Int.reduceToNat]
    refine hK _ _ ?_; clear hK K
    refine zac (fun K hK r => ?_)
    simp only [zbf, zbg, Try.underlying73, zal, eX, ↓reduceIte, Nat.reduceEqDiff, Int.reduceToNat]
    refine hK _ _ ?_; clear hK K
    refine zbq rfl (zaJ) (fun K hK r => ?_)
    simp only [zaL, eX, ↓reduceIte, Nat.reduceEqDiff, Int.reduceToNat]
    first | refine zaz sz99 bdA hbA bdA plA (by decide) ?_ | refine zaI sz99 bdA hbA bdA plA (by decide) ?_
    try simp only [eX, ↓reduceIte, Nat.reduceEqDiff, Int.reduceToNat]
    refine hK _ _ ?_; clear hK K
    refine zao rfl ?_
    refine zae ?_
    try simp only [Ex.thnH, Ex.inBlockH, ↓reduceIte, Nat.reduceEqDiff]
    refine hK5 _ _ ?_; try clear hK5 K5
    refine zaR ?_
    try simp only [Ex.thnH, Ex.inBlockH, ↓reduceIte, Nat.reduceEqDiff]
    refine ⟨[_, _], ⟨⟨_, rfl, zbd Try.underlying99 rfl sz99 hbA bdA⟩, rfl, trivial⟩, H, lhA, Le.refl _, .inl ⟨?_, rfl⟩⟩
    simp only [List.drop_zero] at *
    rw [openI, if_neg]; rw [good_iff]; rintro ⟨h1, h2, _⟩
    simp only [stOf, tailOf, szS] at h1 h2
    first | omega | exact absurd h1 (by assumption)
  ·first
   |(exfalso; exact cnA c17; done)
   |skip
    (try simp only [decide_eq_true_eq, decide_eq_false_iff_not, Bool.not_eq_true, Bool.not_eq_false, Bool.and_eq_true, Bool.or_eq_true, Bool.or_eq_false_iff, Bool.not_eq_eq_eq_not, Bool.not_true, Bool.not_false] at c17)
    refine zaO ?_
    try simp only [Ex.thnH, Ex.inBlockH, ↓reduceIte, Nat.reduceEqDiff]
    refine hK3 _ _ ?_; try clear hK3 K3
    refine zad (fun K6 hK6 => ?_)
    refine CW_drawE [2, 0, 1, 0, 0, 0, 0, 2, 0, 4, 3] [0, 1, 2, 3, 4, 5, 6, 7, 8, 9, 10] (by kernel_rfl) (by kernel_rfl) (fun R4 hR4 => ?_)
    refine TW_chain rfl (zab (by decide)) rfl (fun K hK r => ?_)
    simp only [zaT _ bd69, List.map_toArray, List.map_cons, List.map_nil, eX, ↓reduceIte, Nat.reduceEqDiff, Int.reduceToNat]
    refine (stamped_ok _ _ L _ 0 hbA hc (by omega) hB).mono ?_
    rintro v H' ⟨rfl, rfl⟩
    try simp only [eX, ↓reduceIte, Nat.reduceEqDiff, Int.reduceToNat]
    refine hK _ _ leA ?_; clear hK K
    apply zay rfl (zab (by decide)) rfl
    ·intro r
     simp only [zaK, eX, ↓reduceIte, Nat.reduceEqDiff]
     refine Lt_indexA Try.underlying45 sz5 ixA ixA ?_
     try simp only [zap, Nat.mul_one, Nat.zero_add, Int.reduceToNat]
     exact ⟨rfl, Le.refl _⟩
    simp only [eX, ↓reduceIte, Nat.reduceEqDiff, Int.reduceToNat]
    apply TW_look rfl (zab (by decide)) rfl
    ·intro r
     simp only [zan, eX, ↓reduceIte, Nat.reduceEqDiff]
     refine zak Try.underlying5 rfl hbA (v := .int .u8 (L.getD 6 0)) (u8s_at L 6 (by omega)) ?_
     exact ⟨rfl, Le.refl _⟩
    simp only [eX, ↓reduceIte, Nat.reduceEqDiff, Int.reduceToNat]
    apply zay rfl (zab (by decide)) rfl
    ·intro r
     simp (disch := (first | omega | decide)) only [x_convert, c_int _ _ _ _ Try.underlying5 Try.underlying3, zaw, zaE, zaD, zaQ, eX, ↓reduceIte, Nat.reduceEqDiff]
     exact ⟨rfl, Le.refl _⟩
    simp only [eX, ↓reduceIte, Nat.reduceEqDiff, Int.reduceToNat]
    apply zay rfl (zab (by decide)) rfl
    ·intro r
     simp only [zaU, eX, ↓reduceIte, Nat.reduceEqDiff]
     exact ⟨rfl, Le.refl _⟩
    simp only [eX, ↓reduceIte, Nat.reduceEqDiff, Int.reduceToNat]
    apply zay rfl (zab (by decide)) rfl
    ·intro r
     simp (disch := (first | omega | decide)) only [zaF, zaH, b_add, zaw, zaE, zaD, zaQ, eX, ↓reduceIte, Nat.reduceEqDiff]
     exact ⟨rfl, Le.refl _⟩
    simp only [eX, ↓reduceIte, Nat.reduceEqDiff, Int.reduceToNat]
    apply zay rfl (zab (by decide)) rfl
    ·intro r
     simp only [x_slice, Option.map_some, Option.map_none, eX, ↓reduceIte, Nat.reduceEqDiff]
     refine Lt_sliceA Try.underlying45 sz5 bound_none (bound_some ixA) (bound_some ixA) bxA bxA bxA (by simp) ?_
     try simp only [zap, Nat.mul_one, Nat.zero_add, Int.reduceToNat, Nat.reduceSub, Nat.reduceEqDiff, ↓reduceIte]
     exact ⟨rfl, Le.refl _⟩
    simp only [eX, ↓reduceIte, Nat.reduceEqDiff, Int.reduceToNat]
    refine TW_chain rfl (zab (by decide)) rfl (fun K hK r => ?_)
    simp only [zaT _ bd60, List.map_toArray, List.map_cons, List.map_nil, eX, ↓reduceIte, Nat.reduceEqDiff, Int.reduceToNat]
    refine (Clone_ok (l := dtOf L) _ _ _ _ ?_ (by omega)).mono ?_
    ·have e27 : (8 + L.getD 7 0).toNat - 8 = (L.getD 7 0).toNat := by omega
     have l27 : (dtOf L).length = (L.getD 7 0).toNat := dtOf_len hc (by show L.getD 7 0 ≤ 50; omega)
     rw [e27]
     refine ⟨by simp [l27], .inr ⟨b1, 8, _, _, _, _, rfl, hbA, (by rw [Nat.mul_one]; simp only [List.size_toArray, List.length_map]; omega), ?_⟩⟩
     simp only [Array.toList_extract, List.extract_eq_take_drop, Nat.mul_one, Nat.add_sub_cancel_left, dtOf, u8s, List.map_take, List.map_drop]; rfl
    rintro v27 H27 ⟨hl27, rs27, ho27, hr27⟩
    have e27 : (8 + L.getD 7 0).toNat - 8 = (dtOf L).length := by
     rw [dtOf_len hc (by show L.getD 7 0 ≤ 50; omega)]; show _ = (L.getD 7 0).toNat; omega
    rw [e27] at ho27
    obtain ⟨a27, c27, rfl⟩ := ho27.holds.form
    try have kH27_b1 := hl27 b1 _ hbA
    try have kH27_b2 := hl27 b2 _ hbA
    have lH27_H : Le H H27 := Le.trans lhA hl27
    have lH27_R4 : Le R4 H27 := Le.trans lhA hl27
    try simp only [eX, ↓reduceIte, Nat.reduceEqDiff, Int.reduceToNat]
    refine hK _ _ leA ?_; clear hK K
    apply zay rfl (zab (by decide)) rfl
    ·intro r
     simp only [x_build, bp99, List.map_toArray, List.map_cons, List.map_nil, eX, ↓reduceIte, Nat.reduceEqDiff]
     rw [fill_one rfl clA bdA]
     rw [fill_one rfl clA bdA]
     rw [fill_one rfl clA bdA]
     simp only [fill_nil, zal, List.setIfInBounds_toArray, List.set_cons_zero, List.set_cons_succ]
     exact ⟨rfl, Le.refl _⟩
    simp only [eX, ↓reduceIte, Nat.reduceEqDiff, Int.reduceToNat]
    refine TW_make rfl (zab (by decide)) rfl (fun K hK r => ?_)
    simp only [x_alloc, zr99, zal, Value.cells, eX, ↓reduceIte, Nat.reduceEqDiff, Int.reduceToNat]
    intro b5 hb5
    try have n5_b1 : b1 ≠ b5 := zai hbA hb5
    try have n5_b2 : b2 ≠ b5 := zai hbA hb5
    have f5_H : H b5 = none := zaj lhA hb5
    have f5_R4 : R4 b5 = none := zaj lhA hb5
    try simp only [eX, ↓reduceIte, Nat.reduceEqDiff, Int.reduceToNat]
    refine hK _ _ ?_; clear hK K
    refine TW_last rfl (zaJ) rfl (fun K hK r => ?_)
    simp only [zaL, eX, ↓reduceIte, Nat.reduceEqDiff, Int.reduceToNat]
    first | refine zaz sz99 bdA hbA bdA plA (by decide) ?_ | refine zaI sz99 bdA hbA bdA plA (by decide) ?_
    try simp only [eX, ↓reduceIte, Nat.reduceEqDiff, Int.reduceToNat]
    refine hK _ _ ?_; clear hK K
    refine TW_nil ?_
    try simp only [Ex.thnH, Ex.inBlockH, ↓reduceIte, Nat.reduceEqDiff]
    refine hK6 _ _ ?_; try clear hK6 K6
    refine zad (fun K7 hK7 => ?_)
    refine zad (fun K8 hK8 => ?_)
    refine zaa ?_
    refine zac (fun K hK r => ?_)
    simp only [zan, eX, ↓reduceIte, Nat.reduceEqDiff, Int.reduceToNat]
    first | refine zaN Try.underlying99 rfl sz99 hbA bdA ?_ | refine zaC Try.underlying99 rfl sz99 hbA bdA ?_
    try simp only [List.extract_toArray, List.extract_eq_take_drop, Nat.zero_add, Nat.reduceAdd, Nat.reduceSub, Nat.sub_zero, List.drop_succ_cons, List.drop_zero, List.take_succ_cons, List.take_zero, List.take_nil, List.drop_nil]
    try simp only [eX, ↓reduceIte, Nat.reduceEqDiff, Int.reduceToNat]
    refine hK _ _ ?_; clear hK K
    refine zac (fun K hK r => ?_)
    simp only [zaT _ bd36, List.map_toArray, List.map_cons, List.map_nil, eX, ↓reduceIte, Nat.reduceEqDiff, Int.reduceToNat]
    refine (Seal_ok _ (stOf L) (kdOf L) _ (dtOf L) (ho27.holds.le lhA)).mono ?_
    rintro v H' ⟨rfl, rfl⟩
    try simp only [eX, ↓reduceIte, Nat.reduceEqDiff, Int.reduceToNat]
    refine hK _ _ ?_; clear hK K
    refine zam rfl ?_
    refine zac (fun K hK r => ?_)
    simp only [zaW, zaX, List.getElem?_toArray, List.getElem?_cons_zero, List.getElem?_cons_succ, zal, eX, ↓reduceIte, Nat.reduceEqDiff, Int.reduceToNat]
    refine hK _ _ ?_; clear hK K
    refine zac (fun K hK r => ?_)
    simp only [zaW, zaX, List.getElem?_toArray, List.getElem?_cons_zero, List.getElem?_cons_succ, zal, eX, ↓reduceIte, Nat.reduceEqDiff, Int.reduceToNat]
    refine hK _ _ ?_; clear hK K
    refine zac (fun K hK r => ?_)
    simp only [x_alloc, zr45, zal, Value.cells, eX, ↓reduceIte, Nat.reduceEqDiff, Int.reduceToNat]
    intro b6 hb6
    try have n6_b1 : b1 ≠ b6 := zai hbA hb6
    try have n6_b2 : b2 ≠ b6 := zai hbA hb6
    try have n6_b5 : b5 ≠ b6 := zai hbA hb6
    have f6_H : H b6 = none := zaj lhA hb6
    have f6_R4 : R4 b6 = none := zaj lhA hb6
    try simp only [eX, ↓reduceIte, Nat.reduceEqDiff, Int.reduceToNat]
    refine hK _ _ ?_; clear hK K
    refine zbq rfl (zaJ) (fun K hK r => ?_)
    simp only [zaL, eX, ↓reduceIte, Nat.reduceEqDiff, Int.reduceToNat]
    first | refine zaz sz45 bdA hbA bdA plA (by decide) ?_ | refine zaI sz45 bdA hbA bdA plA (by decide) ?_
    try simp only [eX, ↓reduceIte, Nat.reduceEqDiff, Int.reduceToNat]
    refine hK _ _ ?_; clear hK K
    refine zao rfl ?_
    refine zae ?_
    try simp only [Ex.thnH, Ex.inBlockH, ↓reduceIte, Nat.reduceEqDiff]
    refine hK8 _ _ ?_; try clear hK8 K8
    refine zad (fun K9 hK9 => ?_)
    refine zaa ?_
    refine zam rfl ?_
    refine zac (fun K hK r => ?_)
    simp only [zaF, zaH, g_bool, zbo, zbk, g_slice, g_map, g_func, zbl, g_err, g_iface, zbe, g_nil_r, g_nil_l, eX, ↓reduceIte, Nat.reduceEqDiff, Int.reduceToNat]
    first | rw [b_err_neq _ _ Try.underlying33] | (rw [e_neq _ _ _ _ (by simp), q_equal]; first | rw [q_iface_nil _ _ _ Try.underlying33] | rw [q_nil_iface _ _ _ Try.underlying33] | rw [q_nil_nil _ _ _ Try.underlying33])
    try simp only [eX, ↓reduceIte, Nat.reduceEqDiff, Int.reduceToNat]
    refine hK _ _ ?_; clear hK K
    refine zam rfl ?_
    (first | refine zbc (d := 36) rfl (fun g36 => ?_) (fun g36 => ?_) | skip)
    all_goals try (exfalso; exact cnA g36)
    all_goals (try simp only [decide_eq_true_eq, decide_eq_false_iff_not, Bool.not_eq_true, Bool.not_eq_false, Bool.and_eq_true, Bool.or_eq_true, Bool.or_eq_false_iff, Bool.not_eq_eq_eq_not, Bool.not_true, Bool.not_false] at g36)
    all_goals
     try simp only [eX, ↓reduceIte, Nat.reduceEqDiff, Int.reduceToNat]
     first
     |refine zaf rfl (zab (by decide)) rfl (fun K hK r => ?_)
      simp only [zan, eX, ↓reduceIte, Nat.reduceEqDiff, Int.reduceToNat]
      first | refine zaN Try.underlying45 rfl sz45 hbA bdA ?_ | refine zaC Try.underlying45 rfl sz45 hbA bdA ?_
      try simp only [eX, ↓reduceIte, Nat.reduceEqDiff, Int.reduceToNat]
      refine hK _ _ ?_; clear hK K
     |refine zag rfl (zab (by decide)) rfl ?_
      simp only [eX, ↓reduceIte, Nat.reduceEqDiff, Int.reduceToNat]
     first
     |refine zaf rfl (zab (by decide)) rfl (fun K hK r => ?_)
      simp only [zan, eX, ↓reduceIte, Nat.reduceEqDiff, Int.reduceToNat]
      first | refine zaN Try.underlying45 rfl sz45 hbA bdA ?_ | refine zaC Try.underlying45 rfl sz45 hbA bdA ?_
      try simp only [eX, ↓reduceIte, Nat.reduceEqDiff, Int.reduceToNat]
      refine hK _ _ ?_; clear hK K
     |refine zag rfl (zab (by decide)) rfl ?_
      simp only [eX, ↓reduceIte, Nat.reduceEqDiff, Int.reduceToNat]
     first
     |refine zaf rfl (zab (by decide)) rfl (fun K hK r => ?_)
      simp only [zaF, g_agg _ _ _ _ _ _ eqg45, eX, ↓reduceIte, Nat.reduceEqDiff, Int.reduceToNat]
      rw [e_neq _ _ _ _ (by simp)]
      rw [q_equal, q_array 9999 45 5 64 Try.underlying45 _ Try.underlying5 sz5 (fun x y K => q_int 9998 5 _ Try.underlying5 _ x y K) _ _ bdA bdA]
      try simp only [eX, ↓reduceIte, Nat.reduceEqDiff, Int.reduceToNat]
      refine hK _ _ ?_; clear hK K
     |refine zag rfl (zab (by decide)) rfl ?_
      simp only [eX, ↓reduceIte, Nat.reduceEqDiff, Int.reduceToNat]
     refine zac (fun K hK r => ?_)
     simp only [zbp, zaZ, HL.ite_bool, if_true, if_false, Bool.false_eq_true, eX, ↓reduceIte, Nat.reduceEqDiff, Int.reduceToNat]
     refine hK _ _ ?_; clear hK K
     refine zae ?_
     try simp only [Ex.thnH, Ex.inBlockH, ↓reduceIte, Nat.reduceEqDiff]
     refine hK9 _ _ ?_; try clear hK9 K9
     refine zaG (fun r => rfl) (fun c40 => ?_) (fun c40 => ?_)
     ·first
      |(exfalso; exact cnA c40; done)
      |skip
       (try simp only [decide_eq_true_eq, decide_eq_false_iff_not, Bool.not_eq_true, Bool.not_eq_false, Bool.and_eq_true, Bool.or_eq_true, Bool.or_eq_false_iff, Bool.not_eq_eq_eq_not, Bool.not_true, Bool.not_false] at c40)
       refine zad (fun K10 hK10 => ?_)
       refine zaa ?_
       refine zac (fun K hK r => ?_)
       simp only [x_build, bp99, List.map_toArray, List.map_cons, List.map_nil, eX, ↓reduceIte, Nat.reduceEqDiff, Int.reduceToNat]
       simp only [fill_nil, zal, List.setIfInBounds_toArray, List.set_cons_zero, List.set_cons_succ]
       try simp only [eX, ↓reduceIte, Nat.reduceEqDiff, Int.reduceToNat]
       refine hK _ _ ?_; clear hK K
       refine zac (fun K hK r => ?_)
       simp only [zbf, zbg, Try.underlying73, zal, eX, ↓reduceIte, Nat.reduceEqDiff, Int.reduceToNat]
       refine hK _ _ ?_; clear hK K
       refine zbq rfl (zaJ) (fun K hK r => ?_)
       simp only [zaL, eX, ↓reduceIte, Nat.reduceEqDiff, Int.reduceToNat]
       first | refine zaz sz99 bdA hbA bdA plA (by decide) ?_ | refine zaI sz99 bdA hbA bdA plA (by decide) ?_
       try simp only [eX, ↓reduceIte, Nat.reduceEqDiff, Int.reduceToNat]
       refine hK _ _ ?_; clear hK K
       refine zao rfl ?_
       refine zae ?_
       try simp only [Ex.thnH, Ex.inBlockH, ↓reduceIte, Nat.reduceEqDiff]
       refine hK10 _ _ ?_; try clear hK10 K10
       refine zaR ?_
       try simp only [Ex.thnH, Ex.inBlockH, ↓reduceIte, Nat.reduceEqDiff]
       refine ⟨[_, _], ⟨⟨_, rfl, zbd Try.underlying99 rfl sz99 hbA bdA⟩, rfl, trivial⟩, H, lhA, Le.refl _, .inl ⟨?_, rfl⟩⟩
       first | exact open_none_bad (by assumption) | exact open_none_ne (by assumption)
     ·first
      |(exfalso; exact cnA c40; done)
      |skip
       (try simp only [decide_eq_true_eq, decide_eq_false_iff_not, Bool.not_eq_true, Bool.not_eq_false, Bool.and_eq_true, Bool.or_eq_true, Bool.or_eq_false_iff, Bool.not_eq_eq_eq_not, Bool.not_true, Bool.not_false] at c40)
       refine zaO ?_
       try simp only [Ex.thnH, Ex.inBlockH, ↓reduceIte, Nat.reduceEqDiff]
       refine hK7 _ _ ?_; try clear hK7 K7
       refine zad (fun K11 hK11 => ?_)
       refine zaa ?_
       refine zac (fun K hK r => ?_)
       simp only [zan, eX, ↓reduceIte, Nat.reduceEqDiff, Int.reduceToNat]
       first | refine zaN Try.underlying99 rfl sz99 hbA bdA ?_ | refine zaC Try.underlying99 rfl sz99 hbA bdA ?_
       try simp only [List.extract_toArray, List.extract_eq_take_drop, Nat.zero_add, Nat.reduceAdd, Nat.reduceSub, Nat.sub_zero, List.drop_succ_cons, List.drop_zero, List.take_succ_cons, List.take_zero, List.take_nil, List.drop_nil]
       try simp only [eX, ↓reduceIte, Nat.reduceEqDiff, Int.reduceToNat]
       refine hK _ _ ?_; clear hK K
       refine zbq rfl (zaJ) (fun K hK r => ?_)
       simp only [zaL, eX, ↓reduceIte, Nat.reduceEqDiff, Int.reduceToNat]
       first | refine zaz sz99 bdA hbA bdA plA (by decide) ?_ | refine zaI sz99 bdA hbA bdA plA (by decide) ?_
       try simp only [eX, ↓reduceIte, Nat.reduceEqDiff, Int.reduceToNat]
       refine hK _ _ ?_; clear hK K
       refine zao rfl ?_
       refine zae ?_
       try simp only [Ex.thnH, Ex.inBlockH, ↓reduceIte, Nat.reduceEqDiff]
       refine hK11 _ _ ?_; try clear hK11 K11
       refine zaR ?_
       try simp only [Ex.thnH, Ex.inBlockH, ↓reduceIte, Nat.reduceEqDiff]
       refine ⟨[_, _], ⟨⟨_, rfl, zbd Try.underlying99 rfl sz99 hbA bdA⟩, rfl, trivial⟩, _, Le.refl _, lhA, .inr ⟨stOf L, kdOf L, dtOf L, .slice a27 (dtOf L).length c27, rs27, open_some (by simp only [List.drop_zero] at *; assumption) (by omega) (by assumption) (by assumption), ?_, ?_, fun r hr => zaj lhA (hr27 r hr)⟩⟩
       ·rfl
       ·exact ((ho27.make hb5).make hb6).upd (fresh_ne hr27 (b := b2) hbA)
def SlabR (H H' : Hp) (d : List Int) (x : Value) : Prop := Le H H' ∧ ∃ rs, OwnS H' 5 1 x d.length (u8s d) rs ∧ ∀ r, rs = some r → H r = none
theorem Open_R (H : Hp) (L : List Int) (hc : L.length = 64) (hB : ByteL L) :
    CallH Try.prog 65 #[.agg (u8s L).toArray] H (fun v H' => ∃ x, SlabR H H' (opD L) x ∧ v = .tuple #[.agg #[.int .i64 (opS L), .int .i64 (opK L), x], errV (opE L)]) := by
  refine (Open_ok H L hc hB).mono ?_
  rintro v H' ⟨hl, ⟨h, rfl⟩ | ⟨st, kd, d, x, rs, h, rfl, ho, hr⟩⟩
  · refine ⟨.slice none 0 0, ⟨hl, none, ?_, fun r hr => by cases hr⟩, ?_⟩
    · simp only [opD, h]; exact OwnS.nil _ _ _
    · simp only [opS, opK, opE, h]
  · refine ⟨x, ⟨hl, rs, ?_, hr⟩, ?_⟩
    · simp only [opD, h]; exact ho
    · simp only [opS, opK, opE, h]
set_option maxRecDepth 100000 in
set_option maxHeartbeats 1000000 in
theorem Is_R (H : Hp) (L : List Int) (st kd : Int) (hc : L.length = 64) (hB : ByteL L) :
  CallH Try.prog 55 #[.agg (u8s L).toArray, .int .i64 st, .int .i64 kd] H (fun v H' => ∃ x, SlabR H H' (isD L st kd) x ∧ v = .tuple #[x, .bool (isB L st kd)]) := by
 refine zaB (l := [_, _, _]) (rl := [.tmp 6, .tmp 7]) (n := 31) Try.func55 rfl rfl rfl rfl rfl ?_
 simp only [envOf, Nat.reduceAdd]
 refine zad (fun K1 hK1 => ?_)
 refine zaa ?_
 refine zac (fun K hK r => ?_)
 simp only [x_box, Value.cells, eX, ↓reduceIte, Nat.reduceEqDiff, Int.reduceToNat]
 intro b3 hb3
 have f3_H : H b3 = none := zaj lhA hb3
 try simp only [eX, ↓reduceIte, Nat.reduceEqDiff, Int.reduceToNat]
 refine hK _ _ ?_; clear hK K
 refine zao rfl ?_
 refine zao rfl ?_
 refine zae ?_
 try simp only [Ex.thnH, Ex.inBlockH, ↓reduceIte, Nat.reduceEqDiff]
 refine hK1 _ _ ?_; try clear hK1 K1
 refine zad (fun K2 hK2 => ?_)
 refine zaa ?_
 refine zac (fun K hK r => ?_)
 simp only [zan, eX, ↓reduceIte, Nat.reduceEqDiff, Int.reduceToNat]
 first | refine zaN Try.underlying45 rfl sz45 hbA bdA ?_ | refine zaC Try.underlying45 rfl sz45 hbA bdA ?_
 try simp only [eX, ↓reduceIte, Nat.reduceEqDiff, Int.reduceToNat]
 refine hK _ _ ?_; clear hK K
 refine zac (fun K hK r => ?_)
 simp only [zaT _ bd65, List.map_toArray, List.map_cons, List.map_nil, eX, ↓reduceIte, Nat.reduceEqDiff, Int.reduceToNat]
 refine (Open_R _ L hc hB).mono ?_
 rintro v12 H12 ⟨x12, ⟨hl12, rs12, ho12, hr12⟩, rfl⟩
 obtain ⟨a12, c12, rfl⟩ := ho12.holds.form
 try have kH12_b3 := hl12 b3 _ hbA
 have lH12_H : Le H H12 := Le.trans lhA hl12
 try simp only [eX, ↓reduceIte, Nat.reduceEqDiff, Int.reduceToNat]
 refine hK _ _ ?_; clear hK K
 refine zam rfl ?_
 refine zac (fun K hK r => ?_)
 simp only [zaW, zaX, List.getElem?_toArray, List.getElem?_cons_zero, List.getElem?_cons_succ, zal, eX, ↓reduceIte, Nat.reduceEqDiff, Int.reduceToNat]
 refine hK _ _ ?_; clear hK K
 refine zac (fun K hK r => ?_)
 simp only [zaW, zaX, List.getElem?_toArray, List.getElem?_cons_zero, List.getElem?_cons_succ, zal, eX, ↓reduceIte, Nat.reduceEqDiff, Int.reduceToNat]
 refine hK _ _ ?_; clear hK K
 refine zac (fun K hK r => ?_)
 simp only [x_alloc, zr99, zal, Value.cells, eX, ↓reduceIte, Nat.reduceEqDiff, Int.reduceToNat]
 intro b8 hb8
 try have n8_b3 : b3 ≠ b8 := zai hbA hb8
 have f8_H : H b8 = none := zaj lhA hb8
 try simp only [eX, ↓reduceIte, Nat.reduceEqDiff, Int.reduceToNat]
 refine hK _ _ ?_; clear hK K
 refine zbq rfl (zaJ) (fun K hK r => ?_)
 simp only [zaL, eX, ↓reduceIte, Nat.reduceEqDiff, Int.reduceToNat]
 first | refine zaz sz99 bdA hbA bdA plA (by decide) ?_ | refine zaI sz99 bdA hbA bdA plA (by decide) ?_
 try simp only [eX, ↓reduceIte, Nat.reduceEqDiff, Int.reduceToNat]
 refine hK _ _ ?_; clear hK K
 refine zao rfl ?_
 refine zae ?_
 try simp only [Ex.thnH, Ex.inBlockH, ↓reduceIte, Nat.reduceEqDiff]
 refine hK2 _ _ ?_; try clear hK2 K2
 refine zad (fun K3 hK3 => ?_)
 refine zad (fun K4 hK4 => ?_)
 refine zaa ?_
 refine zam rfl ?_
 refine zac (fun K hK r => ?_)
 simp only [zaF, zaH, g_bool, zbo, zbk, g_slice, g_map, g_func, zbl, g_err, g_iface, zbe, g_nil_r, g_nil_l, eX, ↓reduceIte, Nat.reduceEqDiff, Int.reduceToNat]
 first | rw [b_err_neq _ _ Try.underlying33] | (rw [e_neq _ _ _ _ (by simp), q_equal]; first | rw [q_iface_nil _ _ _ Try.underlying33] | rw [q_nil_iface _ _ _ Try.underlying33] | rw [q_nil_nil _ _ _ Try.underlying33])
 try simp only [eX, ↓reduceIte, Nat.reduceEqDiff, Int.reduceToNat]
 refine hK _ _ ?_; clear hK K
 refine zam rfl ?_
 (first | refine zbc (d := 17) rfl (fun g17 => ?_) (fun g17 => ?_) | skip)
 all_goals try (exfalso; exact cnA g17)
 all_goals (try simp only [decide_eq_true_eq, decide_eq_false_iff_not, Bool.not_eq_true, Bool.not_eq_false, Bool.and_eq_true, Bool.or_eq_true, Bool.or_eq_false_iff, Bool.not_eq_eq_eq_not, Bool.not_true, Bool.not_false] at g17)
 all_goals
  try simp only [eX, ↓reduceIte, Nat.reduceEqDiff, Int.reduceToNat]
  first
  |refine zaf rfl (zab (by decide)) rfl (fun K hK r => ?_)
   simp only [zah, fa99_0, zap, Nat.reduceAdd, Nat.zero_add, eX, ↓reduceIte, Nat.reduceEqDiff, Int.reduceToNat]
   refine hK _ _ ?_; clear hK K
  |refine zag rfl (zab (by decide)) rfl ?_
   simp only [eX, ↓reduceIte, Nat.reduceEqDiff, Int.reduceToNat]
  first
  |refine zaf rfl (zab (by decide)) rfl (fun K hK r => ?_)
   simp only [zan, eX, ↓reduceIte, Nat.reduceEqDiff, Int.reduceToNat]
   refine zak Try.underlying3 rfl hbA ldA ?_
   try simp only [eX, ↓reduceIte, Nat.reduceEqDiff, Int.reduceToNat]
   refine hK _ _ ?_; clear hK K
  |refine zag rfl (zab (by decide)) rfl ?_
   simp only [eX, ↓reduceIte, Nat.reduceEqDiff, Int.reduceToNat]
  first
  |refine zaf rfl (zab (by decide)) rfl (fun K hK r => ?_)
   simp only [zaU, eX, ↓reduceIte, Nat.reduceEqDiff, Int.reduceToNat]
   refine hK _ _ ?_; clear hK K
  |refine zag rfl (zab (by decide)) rfl ?_
   simp only [eX, ↓reduceIte, Nat.reduceEqDiff, Int.reduceToNat]
  first
  |refine zaf rfl (zab (by decide)) rfl (fun K hK r => ?_)
   simp (disch := (first | omega | decide)) only [zaF, zaH, b_neq, zaq, zar, zat, zau, zas, zav, Bool.not_true, Bool.not_false, eX, ↓reduceIte, Nat.reduceEqDiff, Int.reduceToNat]
   refine hK _ _ ?_; clear hK K
  |refine zag rfl (zab (by decide)) rfl ?_
   simp only [eX, ↓reduceIte, Nat.reduceEqDiff, Int.reduceToNat]
  refine zac (fun K hK r => ?_)
  simp only [zbp, zaZ, HL.ite_bool, if_true, if_false, Bool.false_eq_true, eX, ↓reduceIte, Nat.reduceEqDiff, Int.reduceToNat]
  refine hK _ _ ?_; clear hK K
  refine zam rfl ?_
  (first | refine zbc (d := 23) rfl (fun g23 => ?_) (fun g23 => ?_) | skip)
  all_goals try (exfalso; exact cnA g23)
  all_goals (try simp only [decide_eq_true_eq, decide_eq_false_iff_not, Bool.not_eq_true, Bool.not_eq_false, Bool.and_eq_true, Bool.or_eq_true, Bool.or_eq_false_iff, Bool.not_eq_eq_eq_not, Bool.not_true, Bool.not_false] at g23)
  all_goals
   try simp only [eX, ↓reduceIte, Nat.reduceEqDiff, Int.reduceToNat]
   first
   |refine zaf rfl (zab (by decide)) rfl (fun K hK r => ?_)
    simp only [zah, fa99_1, zap, Nat.reduceAdd, Nat.zero_add, eX, ↓reduceIte, Nat.reduceEqDiff, Int.reduceToNat]
    refine hK _ _ ?_; clear hK K
   |refine zag rfl (zab (by decide)) rfl ?_
    simp only [eX, ↓reduceIte, Nat.reduceEqDiff, Int.reduceToNat]
   first
   |refine zaf rfl (zab (by decide)) rfl (fun K hK r => ?_)
    simp only [zan, eX, ↓reduceIte, Nat.reduceEqDiff, Int.reduceToNat]
    refine zak Try.underlying3 rfl hbA ldA ?_
    try simp only [eX, ↓reduceIte, Nat.reduceEqDiff, Int.reduceToNat]
    refine hK _ _ ?_; clear hK K
   |refine zag rfl (zab (by decide)) rfl ?_
    simp only [eX, ↓reduceIte, Nat.reduceEqDiff, Int.reduceToNat]
   first
   |refine zaf rfl (zab (by decide)) rfl (fun K hK r => ?_)
    simp only [zaU, eX, ↓reduceIte, Nat.reduceEqDiff, Int.reduceToNat]
    refine hK _ _ ?_; clear hK K
   |refine zag rfl (zab (by decide)) rfl ?_
    simp only [eX, ↓reduceIte, Nat.reduceEqDiff, Int.reduceToNat]
   first
   |refine zaf rfl (zab (by decide)) rfl (fun K hK r => ?_)
    simp (disch := (first | omega | decide)) only [zaF, zaH, b_neq, zaq, zar, zat, zau, zas, zav, Bool.not_true, Bool.not_false, eX, ↓reduceIte, Nat.reduceEqDiff, Int.reduceToNat]
    refine hK _ _ ?_; clear hK K
   |refine zag rfl (zab (by decide)) rfl ?_
    simp only [eX, ↓reduceIte, Nat.reduceEqDiff, Int.reduceToNat]
   refine zac (fun K hK r => ?_)
   simp only [zbp, zaZ, HL.ite_bool, if_true, if_false, Bool.false_eq_true, eX, ↓reduceIte, Nat.reduceEqDiff, Int.reduceToNat]
   refine hK _ _ ?_; clear hK K
   refine zae ?_
   try simp only [Ex.thnH, Ex.inBlockH, ↓reduceIte, Nat.reduceEqDiff]
   refine hK4 _ _ ?_; try clear hK4 K4
   refine zaG (fun r => rfl) (fun c28 => ?_) (fun c28 => ?_)
   ·first
    |(exfalso; exact cnA c28; done)
    |skip
     (try simp only [decide_eq_true_eq, decide_eq_false_iff_not, Bool.not_eq_true, Bool.not_eq_false, Bool.and_eq_true, Bool.or_eq_true, Bool.or_eq_false_iff, Bool.not_eq_eq_eq_not, Bool.not_true, Bool.not_false] at c28)
     refine zad (fun K5 hK5 => ?_)
     refine zaa ?_
     refine zao rfl ?_
     refine zao rfl ?_
     refine zae ?_
     try simp only [Ex.thnH, Ex.inBlockH, ↓reduceIte, Nat.reduceEqDiff]
     refine hK5 _ _ ?_; try clear hK5 K5
     refine zaR ?_
     try simp only [Ex.thnH, Ex.inBlockH, ↓reduceIte, Nat.reduceEqDiff]
     have hb : isB L st kd = false := by simp only [isB, Bool.and_eq_false_iff, decide_eq_false_iff_not]; first | (right; assumption) | (left; right; assumption) | (left; left; cases h : opE L <;> simp_all)
     refine ⟨[_, _], ⟨rfl, rfl, trivial⟩, H, lhA, .slice none 0 0, ⟨Le.refl _, none, ?_, fun r hr => by cases hr⟩, ?_⟩
     ·rw [isD, if_neg (by rw [hb]; simp)]; exact OwnS.nil _ _ _
     ·rw [hb]; rfl
   ·first
    |(exfalso; exact cnA c28; done)
    |skip
     (try simp only [decide_eq_true_eq, decide_eq_false_iff_not, Bool.not_eq_true, Bool.not_eq_false, Bool.and_eq_true, Bool.or_eq_true, Bool.or_eq_false_iff, Bool.not_eq_eq_eq_not, Bool.not_true, Bool.not_false] at c28)
     refine zaO ?_
     try simp only [Ex.thnH, Ex.inBlockH, ↓reduceIte, Nat.reduceEqDiff]
     refine hK3 _ _ ?_; try clear hK3 K3
     refine zad (fun K6 hK6 => ?_)
     refine zaa ?_
     refine zac (fun K hK r => ?_)
     simp only [zah, fa99_2, zap, Nat.reduceAdd, Nat.zero_add, eX, ↓reduceIte, Nat.reduceEqDiff, Int.reduceToNat]
     refine hK _ _ ?_; clear hK K
     refine zac (fun K hK r => ?_)
     simp only [zan, eX, ↓reduceIte, Nat.reduceEqDiff, Int.reduceToNat]
     refine zak Try.underlying22 rfl hbA ldA ?_
     try simp only [eX, ↓reduceIte, Nat.reduceEqDiff, Int.reduceToNat]
     refine hK _ _ ?_; clear hK K
     refine zao rfl ?_
     refine zao rfl ?_
     refine zae ?_
     try simp only [Ex.thnH, Ex.inBlockH, ↓reduceIte, Nat.reduceEqDiff]
     refine hK6 _ _ ?_; try clear hK6 K6
     refine zaR ?_
     try simp only [Ex.thnH, Ex.inBlockH, ↓reduceIte, Nat.reduceEqDiff]
     have hb : isB L st kd = true := by simp only [isB, Bool.and_eq_true, decide_eq_true_eq]; exact ⟨⟨by cases h : opE L <;> simp_all, by assumption⟩, by assumption⟩
     refine ⟨[_, _], ⟨rfl, rfl, trivial⟩, _, Le.refl _, .slice a12 (opD L).length c12, ⟨lhA, rs12, ?_, fun r hr => zaj lhA (hr12 r hr)⟩, ?_⟩
     rotate_left
     ·rw [hb]; rfl
     ·rw [isD, if_pos hb]; exact ho12.make (by assumption)
end Go.Proofs.Ytcjdkfhmlnfedaa.HL
end
section
namespace Go.Proofs.Ytcjdkfhmlnfedaa.HL
open Go
theorem ByteL.take {l : List Int} (h : ByteL l) (n : Nat) : ByteL (l.take n) := fun x hx => h x (List.mem_of_mem_take hx)
theorem ByteL.drop {l : List Int} (h : ByteL l) (n : Nat) : ByteL (l.drop n) := fun x hx => h x (List.mem_of_mem_drop hx)
theorem ByteL.append {a b : List Int} (h : ByteL a) (k : ByteL b) : ByteL (a ++ b) := fun x hx => by
  rcases List.mem_append.1 hx with hx | hx
  · exact h x hx
  · exact k x hx
theorem sealI_eq {st kd : Int} {l : List Int} (h : badI st kd l = none) : sealI st kd l = sealL st kd l := by simp [sealI, h]
theorem sealI_byte {st kd : Int} {l : List Int} (hb : ByteL l) : ByteL (sealI st kd l) := by
  cases h : badI st kd l with
  | none => rw [sealI_eq h]; exact sealL_byte hb h
  | some o => simp only [sealI, h]; intro x hx; simp [zeroS] at hx; omega
end Go.Proofs.Ytcjdkfhmlnfedaa.HL
end
