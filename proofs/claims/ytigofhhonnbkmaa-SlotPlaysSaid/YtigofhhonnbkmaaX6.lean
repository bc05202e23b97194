/- Parts of the proof, one behind the other: VR31, VR32, VR33, VR34, VR35, VR36, VR37, VR38, VR40, VR41, VR42, VR43, VR44, VR45, VR46, VR47, VR48, V80, V81. -/
import Derived.Test.YtigofhhonnbkmaaX5
set_option linter.unusedSimpArgs false
set_option linter.unusedVariables false
section
namespace Go.Proofs.Ytigofhhonnbkmaa.HL
open Go Go.Proofs
set_option linter.unusedSimpArgs false
set_option linter.unusedVariables false
attribute [local irreducible] Lt Lq CW OW TW CallH
theorem flat_set {α : Type} {f : α → List Value} {wd : Nat} (hw : ∀ a, (f a).length = wd) : ∀ (X : List α) (i : Nat) (y : α), i < X.length → (X.set i y).flatMap f = (X.flatMap f).take (i * wd) ++ f y ++ (X.flatMap f).drop (i * wd + wd)
  | [], i, y, h => absurd h (by simp)
  | x :: r, 0, y, _ => by
    simp only [List.set_cons_zero, List.flatMap_cons, Nat.zero_mul, List.take_zero, List.nil_append, Nat.zero_add]
    rw [List.drop_append_of_le_length (by rw [hw]; exact Nat.le_refl _), List.drop_eq_nil_of_le (by rw [hw]; exact Nat.le_refl _), List.nil_append]
  | x :: r, i + 1, y, h => by
    simp only [List.set_cons_succ, List.flatMap_cons]
    rw [flat_set hw r i y (by simpa using h)]
    have e : (i + 1) * wd = wd + i * wd := by rw [Nat.succ_mul]; omega
    have e1 : ((i + 1) * wd) - (f x).length = i * wd := by rw [hw, e]; omega
    have e2 : ((i + 1) * wd + wd) - (f x).length = i * wd + wd := by rw [hw, e]; omega
    have t1 : List.take ((i + 1) * wd) (f x) = f x := List.take_of_length_le (by rw [hw, e]; omega)
    have t2 : List.drop ((i + 1) * wd + wd) (f x) = [] := List.drop_eq_nil_of_le (by rw [hw, e]; omega)
    rw [List.take_append, List.drop_append, e1, e2, t1, t2]
    simp
theorem OwnS.row {α : Type} {f : α → List Value} {wd : Nat} (hw : ∀ a, (f a).length = wd) {H : Hp} {E : TypeId} {r n cap : Nat} {X : List α} {c : Array Value} (h : OwnS H E wd (.slice (some ⟨r, 0, none⟩) n cap) n (X.flatMap f) (some r)) (hc : H r = some (.cells c E)) (hn : n = X.length) {i : Nat} (hi : i < n) (y : α) : OwnS (H.upd r (.cells (putCells c (i * wd) (f y)) E)) E wd (.slice (some ⟨r, 0, none⟩) n cap) n ((X.set i y).flatMap f) (some r) := by
  obtain ⟨h1, ⟨h2, _, _⟩ | ⟨r', cap', c', h3, h4, h5, h6, h7, h8⟩⟩ := h
  · cases h2
  · cases h3
    rw [hc] at h4; cases h4
    have m1 := Nat.mul_le_mul_right wd (show i + 1 ≤ n by omega)
    have m2 := Nat.mul_le_mul_right wd h5
    rw [Nat.succ_mul] at m1
    have hsz : i * wd + (f y).length ≤ c.size := by rw [hw, h6]; omega
    have hpl := putCells_toList (f y) c (i * wd) hsz
    refine ⟨by rw [flat_size hw, List.length_set, hn], .inr ⟨r, cap, _, rfl, zan _ _ _, h5, ?_, ?_, rfl⟩⟩
    · have hl : (putCells c (i * wd) (f y)).toList.length = c.toList.length := by
        rw [hpl]; simp only [List.length_append, List.length_take, List.length_drop, Array.length_toList]; omega
      rw [Array.length_toList, Array.length_toList] at hl
      rw [hl, h6]
    · rw [flat_set hw X i y (by omega), ← h7]
      simp only [Array.toList_extract, List.extract_eq_take_drop, List.drop_zero, Nat.sub_zero, hpl]
      apply List.ext_getElem?
      intro j
      have hfl := hw y
      simp only [List.getElem?_take, List.getElem?_append, List.getElem?_drop, List.length_take, List.length_append, Array.length_toList]
      have q1 : min (i * wd) c.size = i * wd := by omega
      have q2 : min (i * wd) (min (n * wd) c.size) = i * wd := by omega
      rw [q1, q2, hfl]
      by_cases a1 : j < i * wd
      · have a2 : j < i * wd + wd := by omega
        have a3 : j < n * wd := by omega
        simp [a1, a2, a3]
      · by_cases a2 : j < i * wd + wd
        · have a3 : j < n * wd := by omega
          simp [a1, a2, a3]
        · have e3 : i * wd + wd + (j - (i * wd + wd)) = j := by omega
          simp only [a1, a2, if_false, e3]
set_option maxRecDepth 100000 in
set_option maxHeartbeats 4000000 in
theorem rwith_ok (H : Hp) (a : Option Addr) (cap : Nat) (X : List RDX) (hX : RX H a cap X) (m : RSt) (hl : X.length ≤ 5) (dev : Int) (hin : 0 ≤ dev ∧ dev < X.length) (y : RDX) (hy : y.ok H) : CallH Try.prog 60 #[m.v (.slice a X.length cap), .int .i64 dev, .agg y.c.toArray] H (fun v H' => ∃ a' cap', Le H H' ∧ v = m.v (.slice a' X.length cap') ∧ RX H' a' cap' (X.set dev.toNat y)) := by
 refine zam (l := [_, _, _]) (rl := [.cell 6 52]) (n := 18) Try.func60 rfl rfl rfl rfl rfl ?_
 refine yaa ?_
 refine zac (fun K1 hK1 => ?_)
 refine zaa ?_
 refine zab (fun K hK r => ?_)
 refine yaW ?_
 intro b3 hb3
 have f3_H : H b3 = none := zag lhA hb3
 refine yaf ?_
 refine hK _ _ ?_; clear hK K
 refine zab (fun K hK r => ?_)
 refine yaW ?_
 intro b5 hb5
 try have n5_b3 : b3 ≠ b5 := zaf hbA hb5
 have f5_H : H b5 = none := zag lhA hb5
 refine yaf ?_
 refine hK _ _ ?_; clear hK K
 refine zab (fun K hK r => ?_)
 refine ycs ?_
 intro b6 hb6
 try have n6_b3 : b3 ≠ b6 := zaf hbA hb6
 try have n6_b5 : b5 ≠ b6 := zaf hbA hb6
 have f6_H : H b6 = none := zag lhA hb6
 refine yaf ?_
 refine hK _ _ ?_; clear hK K
 refine zad ?_
 refine yab ?_
 refine hK1 _ _ ?_; try clear hK1 K1
 refine zac (fun K2 hK2 => ?_)
 refine zaa ?_
 refine zab (fun K hK r => ?_)
 refine yaT ?_
 refine zaJ (vs := []) Try.underlying50 sz67 zr67 rfl bsA (by first | decide | (simp; done)) ?_
 refine yaU ?_
 intro b7 hb7
 try have n7_b3 : b3 ≠ b7 := zaf hbA hb7
 try have n7_b5 : b5 ≠ b7 := zaf hbA hb7
 try have n7_b6 : b6 ≠ b7 := zaf hbA hb7
 have f7_H : H b7 = none := zag lhA hb7
 refine yaf ?_
 refine hK _ _ ?_; clear hK K
 refine zab (fun K hK r => ?_)
 refine yco ?_
 refine hK _ _ ?_; clear hK K
 refine zab (fun K hK r => ?_)
 refine yap ?_
 refine zae Try.underlying50 rfl hbA ldA ?_
 refine yaf ?_
 refine hK _ _ ?_; clear hK K
 refine zab (fun K hK r => ?_)
 refine yaV ?_
 refine Lt_appendNew Try.underlying50 sz67 by67 (by decide) zr67 rfl _ (m := X.length) (ds := X.flatMap RDX.c) hbA (hX.h.le lhA) (by
  intro v hv
  rw [List.mem_flatMap] at hv
  obtain ⟨x, _, hv⟩ := hv
  simp at hv
  rcases hv with rfl | rfl <;> rfl) (by omega) ?_
 intro v10 H10 rs10 hg10 ho10 hr10
 have kb3 := hg10.known b3 _ hbA (fun e => n7_b3 (by cases e; rfl))
 have kb5 := hg10.known b5 _ hbA (fun e => n7_b5 (by cases e; rfl))
 have kb6 := hg10.known b6 _ hbA (fun e => n7_b6 (by cases e; rfl))
 have lH10 : Le H H10 := fun x o hx => hg10.known x o (Le.trans lhA (Le.refl _) x o hx) (fun e => by cases e; rw [f7_H] at hx; cases hx)
 obtain ⟨r10, cap10, c10, hv10, hc10, hn10, hs10, _, hr10'⟩ : ∃ r cap c, v10 = .slice (some ⟨r, 0, none⟩) X.length cap ∧ H10 r = some (.cells c 67) ∧ X.length ≤ cap ∧ c.size = cap * 2 ∧ (c.extract 0 (X.length * 2)).toList = X.flatMap RDX.c ∧ rs10 = some r := by
  obtain ⟨_, ⟨_, h0, _⟩ | h⟩ := ho10
  ·omega
  ·exact h
 subst hv10
 subst hr10'
 refine hK _ _ ?_; clear hK K
 refine zab (fun K hK r => ?_)
 refine yco ?_
 refine hK _ _ ?_; clear hK K
 refine zaI rfl (zas) (fun K hK r => ?_)
 refine yaD ?_
 refine zaE sz50 hbA bdA plA fzA ?_
 refine yaE ?_
 refine yaf ?_
 refine hK _ _ ?_; clear hK K
 refine zad ?_
 refine yab ?_
 refine hK2 _ _ ?_; try clear hK2 K2
 refine zac (fun K3 hK3 => ?_)
 refine zaa ?_
 refine zab (fun K hK r => ?_)
 refine yco ?_
 refine hK _ _ ?_; clear hK K
 refine zab (fun K hK r => ?_)
 refine yap ?_
 refine zae Try.underlying50 rfl hbA ldA ?_
 refine yaf ?_
 refine hK _ _ ?_; clear hK K
 refine zah rfl ?_
 refine zab (fun K hK r => ?_)
 refine yap ?_
 first | refine zax Try.underlying67 rfl sz67 hbA bdA ?_ | refine zaq Try.underlying67 rfl sz67 hbA bdA ?_
 refine ybg ?_
 refine yaf ?_
 refine hK _ _ ?_; clear hK K
 refine zab (fun K hK r => ?_)
 refine yaw ?_
 refine zaK Try.underlying50 sz67 rfl ixA ixA ?_
 simp only [Nat.zero_add]
 refine hK _ _ ?_; clear hK K
 refine zaI rfl (zas) (fun K hK r => ?_)
 refine yaD ?_
 have nr3 : r10 ≠ b3 := fun e => by subst e; rw [kb3] at hc10; injection hc10 with hc10; injection hc10 with _ hc10; revert hc10; decide
 have m1 := Nat.mul_le_mul_right 2 (show dev.toNat + 1 ≤ cap10 by omega)
 refine zal sz67 (by rfl) ((zap _ _ nr3).trans hc10) (by rw [hs10]; show dev.toNat * 2 + 2 ≤ _; omega) (PlainL.cons (plain_slice _ _ _) (PlainL.cons (plain_slice _ _ _) PlainL.nil)) (by decide) ?_
 have hrow := OwnS.row RDX.len (ho10.upd (b := b3) (o := (.cells #[.slice (some ⟨r10, 0, none⟩) X.length cap10, .int .i64 m.steps, .int .i64 m.left, .bool m.armed, .bool m.gone] 52)) (fun e => nr3 (by cases e; rfl))) ((zap _ _ nr3).trans hc10) rfl (i := dev.toNat) (by omega) y
 have nr6 : r10 ≠ b6 := fun e => by subst e; rw [kb6] at hc10; injection hc10 with hc10; injection hc10 with _ hc10; revert hc10; decide
 have hr10n : H r10 = none := (hr10 r10 rfl).elim (fun e => by rw [e]; exact f7_H) (fun e => zag lhA e)
 refine hK _ _ ?_; clear hK K
 refine zad ?_
 refine yab ?_
 refine hK3 _ _ ?_; try clear hK3 K3
 refine zac (fun K4 hK4 => ?_)
 refine zaa ?_
 refine zab (fun K hK r => ?_)
 refine yap ?_
 first | refine zax Try.underlying52 rfl sz52 hbA bdA ?_ | refine zaq Try.underlying52 rfl sz52 hbA bdA ?_
 refine ybg ?_
 refine yaf ?_
 refine hK _ _ ?_; clear hK K
 refine zaI rfl (zas) (fun K hK r => ?_)
 refine yaD ?_
 first | refine zak sz52 bdA hbA bdA plA (by decide) ?_ | refine zal sz52 bdA hbA bdA plA (by decide) ?_
 refine yaf ?_
 refine hK _ _ ?_; clear hK K
 refine zad ?_
 refine yab ?_
 refine hK4 _ _ ?_; try clear hK4 K4
 refine zaz ?_
 refine yab ?_
 refine ⟨[_], ⟨⟨_, rfl, zaC Try.underlying52 rfl sz52 hbA bdA⟩, trivial⟩, _, Le.refl _, _, _, ?_, rfl, ?_⟩
 ·exact zaw (zaw (zaw lH10 f3_H) hr10n) f6_H
 ·have hlast := zaw (o := (.cells #[.slice (some ⟨r10, 0, none⟩) X.length cap10, .int .i64 m.steps, .int .i64 m.left, .bool m.armed, .bool m.gone] 52)) (zaw (o := (.cells (putCells c10 (dev.toNat * 2) y.c) 67)) (zaw (o := (.cells #[.slice (some ⟨r10, 0, none⟩) X.length cap10, .int .i64 m.steps, .int .i64 m.left, .bool m.armed, .bool m.gone] 52)) lH10 f3_H) hr10n) f6_H
  refine ⟨?_, fun x hx => ?_⟩
  ·rw [List.length_set]
   exact (hrow.upd (fun e => nr6 (by cases e; rfl))).holds
  ·rcases List.mem_or_eq_of_mem_set hx with h1 | h1
   ·exact (hX.ok x h1).le hlast
   ·subst h1; exact hy.le hlast
end Go.Proofs.Ytigofhhonnbkmaa.HL
end
section
namespace Go.Proofs.Ytigofhhonnbkmaa.HL
open Go Go.Proofs
set_option linter.unusedSimpArgs false
set_option linter.unusedVariables false
attribute [local irreducible] Lt Lq CW OW TW CallH
theorem wts_plain (l : List Wt) : PlainL (wts l) := fun v hv => by
  rw [List.mem_flatMap] at hv
  obtain ⟨w, _, hv⟩ := hv
  exact w.plain v hv
theorem secs_plain (l : List Sec) : PlainL (secs l) := fun v hv => by
  rw [List.mem_flatMap] at hv
  obtain ⟨w, _, hv⟩ := hv
  exact PlainL.ints _ _ v hv
theorem bwr_ok (H : Hp) (K : Value → Hp → Prop) (i : Int) (x : Sec) : Lt Try.prog (Instr.build 135 #[(0, .int .i64 i), (1, .agg x.c.toArray)]) H K = K (.agg (Wt.c ⟨i, x⟩).toArray) H := by
  rw [bp135]
  rw [fill_one rfl rfl (by simp)]
  rw [fill_many (l := x.c) (n := 64) rfl rfl x.len (by simp), fill_nil, zay]
  simp only [List.setIfInBounds_toArray, List.set_cons_zero]
  rw [put_one (by rw [x.len]; rfl)]
theorem wtr_holds {H : Hp} {b : Nat} {w : Wt} (hb : H b = some (.cells w.c.toArray 135)) : Holds H 65 (.slice (some ⟨b, 0, none⟩) 1 1) 1 w.c := by
  refine ⟨by rw [Wt.len], .inr ⟨b, 0, 1, _, _, _, rfl, hb, by simp [Sec.h], ?_⟩⟩
  rw [Array.toList_extract, List.extract_eq_take_drop]
  exact List.take_of_length_le (by rw [List.drop_zero, Wt.len]; omega)
theorem getD_mem' {α : Type} [Inhabited α] {X : List α} {i : Nat} (h : i < X.length) : X.getD i default ∈ X := by
  rw [List.getD_eq_getElem?_getD, List.getElem?_eq_getElem h]; exact List.getElem_mem h
theorem OwnS.neT {H : Hp} {E : TypeId} {w : Nat} {v : Value} {n : Nat} {cs : List Value} {rs : Option Nat} (h : OwnS H E w v n cs rs) {b : Nat} {c : Array Value} {T : TypeId} {f : Nat × Nat} (hb : H b = some (.cells c T f)) (hT : T ≠ E) : rs ≠ some b := fun e => by
  obtain ⟨_, ⟨_, _, h0⟩ | ⟨r', cc, c', _, g2, _, _, _, g3⟩⟩ := h
  · rw [e] at h0; cases h0
  · rw [e] at g3; cases g3; rw [hb] at g2; injection g2 with g2; injection g2 with _ g2; exact hT g2
theorem rput_cases (m : RSt) (dev i : Int) (x : Sec) : (m.has dev i = false ∧ m.put dev i x = (m, 1)) ∨ (m.has dev i = true ∧ m.step.2 = false ∧ m.put dev i x = (m.step.1, 3)) ∨ (m.has dev i = true ∧ m.step.2 = true ∧ m.put dev i x = ({ m.step.1 with dv := m.dv.set dev.toNat ⟨(m.dv.getD dev.toNat default).sec, (m.dv.getD dev.toNat default).wait ++ [⟨i, x⟩]⟩ }, 0)) := by
  unfold RSt.put
  by_cases h : m.has dev i = true
  · rw [if_pos h]
    have hd := m.step_dv
    generalize hq : m.step = q at *
    obtain ⟨t, b⟩ := q
    cases b with
    | true => exact .inr (.inr ⟨h, rfl, by simp only at hd; rw [← hd]⟩)
    | false => exact .inr (.inl ⟨h, rfl, rfl⟩)
  · rw [if_neg h]; exact .inl ⟨by simpa using h, rfl⟩
theorem ycw {p q : Prop} (h : q) (e : p = q := by simp only [x_alloc, zr67, zay, Value.cells, eX, ↓reduceIte, Nat.reduceEqDiff, Int.reduceToNat]; exact rfl) : p := e.mpr h
theorem ycx {p q : Prop} (h : q) (e : p = q := by simp only [zao, fa67_1, zaH, Nat.reduceAdd, Nat.zero_add, eX, ↓reduceIte, Nat.reduceEqDiff]; exact rfl) : p := e.mpr h
set_option maxRecDepth 100000 in
set_option maxHeartbeats 8000000 in
theorem rput_ok (H : Hp) (a : Option Addr) (cap : Nat) (X : List RDX) (hX : RX H a cap X) (m : RSt) (hm : m.dv = rdv X) (hl : X.length ≤ 5) (hw : ∀ i, (m.dv.getD i default).wait.length ≤ 1000000) (dev i : Int) (x : Sec) : CallH Try.prog 25 #[m.v (.slice a X.length cap), .int .i64 dev, .int .i64 i, x.v] H (fun v H' => ∃ a' cap' X', X'.length = X.length ∧ Le H H' ∧ v = .tuple #[(m.put dev i x).1.v (.slice a' X'.length cap'), .int .i64 (m.put dev i x).2] ∧ RX H' a' cap' X' ∧ (m.put dev i x).1.dv = rdv X') := by
 refine zam (l := [_, _, _, _]) (rl := [.cell 8 52, .tmp 9]) (n := 45) Try.func25 rfl rfl rfl rfl rfl ?_
 refine yaa ?_
 refine zac (fun K1 hK1 => ?_)
 refine zaa ?_
 refine zab (fun K hK r => ?_)
 refine yaW ?_
 intro b4 hb4
 have f4_H : H b4 = none := zag lhA hb4
 refine yaf ?_
 refine hK _ _ ?_; clear hK K
 refine zab (fun K hK r => ?_)
 refine yaW ?_
 intro b7 hb7
 try have n7_b4 : b4 ≠ b7 := zaf hbA hb7
 have f7_H : H b7 = none := zag lhA hb7
 refine yaf ?_
 refine hK _ _ ?_; clear hK K
 refine zab (fun K hK r => ?_)
 refine ycs ?_
 intro b8 hb8
 try have n8_b4 : b4 ≠ b8 := zaf hbA hb8
 try have n8_b7 : b7 ≠ b8 := zaf hbA hb8
 have f8_H : H b8 = none := zag lhA hb8
 refine yaf ?_
 refine hK _ _ ?_; clear hK K
 refine zaj rfl ?_
 refine zad ?_
 refine yab ?_
 refine hK1 _ _ ?_; try clear hK1 K1
 refine zac (fun K2 hK2 => ?_)
 refine zac (fun K3 hK3 => ?_)
 refine zaa ?_
 refine zab (fun K hK r => ?_)
 refine yap ?_
 first | refine zax Try.underlying52 rfl sz52 hbA bdA ?_ | refine zaq Try.underlying52 rfl sz52 hbA bdA ?_
 refine ybg ?_
 refine yaf ?_
 refine hK _ _ ?_; clear hK K
 refine zah rfl ?_
 refine zah rfl ?_
 refine zab (fun K hK r => ?_)
 simp only [zaF _ bd58, List.map_toArray, List.map_cons, List.map_nil, eX, ↓reduceIte, Nat.reduceEqDiff, Int.reduceToNat]
 refine (rhas_ok _ a cap X (hX.le lhA) m hm dev i).mono ?_
 rintro v H' ⟨rfl, rfl⟩
 refine yaf ?_
 refine hK _ _ ?_; clear hK K
 refine zab (fun K hK r => ?_)
 refine yam ?_
 refine hK _ _ ?_; clear hK K
 refine zad ?_
 refine yab ?_
 refine hK3 _ _ ?_; try clear hK3 K3
 refine zar (fun r => rfl) (fun c16 => ?_) (fun c16 => ?_)
 ·first
  |(exfalso; exact cnA c16; done)
  |skip
   (try replace c16 := yad c16)
   have hno : m.has dev i = false := by simpa using c16
   refine zac (fun K4 hK4 => ?_)
   refine zaa ?_
   refine zab (fun K hK r => ?_)
   refine yap ?_
   first | refine zax Try.underlying52 rfl sz52 hbA bdA ?_ | refine zaq Try.underlying52 rfl sz52 hbA bdA ?_
   refine ybg ?_
   refine yaf ?_
   refine hK _ _ ?_; clear hK K
   refine zaI rfl (zas) (fun K hK r => ?_)
   refine yaD ?_
   first | refine zak sz52 bdA hbA bdA plA (by decide) ?_ | refine zal sz52 bdA hbA bdA plA (by decide) ?_
   refine yaf ?_
   refine hK _ _ ?_; clear hK K
   refine zaj rfl ?_
   refine zad ?_
   refine yab ?_
   refine hK4 _ _ ?_; try clear hK4 K4
   refine zaz ?_
   refine yab ?_
   refine ⟨[_, _], ⟨⟨_, rfl, zaC Try.underlying52 rfl sz52 hbA bdA⟩, rfl, trivial⟩, H, lhA, a, cap, X, rfl, Le.refl _, ?_, hX, ?_⟩
   all_goals
    rcases rput_cases m dev i x with ⟨_, e⟩ | ⟨h1, _⟩ | ⟨h1, _⟩
    ·rw [e]; first | rfl | exact hm
    ·rw [hno] at h1; cases h1
    ·rw [hno] at h1; cases h1
 ·first
  |(exfalso; exact cnA c16; done)
  |skip
   (try replace c16 := yad c16)
   have hyes : m.has dev i = true := by simpa using c16
   refine zau ?_
   refine yab ?_
   refine hK2 _ _ ?_; try clear hK2 K2
   refine zac (fun K5 hK5 => ?_)
   refine zaa ?_
   refine zab (fun K hK r => ?_)
   refine yap ?_
   first | refine zax Try.underlying52 rfl sz52 hbA bdA ?_ | refine zaq Try.underlying52 rfl sz52 hbA bdA ?_
   refine ybg ?_
   refine yaf ?_
   refine hK _ _ ?_; clear hK K
   refine zab (fun K hK r => ?_)
   simp only [zaF _ bd59, List.map_toArray, List.map_cons, List.map_nil, eX, ↓reduceIte, Nat.reduceEqDiff, Int.reduceToNat]
   refine (rstep_ok _ _ rfl m).mono ?_
   rintro v H' ⟨rfl, rfl⟩
   refine yaf ?_
   refine hK _ _ ?_; clear hK K
   refine zah rfl ?_
   refine zab (fun K hK r => ?_)
   refine yah ?_
   refine hK _ _ ?_; clear hK K
   refine zab (fun K hK r => ?_)
   refine yah ?_
   refine hK _ _ ?_; clear hK K
   refine zaI rfl (zas) (fun K hK r => ?_)
   refine yaD ?_
   first | refine zak sz52 bdA hbA bdA plA (by decide) ?_ | refine zal sz52 bdA hbA bdA plA (by decide) ?_
   refine yaf ?_
   refine hK _ _ ?_; clear hK K
   refine zaj rfl ?_
   refine zad ?_
   refine yab ?_
   refine hK5 _ _ ?_; try clear hK5 K5
   refine zac (fun K6 hK6 => ?_)
   refine zac (fun K7 hK7 => ?_)
   refine zaa ?_
   refine zah rfl ?_
   refine zab (fun K hK r => ?_)
   refine yam ?_
   refine hK _ _ ?_; clear hK K
   refine zad ?_
   refine yab ?_
   refine hK7 _ _ ?_; try clear hK7 K7
   refine zar (fun r => rfl) (fun c24 => ?_) (fun c24 => ?_)
   ·first
    |(exfalso; exact cnA c24; done)
    |skip
     (try replace c24 := yad c24)
     have hst : m.step.2 = false := by simpa using c24
     refine zac (fun K8 hK8 => ?_)
     refine zaa ?_
     refine zab (fun K hK r => ?_)
     refine yap ?_
     first | refine zax Try.underlying52 rfl sz52 hbA bdA ?_ | refine zaq Try.underlying52 rfl sz52 hbA bdA ?_
     refine ybg ?_
     refine yaf ?_
     refine hK _ _ ?_; clear hK K
     refine zaI rfl (zas) (fun K hK r => ?_)
     refine yaD ?_
     first | refine zak sz52 bdA hbA bdA plA (by decide) ?_ | refine zal sz52 bdA hbA bdA plA (by decide) ?_
     refine yaf ?_
     refine hK _ _ ?_; clear hK K
     refine zaj rfl ?_
     refine zad ?_
     refine yab ?_
     refine hK8 _ _ ?_; try clear hK8 K8
     refine zaz ?_
     refine yab ?_
     refine ⟨[_, _], ⟨⟨_, rfl, zaC Try.underlying52 rfl sz52 hbA bdA⟩, rfl, trivial⟩, H, lhA, a, cap, X, rfl, Le.refl _, ?_, hX, ?_⟩
     all_goals
      rcases rput_cases m dev i x with ⟨h1, _⟩ | ⟨_, _, e⟩ | ⟨_, h1, _⟩
      ·rw [hyes] at h1; cases h1
      ·rw [e]; first | rfl | (show m.step.1.dv = _; rw [m.step_dv]; exact hm)
      ·rw [hst] at h1; cases h1
   ·first
    |(exfalso; exact cnA c24; done)
    |skip
     (try replace c24 := yad c24)
     have hst : m.step.2 = true := by simpa using c24
     have hin : 0 ≤ dev ∧ dev < X.length := by
      have := hyes
      unfold RSt.has at this
      rw [Bool.and_eq_true, decide_eq_true_eq, hm, List.length_map] at this
      exact this.1
     obtain ⟨bw, ow, cw, Tw, Fw, ew, hbw, hsw, atw⟩ := hX.h.at (by omega)
     have hxok := hX.ok _ (getD_mem' (show dev.toNat < X.length by omega))
     have hwl : (X.getD dev.toNat default).d.wait.length ≤ 1000000 := by
      have := hw dev.toNat
      rwa [hm, rdv_at] at this
     refine zau ?_
     refine yab ?_
     refine hK6 _ _ ?_; try clear hK6 K6
     refine zac (fun K9 hK9 => ?_)
     refine zaa ?_
     refine zab (fun K hK r => ?_)
     refine yco ?_
     refine hK _ _ ?_; clear hK K
     refine zab (fun K hK r => ?_)
     refine yap ?_
     refine zae Try.underlying50 rfl hbA ldA ?_
     refine yaf ?_
     refine hK _ _ ?_; clear hK K
     refine zah rfl ?_
     refine zab (fun K hK r => ?_)
     refine yaw ?_
     refine zaK Try.underlying50 sz67 ew ixA ixA ?_
     refine hK _ _ ?_; clear hK K
     refine zab (fun K hK r => ?_)
     refine yap ?_
     refine zaq Try.underlying67 rfl sz67 ((show Le H _ from lhA) _ _ hbw) (by have := Nat.mul_le_mul_right 2 (show dev.toNat + 1 ≤ X.length by omega); omega) ?_
     rw [ext_at RDX.len atw rfl dev.toNat (by omega) hsw]
     refine hK _ _ ?_; clear hK K
     refine zab (fun K hK r => ?_)
     refine ycw ?_
     intro b11 hb11
     try have n11_b4 : b4 ≠ b11 := zaf hbA hb11
     try have n11_b7 : b7 ≠ b11 := zaf hbA hb11
     try have n11_b8 : b8 ≠ b11 := zaf hbA hb11
     have f11_H : H b11 = none := zag lhA hb11
     refine yaf ?_
     refine hK _ _ ?_; clear hK K
     refine zaI rfl (zas) (fun K hK r => ?_)
     refine yaD ?_
     first | refine zak sz67 bdA hbA bdA plA (by decide) ?_ | refine zal sz67 bdA hbA bdA plA (by decide) ?_
     refine yaf ?_
     refine hK _ _ ?_; clear hK K
     refine zad ?_
     refine yab ?_
     refine hK9 _ _ ?_; try clear hK9 K9
     refine zac (fun K10 hK10 => ?_)
     obtain ⟨R7, hR7⟩ : ∃ R : Hp, R = ((emptyHp.upd b11 (.cells (X.getD dev.toNat default).c.toArray 67)).upd b7 (.cells x.c.toArray 30)) := ⟨_, rfl⟩
     refine CW_drawR [4, 0, 1, 2, 0, 1, 0, 4, 2, 0, 3] [1, 2, 0, 3, 4, 5, 6, 7, 8, 9, 10] R7 (by kernel_rfl) (by kernel_rfl) (by subst hR7; exact le_put (le_put (zaN _) hbA) hbA) (fun lR7 => ?_)
     apply zat rfl (zai (by decide)) rfl
     ·intro r
      refine ycx ?_
      exact ⟨rfl, Le.refl _⟩
     refine yaj ?_
     apply zaO rfl (zai (by decide)) rfl
     ·intro r
      refine yba ?_
      refine zae Try.underlying65 rfl hbA ldA ?_
      exact ⟨rfl, Le.refl _⟩
     refine yaj ?_
     refine TW_make rfl (zai (by decide)) rfl (fun K hK r => ?_)
     refine yaT ?_
     refine zaJ (vs := []) Try.underlying65 sz135 zr135 rfl bsA (by first | decide | (simp; done)) ?_
     refine yaU ?_
     intro b31 hb31
     try have n31_b4 : b4 ≠ b31 := zaf hbA hb31
     try have n31_b7 : b7 ≠ b31 := zaf hbA hb31
     try have n31_b8 : b8 ≠ b31 := zaf hbA hb31
     try have n31_b11 : b11 ≠ b31 := zaf hbA hb31
     have f31_H : H b31 = none := zag lhA hb31
     have f31_R7 : R7 b31 = none := zag lhA hb31
     refine yaf ?_
     refine hK _ _ ?_; clear hK K
     refine TW_chain rfl (zai (by decide)) rfl (fun K hK r => ?_)
     refine yaV ?_
     refine Lt_appendNew Try.underlying65 sz135 by135 (by decide) zr135 rfl _ (m := (X.getD dev.toNat default).d.wait.length) (ds := wts (X.getD dev.toNat default).d.wait) hbA (hxok.w.le lhA) (wts_plain _) (by omega) ?_
     intro v34 H34 rs34 hg34 ho34 hr34
     obtain ⟨wa34, wc34, rfl⟩ := ho34.holds.form
     have kb4 := hg34.known b4 _ hbA (fun e => n31_b4 (by cases e; rfl))
     have kb7 := hg34.known b7 _ hbA (fun e => n31_b7 (by cases e; rfl))
     have kb8 := hg34.known b8 _ hbA (fun e => n31_b8 (by cases e; rfl))
     have kb11 := hg34.known b11 _ hbA (fun e => n31_b11 (by cases e; rfl))
     have lR34 : Le R7 H34 := by rw [hR7]; exact le_put (le_put (zaN _) kb11) kb7
     have lH34 : Le H H34 := fun z o hz => hg34.known z o ((show Le H _ from lhA) z o hz) (fun e => by cases e; rw [f31_H] at hz; cases hz)
     have hrn : ∀ r, rs34 = some r → H r = none := fun r e => (hr34 r e).elim (fun h => by rw [h]; exact f31_H) (fun h => zag lhA h)
     have q4 := ho34.neT kb4 (by decide)
     have q7 := ho34.neT kb7 (by decide)
     have q8 := ho34.neT kb8 (by decide)
     have q11 := ho34.neT kb11 (by decide)
     refine hK _ _ leA ?_; clear hK K
     apply zat rfl (zai (by decide)) rfl
     ·intro r
      refine yaI ?_
      exact ⟨rfl, Le.refl _⟩
     refine yaj ?_
     apply zaO rfl (zai (by decide)) rfl
     ·intro r
      refine yba ?_
      refine zax Try.underlying30 rfl sz30 hbA (by simp [x.h]) ?_
      exact ⟨rfl, Le.refl _⟩
     refine yaj ?_
     apply zat rfl (zai (by decide)) rfl
     ·intro r
      simp only [x_build, List.map_toArray, List.map_cons, List.map_nil, eX, ↓reduceIte, Nat.reduceEqDiff]
      rw [bwr_ok]
      exact ⟨rfl, Le.refl _⟩
     refine yaj ?_
     refine TW_make rfl (zai (by decide)) rfl (fun K hK r => ?_)
     refine yaT ?_
     refine zaJ (vs := [.agg (Wt.c ⟨i, x⟩).toArray]) Try.underlying65 sz135 zr135 rfl (fun v hv => by simp at hv; subst hv; show (Wt.c ⟨i, x⟩).toArray.size = 65; simp [Sec.h]) (by first | decide | (simp; done)) ?_
     simp only [List.flatMap_cons, List.flatMap_nil, Value.cells, List.append_nil]
     intro b38 hb38
     refine hK _ _ ?_; clear hK K
     refine TW_chain rfl (zai (by decide)) rfl (fun K hK r => ?_)
     refine yaV ?_
     have q38 : ∀ z o, H34 z = some o → (H34.upd b38 (.cells (Wt.c ⟨i, x⟩).toArray 135)) z = some o := fun z o hz => (zap _ _ (zaf hz hb38)).trans hz
     refine Lt_append Try.underlying65 Try.underlying65 (by simp) sz135 by135 (by decide) zr135 rfl _ (n := (X.getD dev.toNat default).d.wait.length) (m := 1) (ds := Wt.c ⟨i, x⟩) (ho34.make hb38) (fun Kx => len_slice _ _ _ Kx) (fun Kx => first_slice (w := 65) (n := 1) (cs := Wt.c ⟨i, x⟩) (wtr_holds (w := ⟨i, x⟩) (zan _ _ _)) Kx) (by rw [Wt.len]) (Wt.plain _) (by omega) ?_
     intro v39 H39 rs39 hg39 ho39 hr39
     obtain ⟨wa39, wc39, rfl⟩ := ho39.holds.form
     have kc4 := hg39.known b4 _ (q38 _ _ kb4) q4
     have kc7 := hg39.known b7 _ (q38 _ _ kb7) q7
     have kc8 := hg39.known b8 _ (q38 _ _ kb8) q8
     have kc11 := hg39.known b11 _ (q38 _ _ kb11) q11
     have lR39 : Le R7 H39 := by rw [hR7]; exact le_put (le_put (zaN _) kc11) kc7
     have lH39 : Le H H39 := fun z o hz => hg39.known z o (q38 _ _ (lH34 _ _ hz)) (fun e => by rw [hrn z e] at hz; cases hz)
     refine hK _ _ leA ?_; clear hK K
     apply zat rfl (zai (by decide)) rfl
     ·intro r
      refine ycx ?_
      exact ⟨rfl, Le.refl _⟩
     refine yaj ?_
     refine TW_last rfl (zas) rfl (fun K hK r => ?_)
     refine yaD ?_
     refine zaE sz65 hbA bdA plA fzA ?_
     refine yaE ?_
     refine yaf ?_
     refine hK _ _ ?_; clear hK K
     refine TW_nil ?_
     refine yab ?_
     refine hK10 _ _ ?_; try clear hK10 K10
     refine zac (fun K11 hK11 => ?_)
     refine zaa ?_
     refine zab (fun K hK r => ?_)
     refine yap ?_
     first | refine zax Try.underlying52 rfl sz52 hbA bdA ?_ | refine zaq Try.underlying52 rfl sz52 hbA bdA ?_
     refine ybg ?_
     refine yaf ?_
     refine hK _ _ ?_; clear hK K
     refine zah rfl ?_
     refine zab (fun K hK r => ?_)
     refine yap ?_
     first | refine zax Try.underlying67 rfl sz67 hbA bdA ?_ | refine zaq Try.underlying67 rfl sz67 hbA bdA ?_
     refine ybg ?_
     refine yaf ?_
     refine hK _ _ ?_; clear hK K
     refine zab (fun K hK r => ?_)
     simp only [zaF _ bd60, List.map_toArray, List.map_cons, List.map_nil, eX, ↓reduceIte, Nat.reduceEqDiff, Int.reduceToNat]
     have ew : (X.getD dev.toNat default).d.wait.length + 1 = ((X.getD dev.toNat default).d.wait ++ [(⟨i, x⟩ : Wt)]).length := by simp
     have ecs : wts (X.getD dev.toNat default).d.wait ++ Wt.c ⟨i, x⟩ = wts ((X.getD dev.toNat default).d.wait ++ [(⟨i, x⟩ : Wt)]) := by simp [wts]
     simp only [ew] at ho39 ⊢
     rw [ecs] at ho39
     obtain ⟨y, hy⟩ : ∃ y : RDX, y = ⟨(X.getD dev.toNat default).sa, (X.getD dev.toNat default).sc, wa39, wc39, ⟨(X.getD dev.toNat default).d.sec, (X.getD dev.toNat default).d.wait ++ [(⟨i, x⟩ : Wt)]⟩⟩ := ⟨_, rfl⟩
     have z8 := ho39.neT kc8 (by decide)
     have z11 := ho39.neT kc11 (by decide)
     have leS : Le H ((H39.upd b11 (.cells y.c.toArray 67)).del b8) := fun z o hz => (del_ne _ (fun e => by subst e; rw [f8_H] at hz; cases hz)).trans ((zap _ _ (fun e => by subst e; rw [f11_H] at hz; cases hz)).trans (lH39 z o hz))
     have hyok : y.ok ((H39.upd b11 (.cells y.c.toArray 67)).del b8) := by
      refine ⟨?_, ?_⟩
      ·rw [hy]; rw [hy] at leS; exact hxok.s.le leS
      ·have := (ho39.stay (H' := (H39.upd b11 (.cells y.c.toArray 67)).del b8) (fun b o hb ho => (del_ne _ (fun e => z8 (by rw [← e]; exact hb))).trans ((zap _ _ (fun e => z11 (by rw [← e]; exact hb))).trans ho))).holds
       rw [hy] at this ⊢; exact this
     have n811 : b8 ≠ b11 := fun e => by rw [e, kc11] at kc8; injection kc8 with kc8; injection kc8 with _ kc8; revert kc8; decide
     have hcall := CallH.use (rwith_ok _ a cap X (hX.le leS) m.step.1 hl dev hin y hyok) (le_del (H39.upd b11 (.cells y.c.toArray 67)) b8)
     rw [hy] at hcall
     refine hcall.mono ?_
     rw [← hy]
     rintro v44 H44 ⟨G, ⟨a', cap', l44, rfl, hX44⟩, lG, hkeep⟩
     obtain ⟨k8, g8⟩ := hkeep b8 _ ((zap _ _ n811).trans kc8) (by simp [Hp.del])
     refine yaf ?_
     refine hK _ _ ?_; clear hK K
     refine zaI rfl (zas) (fun K hK r => ?_)
     refine yaD ?_
     first | refine zak sz52 bdA hbA bdA plA (by decide) ?_ | refine zal sz52 bdA hbA bdA plA (by decide) ?_
     refine yaf ?_
     refine hK _ _ ?_; clear hK K
     refine zaj rfl ?_
     refine zad ?_
     refine yab ?_
     refine hK11 _ _ ?_; try clear hK11 K11
     refine zaz ?_
     refine yab ?_
     refine ⟨[_, _], ⟨⟨_, rfl, zaC Try.underlying52 rfl sz52 hbA bdA⟩, rfl, trivial⟩, _, Le.refl _, a', cap', X.set dev.toNat y, by simp, zaw (Le.trans (Le.trans leS l44) lG) f8_H, ?_, hX44.le (zaw lG g8), ?_⟩
     all_goals
      rcases rput_cases m dev i x with ⟨h1, _⟩ | ⟨_, h1, _⟩ | ⟨_, _, e⟩
      ·rw [hyes] at h1; cases h1
      ·rw [hst] at h1; cases h1
      ·rw [e]; first | (rw [List.length_set]; rfl) | (show m.dv.set dev.toNat _ = _; rw [show rdv (X.set dev.toNat y) = (rdv X).set dev.toNat y.d from List.map_set, hm, rdv_at, hy])
end Go.Proofs.Ytigofhhonnbkmaa.HL
end
section
namespace Go.Proofs.Ytigofhhonnbkmaa.HL
open Go Go.Proofs
set_option linter.unusedSimpArgs false
set_option linter.unusedVariables false
attribute [local irreducible] Lt Lq CW OW TW CallH
theorem ext_x {L : List Wt} {c : Array Value} {o n : Nat} (h : ∀ j, j < n * 65 → c[o + j]? = (wts L)[j]?) (hn : n = L.length) (i : Nat) (hi : i < L.length) (hs : o + n * 65 ≤ c.size) : c.extract (o + i * 65 + 1) (o + i * 65 + 1 + 64) = (L.getD i default).x.c.toArray := by
  have m1 := Nat.mul_le_mul_right 65 (show i + 1 ≤ n by omega)
  apply Array.ext'
  apply List.ext_getElem?
  intro j
  rw [Array.toList_extract, List.extract_eq_take_drop, List.toList_toArray]
  by_cases hj : j < 64
  · rw [List.getElem?_take_of_lt (by omega), List.getElem?_drop, Array.getElem?_toList]
    have := cell_at Wt.len h hn i hi (j + 1) (by omega)
    rw [show o + i * 65 + 1 + j = o + i * 65 + (j + 1) from by omega, this]
    rfl
  · rw [List.getElem?_eq_none (by simp; omega), List.getElem?_eq_none (by rw [Sec.len]; omega)]
theorem doneL_len (W : List Wt) : ∀ (L : List Sec), (doneL L W).length = L.length := by
  induction W with
  | nil => intro L; rfl
  | cons w r ih => intro L; show (doneL (L.set _ _) r).length = _; rw [ih]; simp
theorem doneL_next (L : List Sec) (W : List Wt) (k : Nat) (hk : k < W.length) : doneL L (W.take (k + 1)) = (doneL L (W.take k)).set (W.getD k default).at_.toNat (W.getD k default).x := by
  unfold doneL
  rw [List.take_add_one, List.getElem?_eq_getElem hk, List.foldl_append]
  simp [List.getD_eq_getElem?_getD, List.getElem?_eq_getElem hk]
theorem OwnS.full {H : Hp} {E : TypeId} {w : Nat} {v : Value} {n : Nat} {cs : List Value} {rs : Option Nat} (h : OwnS H E w v n cs rs) (hn : 0 < n) : ∃ r cap c, v = .slice (some ⟨r, 0, none⟩) n cap ∧ rs = some r ∧ H r = some (.cells c E) ∧ n ≤ cap ∧ c.size = cap * w := by
  obtain ⟨_, ⟨_, h0, _⟩ | ⟨r, cap, c, h1, h2, h3, h4, _, h6⟩⟩ := h
  · omega
  · exact ⟨r, cap, c, h1, h6, h2, h3, h4⟩
theorem ycy {p q : Prop} (h : q) (e : p = q := by simp only [x_builtin, l_len, List.map_toArray, List.map_cons, List.map_nil, i_len_slice _ _ Try.underlying65, eX, ↓reduceIte, Nat.reduceEqDiff, Int.reduceToNat]; exact rfl) : p := e.mpr h
theorem ycz {p q : Prop} (h : q) (e : p = q := by simp only [zao, fa135_0, zaH, Nat.reduceAdd, Nat.zero_add, eX, ↓reduceIte, Nat.reduceEqDiff]; exact rfl) : p := e.mpr h
theorem ycA {p q : Prop} (h : q) (e : p = q := by simp only [zao, fa135_1, zaH, Nat.reduceAdd, Nat.zero_add, eX, ↓reduceIte, Nat.reduceEqDiff]; exact rfl) : p := e.mpr h
set_option maxRecDepth 100000 in
set_option maxHeartbeats 4000000 in
theorem rdone_ok (H : Hp) (a1 : Option Addr) (c1 : Nat) (L : List Sec) (h1 : Holds H 64 (.slice a1 L.length c1) L.length (secs L)) (a2 : Option Addr) (c2 : Nat) (W : List Wt) (h2 : Holds H 65 (.slice a2 W.length c2) W.length (wts W)) (hL : 0 < L.length) (hl : L.length ≤ 5000) (hw : W.length ≤ 1000000) (hin : ∀ k, k < W.length → 0 ≤ (W.getD k default).at_ ∧ (W.getD k default).at_ < L.length) : CallH Try.prog 76 #[.slice a1 L.length c1, .slice a2 W.length c2] H (fun v H' => ∃ rb cap', Le H H' ∧ v = .slice (some ⟨rb, 0, none⟩) L.length cap' ∧ OwnS H' 30 64 (.slice (some ⟨rb, 0, none⟩) L.length cap') L.length (secs (doneL L W)) (some rb)) := by
 refine zam (l := [_, _]) (rl := [.tmp 4]) (n := 29) Try.func76 rfl rfl rfl rfl rfl ?_
 refine yaa ?_
 refine zac (fun K1 hK1 => ?_)
 refine zaa ?_
 refine zaj rfl ?_
 refine zad ?_
 refine yab ?_
 refine hK1 _ _ ?_; try clear hK1 K1
 refine zac (fun K2 hK2 => ?_)
 refine zaa ?_
 refine zab (fun K hK r => ?_)
 refine yaT ?_
 refine zaJ (vs := []) Try.underlying64 sz30 zr30 rfl bsA (by first | decide | (simp; done)) ?_
 refine yaU ?_
 intro b7 hb7
 have f7_H : H b7 = none := zag lhA hb7
 refine yaf ?_
 refine hK _ _ ?_; clear hK K
 refine zah rfl ?_
 refine zab (fun K hK r => ?_)
 refine yaV ?_
 refine Lt_appendNew Try.underlying64 sz30 by30 (by decide) zr30 rfl _ (m := L.length) (ds := secs L) hbA (h1.le lhA) (secs_plain _) (by omega) ?_
 intro v9 H9 rs9 hg9 ho9 hr9
 have lH9 : Le H H9 := fun z o hz => hg9.known z o ((show Le H _ from lhA) z o hz) (fun e => by cases e; rw [f7_H] at hz; cases hz)
 obtain ⟨rb, cap, c9, rfl, rfl, hc9, hn9, hs9⟩ := ho9.full hL
 have hrn : H rb = none := (hr9 rb rfl).elim (fun e => by rw [e]; exact f7_H) (fun e => zag lhA e)
 refine hK _ _ ?_; clear hK K
 refine zaj rfl ?_
 refine zad ?_
 refine yab ?_
 refine hK2 _ _ ?_; try clear hK2 K2
 refine zac (fun K3 hK3 => ?_)
 refine zac (fun K4 hK4 => ?_)
 refine zaa ?_
 refine zaj rfl ?_
 refine zad ?_
 refine yab ?_
 refine hK4 _ _ ?_; try clear hK4 K4
 refine zaB ?_
 refine CW_loop (fun m e H_ => ∃ k : Nat, k ≤ W.length ∧ m = W.length - k ∧ Le H H_ ∧ OwnS H_ 30 64 (.slice (some ⟨rb, 0, none⟩) L.length cap) L.length (secs (doneL L (W.take k))) (some rb) ∧ Env.has [(1, .slice a2 W.length c2), (5, .slice (some ⟨rb, 0, none⟩) L.length cap), (6, .int .i64 k)] e) (W.length) ?_ ?_
 ·skip
  exact ⟨0, by omega, by omega, lH9, ho9, rfl, rfl, rfl, trivial⟩
 intro m_ e_ H_ hI_
 obtain ⟨k, hk, rfl, hlH, hO, he⟩ := hI_
 refine CW_env he.sub ?_; clear he e_
 refine zac (fun K5 hK5 => ?_)
 refine zac (fun K6 hK6 => ?_)
 refine zaa ?_
 refine zah rfl ?_
 refine zah rfl ?_
 refine zab (fun K hK r => ?_)
 refine ycy ?_
 refine hK _ _ ?_; clear hK K
 refine zab (fun K hK r => ?_)
 refine yac ?_
 refine hK _ _ ?_; clear hK K
 refine zad ?_
 refine yab ?_
 refine hK6 _ _ ?_; try clear hK6 K6
 refine zar (fun r => rfl) (fun c13 => ?_) (fun c13 => ?_)
 ·first
  |(exfalso; exact cnA c13; done)
  |skip
   (try replace c13 := yad c13)
   obtain ⟨bw, ow, cw, Tw, Fw, ew, hbw, hsw, atw⟩ := h2.at (by omega)
   have hik := hin k (by omega)
   have m1 := Nat.mul_le_mul_right 65 (show k + 1 ≤ W.length by omega)
   refine zau ?_
   refine yab ?_
   refine hK5 _ _ ?_; try clear hK5 K5
   refine zac (fun K7 hK7 => ?_)
   refine zaB ?_
   obtain ⟨R5, hR5⟩ : ∃ R : Hp, R = emptyHp.upd bw (.cells cw Tw Fw) := ⟨_, rfl⟩
   refine CW_drawR [0, 0, 0, 0, 0, 1, 0, 0, 0, 0, 1, 0, 3] [0, 1, 2, 3, 4, 5, 6, 7, 8, 9, 10, 11, 12] R5 (by kernel_rfl) (by kernel_rfl) (by subst hR5; exact le_put (zaN _) (hlH _ _ hbw)) (fun lR5 => ?_)
   apply zat rfl (zai (by decide)) rfl
   ·intro r
    refine yaI ?_
    exact ⟨rfl, Le.refl _⟩
   refine yaj ?_
   apply zat rfl (zai (by decide)) rfl
   ·intro r
    refine yaI ?_
    exact ⟨rfl, Le.refl _⟩
   refine yaj ?_
   apply zat rfl (zai (by decide)) rfl
   ·intro r
    refine yaI ?_
    exact ⟨rfl, Le.refl _⟩
   refine yaj ?_
   apply zat rfl (zai (by decide)) rfl
   ·intro r
    refine yaL ?_
    refine zaK Try.underlying65 sz135 ew ixA ixA ?_
    refine ybp ?_
    exact ⟨rfl, Le.refl _⟩
   refine yaj ?_
   apply zat rfl (zai (by decide)) rfl
   ·intro r
    refine ycz ?_
    exact ⟨rfl, Le.refl _⟩
   refine yaj ?_
   apply zaO rfl (zai (by decide)) rfl
   ·intro r
    refine yba ?_
    refine zae Try.underlying3 rfl (by rw [hR5]; exact zan _ _ _) (v := .int .i64 (W.getD k default).at_) (by first | exact cell_at Wt.len atw rfl k (by omega) 0 (by decide) | (rw [cell_at Wt.len atw rfl k (by omega) 0 (by decide)]; rfl)) ?_
    exact ⟨rfl, Le.refl _⟩
   refine yaj ?_
   apply zat rfl (zai (by decide)) rfl
   ·intro r
    refine yaI ?_
    exact ⟨rfl, Le.refl _⟩
   refine yaj ?_
   apply zat rfl (zai (by decide)) rfl
   ·intro r
    refine yaI ?_
    exact ⟨rfl, Le.refl _⟩
   refine yaj ?_
   apply zat rfl (zai (by decide)) rfl
   ·intro r
    refine yaL ?_
    refine zaK Try.underlying65 sz135 ew ixA ixA ?_
    refine ybp ?_
    exact ⟨rfl, Le.refl _⟩
   refine yaj ?_
   apply zat rfl (zai (by decide)) rfl
   ·intro r
    refine ycA ?_
    exact ⟨rfl, Le.refl _⟩
   refine yaj ?_
   apply zaO rfl (zai (by decide)) rfl
   ·intro r
    refine yba ?_
    refine zaq Try.underlying30 rfl sz30 (by rw [hR5]; exact zan _ _ _) (by omega) ?_
    rw [ext_x atw rfl k (by omega) hsw]
    exact ⟨rfl, Le.refl _⟩
   refine yaj ?_
   apply zat rfl (zai (by decide)) rfl
   ·intro r
    refine yaL ?_
    refine zaK Try.underlying64 sz30 rfl ixA ixA ?_
    simp only [Nat.zero_add]
    exact ⟨rfl, Le.refl _⟩
   refine yaj ?_
   refine TW_last rfl (zas) rfl (fun K hK r => ?_)
   refine yaD ?_
   obtain ⟨r_, cap_, cr, e1, e2, hcr, hnr, hsr⟩ := hO.full hL
   cases e1
   have m2 := Nat.mul_le_mul_right 64 (show (W.getD k default).at_.toNat + 1 ≤ cap by omega)
   refine zal sz30 (by simp [Sec.h]) hcr (by rw [hsr, List.size_toArray, Sec.len]; omega) (PlainL.ints _ _) (by decide) ?_
   have hO' := OwnS.row Sec.len hO hcr (doneL_len _ _).symm (i := (W.getD k default).at_.toNat) (by omega) (W.getD k default).x
   rw [← doneL_next L W k (by omega)] at hO'
   refine hK _ _ ?_; clear hK K
   refine TW_nil ?_
   refine yab ?_
   refine hK7 _ _ ?_; try clear hK7 K7
   refine zaa ?_
   refine zah rfl ?_
   refine zab (fun K hK r => ?_)
   refine yaq ?_
   refine hK _ _ ?_; clear hK K
   refine zaj rfl ?_
   refine zad ?_
   refine yab ?_
   exact ⟨W.length - (k + 1), by omega, k + 1, by omega, rfl, zaw hlH hrn, hO', rfl, rfl, rfl, trivial⟩
 ·first
  |(exfalso; exact cnA c13; done)
  |skip
   (try replace c13 := yad c13)
   have hkn : k = W.length := by omega
   refine CW_exit ?_
   refine yab ?_
   refine hK3 _ _ ?_; try clear hK3 K3
   refine zac (fun K8 hK8 => ?_)
   refine zaa ?_
   refine zah rfl ?_
   refine zaj rfl ?_
   refine zad ?_
   refine yab ?_
   refine hK8 _ _ ?_; try clear hK8 K8
   refine zaz ?_
   refine yab ?_
   refine ⟨[_], ⟨rfl, trivial⟩, _, Le.refl _, rb, cap, hlH, rfl, ?_⟩
   have := hO
   rw [hkn, List.take_of_length_le (Nat.le_refl _)] at this
   exact this
end Go.Proofs.Ytigofhhonnbkmaa.HL
end
section
namespace Go.Proofs.Ytigofhhonnbkmaa.HL
open Go Go.Proofs
set_option linter.unusedSimpArgs false
set_option linter.unusedVariables false
attribute [local irreducible] Lt Lq CW OW TW CallH
theorem rfl_cases (m : RSt) (dev : Int) : (¬ (0 ≤ dev ∧ dev < m.dv.length) ∧ m.fl dev = (m, 1)) ∨ ((0 ≤ dev ∧ dev < m.dv.length) ∧ m.step.2 = false ∧ m.fl dev = (m.step.1, 3)) ∨ ((0 ≤ dev ∧ dev < m.dv.length) ∧ m.step.2 = true ∧ m.fl dev = ({ m.step.1 with dv := m.dv.set dev.toNat ⟨doneL (m.dv.getD dev.toNat default).sec (m.dv.getD dev.toNat default).wait, []⟩ }, 0)) := by
  unfold RSt.fl
  by_cases h : 0 ≤ dev ∧ dev < m.dv.length
  · rw [if_pos h]
    have hd := m.step_dv
    generalize hq : m.step = q at *
    obtain ⟨t, b⟩ := q
    cases b with
    | true => exact .inr (.inr ⟨h, rfl, by simp only at hd; rw [← hd]⟩)
    | false => exact .inr (.inl ⟨h, rfl, rfl⟩)
  · rw [if_neg h]; exact .inl ⟨h, rfl⟩
structure RG (n : Nat) (d : RDv) : Prop where
  lo : 0 < d.sec.length
  hi : d.sec.length ≤ 5000
  w : d.wait.length ≤ n
  at_ : ∀ k, k < d.wait.length → 0 ≤ (d.wait.getD k default).at_ ∧ (d.wait.getD k default).at_ < d.sec.length
set_option maxRecDepth 100000 in
set_option maxHeartbeats 8000000 in
theorem rflush_ok (H : Hp) (a : Option Addr) (cap : Nat) (X : List RDX) (hX : RX H a cap X) (m : RSt) (hm : m.dv = rdv X) (hl : X.length ≤ 5) (n : Nat) (hn : n ≤ 1000000) (hg : ∀ i, i < X.length → RG n (X.getD i default).d) (dev : Int) : CallH Try.prog 54 #[m.v (.slice a X.length cap), .int .i64 dev] H (fun v H' => ∃ a' cap' X', X'.length = X.length ∧ Le H H' ∧ v = .tuple #[(m.fl dev).1.v (.slice a' X'.length cap'), .int .i64 (m.fl dev).2] ∧ RX H' a' cap' X' ∧ (m.fl dev).1.dv = rdv X') := by
 refine zam (l := [_, _]) (rl := [.cell 4 52, .tmp 5]) (n := 40) Try.func54 rfl rfl rfl rfl rfl ?_
 refine yaa ?_
 have hlen : m.dv.length = X.length := by rw [hm]; simp
 refine zac (fun K1 hK1 => ?_)
 refine zaa ?_
 refine zab (fun K hK r => ?_)
 refine yaW ?_
 intro b2 hb2
 have f2_H : H b2 = none := zag lhA hb2
 refine yaf ?_
 refine hK _ _ ?_; clear hK K
 refine zab (fun K hK r => ?_)
 refine ycs ?_
 intro b4 hb4
 try have n4_b2 : b2 ≠ b4 := zaf hbA hb4
 have f4_H : H b4 = none := zag lhA hb4
 refine yaf ?_
 refine hK _ _ ?_; clear hK K
 refine zaj rfl ?_
 refine zad ?_
 refine yab ?_
 refine hK1 _ _ ?_; try clear hK1 K1
 refine zac (fun K2 hK2 => ?_)
 refine zac (fun K3 hK3 => ?_)
 refine zaa ?_
 refine zah rfl ?_
 refine zab (fun K hK r => ?_)
 refine yac ?_
 refine hK _ _ ?_; clear hK K
 refine zah rfl ?_
 (first | refine zaA (d := 10) rfl (fun g10 => ?_) (fun g10 => ?_) | skip)
 all_goals try (exfalso; exact cnA g10)
 all_goals (try replace g10 := yad g10)
 all_goals
  refine yaf ?_
  first
  |refine yGT (fun K hK r => ?_)
   refine yai ?_
   refine hK _ _ ?_; clear hK K
  |refine yGF ?_
   refine yaj ?_
  first
  |refine yGT (fun K hK r => ?_)
   refine yco ?_
   refine hK _ _ ?_; clear hK K
  |refine yGF ?_
   refine yaj ?_
  first
  |refine yGT (fun K hK r => ?_)
   refine yap ?_
   refine zae Try.underlying50 rfl hbA ldA ?_
   refine yaf ?_
   refine hK _ _ ?_; clear hK K
  |refine yGF ?_
   refine yaj ?_
  first
  |refine yGT (fun K hK r => ?_)
   refine ycp ?_
   refine hK _ _ ?_; clear hK K
  |refine yGF ?_
   refine yaj ?_
  first
  |refine yGT (fun K hK r => ?_)
   refine yav ?_
   refine hK _ _ ?_; clear hK K
  |refine yGF ?_
   refine yaj ?_
  refine zab (fun K hK r => ?_)
  refine yal ?_
  refine hK _ _ ?_; clear hK K
  refine zad ?_
  refine yab ?_
  refine hK3 _ _ ?_; try clear hK3 K3
  refine zar (fun r => rfl) (fun c16 => ?_) (fun c16 => ?_)
  ·first
   |(exfalso; exact cnA c16; done)
   |skip
    (try replace c16 := yad c16)
    have hno : ¬ (0 ≤ dev ∧ dev < m.dv.length) := by omega
    refine zac (fun K4 hK4 => ?_)
    refine zaa ?_
    refine zab (fun K hK r => ?_)
    refine yap ?_
    first | refine zax Try.underlying52 rfl sz52 hbA bdA ?_ | refine zaq Try.underlying52 rfl sz52 hbA bdA ?_
    refine ybg ?_
    refine yaf ?_
    refine hK _ _ ?_; clear hK K
    refine zaI rfl (zas) (fun K hK r => ?_)
    refine yaD ?_
    first | refine zak sz52 bdA hbA bdA plA (by decide) ?_ | refine zal sz52 bdA hbA bdA plA (by decide) ?_
    refine yaf ?_
    refine hK _ _ ?_; clear hK K
    refine zaj rfl ?_
    refine zad ?_
    refine yab ?_
    refine hK4 _ _ ?_; try clear hK4 K4
    refine zaz ?_
    refine yab ?_
    refine ⟨[_, _], ⟨⟨_, rfl, zaC Try.underlying52 rfl sz52 hbA bdA⟩, rfl, trivial⟩, H, lhA, a, cap, X, rfl, Le.refl _, ?_, hX, ?_⟩
    all_goals
     rcases rfl_cases m dev with ⟨_, e⟩ | ⟨h1, _⟩ | ⟨h1, _⟩
     ·rw [e]; first | rfl | exact hm
     ·exact absurd h1 hno
     ·exact absurd h1 hno
  ·first
   |(exfalso; exact cnA c16; done)
   |skip
    (try replace c16 := yad c16)
    have hin : 0 ≤ dev ∧ dev < X.length := by omega
    refine zau ?_
    refine yab ?_
    refine hK2 _ _ ?_; try clear hK2 K2
    refine zac (fun K5 hK5 => ?_)
    refine zaa ?_
    refine zab (fun K hK r => ?_)
    refine yap ?_
    first | refine zax Try.underlying52 rfl sz52 hbA bdA ?_ | refine zaq Try.underlying52 rfl sz52 hbA bdA ?_
    refine ybg ?_
    refine yaf ?_
    refine hK _ _ ?_; clear hK K
    refine zab (fun K hK r => ?_)
    simp only [zaF _ bd59, List.map_toArray, List.map_cons, List.map_nil, eX, ↓reduceIte, Nat.reduceEqDiff, Int.reduceToNat]
    refine (rstep_ok _ _ rfl m).mono ?_
    rintro v H' ⟨rfl, rfl⟩
    refine yaf ?_
    refine hK _ _ ?_; clear hK K
    refine zah rfl ?_
    refine zab (fun K hK r => ?_)
    refine yah ?_
    refine hK _ _ ?_; clear hK K
    refine zab (fun K hK r => ?_)
    refine yah ?_
    refine hK _ _ ?_; clear hK K
    refine zaI rfl (zas) (fun K hK r => ?_)
    refine yaD ?_
    first | refine zak sz52 bdA hbA bdA plA (by decide) ?_ | refine zal sz52 bdA hbA bdA plA (by decide) ?_
    refine yaf ?_
    refine hK _ _ ?_; clear hK K
    refine zaj rfl ?_
    refine zad ?_
    refine yab ?_
    refine hK5 _ _ ?_; try clear hK5 K5
    refine zac (fun K6 hK6 => ?_)
    refine zac (fun K7 hK7 => ?_)
    refine zaa ?_
    refine zah rfl ?_
    refine zab (fun K hK r => ?_)
    refine yam ?_
    refine hK _ _ ?_; clear hK K
    refine zad ?_
    refine yab ?_
    refine hK7 _ _ ?_; try clear hK7 K7
    refine zar (fun r => rfl) (fun c24 => ?_) (fun c24 => ?_)
    ·first
     |(exfalso; exact cnA c24; done)
     |skip
      (try replace c24 := yad c24)
      have hst : m.step.2 = false := by simpa using c24
      refine zac (fun K8 hK8 => ?_)
      refine zaa ?_
      refine zab (fun K hK r => ?_)
      refine yap ?_
      first | refine zax Try.underlying52 rfl sz52 hbA bdA ?_ | refine zaq Try.underlying52 rfl sz52 hbA bdA ?_
      refine ybg ?_
      refine yaf ?_
      refine hK _ _ ?_; clear hK K
      refine zaI rfl (zas) (fun K hK r => ?_)
      refine yaD ?_
      first | refine zak sz52 bdA hbA bdA plA (by decide) ?_ | refine zal sz52 bdA hbA bdA plA (by decide) ?_
      refine yaf ?_
      refine hK _ _ ?_; clear hK K
      refine zaj rfl ?_
      refine zad ?_
      refine yab ?_
      refine hK8 _ _ ?_; try clear hK8 K8
      refine zaz ?_
      refine yab ?_
      refine ⟨[_, _], ⟨⟨_, rfl, zaC Try.underlying52 rfl sz52 hbA bdA⟩, rfl, trivial⟩, H, lhA, a, cap, X, rfl, Le.refl _, ?_, hX, ?_⟩
      all_goals
       rcases rfl_cases m dev with ⟨h1, _⟩ | ⟨_, _, e⟩ | ⟨_, h1, _⟩
       ·exact absurd (by rw [hlen]; exact hin) h1
       ·rw [e]; first | rfl | (show m.step.1.dv = _; rw [m.step_dv]; exact hm)
       ·rw [hst] at h1; cases h1
    ·first
     |(exfalso; exact cnA c24; done)
     |skip
      (try replace c24 := yad c24)
      have hst : m.step.2 = true := by simpa using c24
      obtain ⟨bw, ow, cw, Tw, Fw, ew, hbw, hsw, atw⟩ := hX.h.at (by omega)
      have hxok := hX.ok _ (getD_mem' (show dev.toNat < X.length by omega))
      refine zau ?_
      refine yab ?_
      refine hK6 _ _ ?_; try clear hK6 K6
      refine zac (fun K9 hK9 => ?_)
      refine zaa ?_
      refine zab (fun K hK r => ?_)
      refine yco ?_
      refine hK _ _ ?_; clear hK K
      refine zab (fun K hK r => ?_)
      refine yap ?_
      refine zae Try.underlying50 rfl hbA ldA ?_
      refine yaf ?_
      refine hK _ _ ?_; clear hK K
      refine zah rfl ?_
      refine zab (fun K hK r => ?_)
      refine yaw ?_
      refine zaK Try.underlying50 sz67 ew ixA ixA ?_
      refine hK _ _ ?_; clear hK K
      refine zab (fun K hK r => ?_)
      refine yap ?_
      refine zaq Try.underlying67 rfl sz67 ((show Le H _ from lhA) _ _ hbw) (by have := Nat.mul_le_mul_right 2 (show dev.toNat + 1 ≤ X.length by omega); omega) ?_
      rw [ext_at RDX.len atw rfl dev.toNat (by omega) hsw]
      refine hK _ _ ?_; clear hK K
      refine zab (fun K hK r => ?_)
      refine ycw ?_
      intro b7 hb7
      try have n7_b2 : b2 ≠ b7 := zaf hbA hb7
      try have n7_b4 : b4 ≠ b7 := zaf hbA hb7
      have f7_H : H b7 = none := zag lhA hb7
      refine yaf ?_
      refine hK _ _ ?_; clear hK K
      refine zaI rfl (zas) (fun K hK r => ?_)
      refine yaD ?_
      first | refine zak sz67 bdA hbA bdA plA (by decide) ?_ | refine zal sz67 bdA hbA bdA plA (by decide) ?_
      refine yaf ?_
      refine hK _ _ ?_; clear hK K
      refine zad ?_
      refine yab ?_
      refine hK9 _ _ ?_; try clear hK9 K9
      refine zac (fun K10 hK10 => ?_)
      refine CW_drawE [1, 0, 0, 1, 0, 1, 2, 0, 2, 3, 0] [0, 1, 2, 3, 4, 5, 6, 7, 8, 9, 10] (by kernel_rfl) (by kernel_rfl) (fun R7 hR7 => ?_)
      apply zaO rfl (zai (by decide)) rfl
      ·intro r
       refine yba ?_
       first | refine zax Try.underlying52 rfl sz52 hbA bdA ?_ | refine zaq Try.underlying52 rfl sz52 hbA bdA ?_
       refine ybg ?_
       exact ⟨rfl, Le.refl _⟩
      refine yaj ?_
      apply zat rfl (zai (by decide)) rfl
      ·intro r
       refine yaI ?_
       exact ⟨rfl, Le.refl _⟩
      refine yaj ?_
      apply zat rfl (zai (by decide)) rfl
      ·intro r
       simp only [zao, fa67_0, zaH, Nat.reduceAdd, Nat.zero_add, eX, ↓reduceIte, Nat.reduceEqDiff]
       exact ⟨rfl, Le.refl _⟩
      refine yaj ?_
      apply zaO rfl (zai (by decide)) rfl
      ·intro r
       refine yba ?_
       refine zae Try.underlying64 rfl hbA ldA ?_
       exact ⟨rfl, Le.refl _⟩
      refine yaj ?_
      apply zat rfl (zai (by decide)) rfl
      ·intro r
       refine ycx ?_
       exact ⟨rfl, Le.refl _⟩
      refine yaj ?_
      apply zaO rfl (zai (by decide)) rfl
      ·intro r
       refine yba ?_
       refine zae Try.underlying65 rfl hbA ldA ?_
       exact ⟨rfl, Le.refl _⟩
      refine yaj ?_
      refine TW_chain rfl (zai (by decide)) rfl (fun K hK r => ?_)
      simp only [zaF _ bd76, List.map_toArray, List.map_cons, List.map_nil, eX, ↓reduceIte, Nat.reduceEqDiff, Int.reduceToNat]
      have hgx := hg dev.toNat (by omega)
      refine (rdone_ok _ (X.getD dev.toNat default).sa (X.getD dev.toNat default).sc (X.getD dev.toNat default).d.sec (hxok.s.le lhA) (X.getD dev.toNat default).wa (X.getD dev.toNat default).wc (X.getD dev.toNat default).d.wait (hxok.w.le lhA) hgx.lo hgx.hi (Nat.le_trans hgx.w hn) hgx.at_).mono ?_
      rintro v37 H37 ⟨rb, sc', l37, rfl, ho37⟩
      have lR37 : Le R7 H37 := by rw [hR7]; exact l37
      have lH37 : Le H H37 := Le.trans lhA l37
      have kc4 := l37 b4 _ hbA
      refine yaf ?_
      refine hK _ _ leA ?_; clear hK K
      apply zat rfl (zai (by decide)) rfl
      ·intro r
       simp only [x_build, bp67, List.map_toArray, List.map_cons, List.map_nil, eX, ↓reduceIte, Nat.reduceEqDiff]
       rw [fill_one rfl clA bdA]
       refine ybe ?_
       exact ⟨rfl, Le.refl _⟩
      refine yaj ?_
      refine TW_chain rfl (zai (by decide)) rfl (fun K hK r => ?_)
      simp only [zaF _ bd60, List.map_toArray, List.map_cons, List.map_nil, eX, ↓reduceIte, Nat.reduceEqDiff, Int.reduceToNat]
      obtain ⟨y, hy⟩ : ∃ y : RDX, y = ⟨some ⟨rb, 0, none⟩, sc', none, 0, ⟨doneL (X.getD dev.toNat default).d.sec (X.getD dev.toNat default).d.wait, []⟩⟩ := ⟨_, rfl⟩
      have z4 := ho37.neT kc4 (by decide)
      have leS : Le H (H37.del b4) := fun z o hz => (del_ne _ (fun e => by subst e; rw [f4_H] at hz; cases hz)).trans (lH37 z o hz)
      have hyok : y.ok (H37.del b4) := by
       rw [hy]
       refine ⟨?_, ⟨rfl, .inl ⟨none, 0, rfl, rfl⟩⟩⟩
       have := (ho37.stay (H' := H37.del b4) (fun b o hb ho => (del_ne _ (fun e => z4 (by rw [← e]; exact hb))).trans ho)).holds
       rw [← doneL_len (X.getD dev.toNat default).d.wait (X.getD dev.toNat default).d.sec] at this
       exact this
      have hcall := CallH.use (rwith_ok _ a cap X (hX.le leS) m.step.1 hl dev hin y hyok) (le_del H37 b4)
      have eyc : y.c = [.slice (some ⟨rb, 0, none⟩) (X.getD dev.toNat default).d.sec.length sc', .slice none 0 0] := by rw [hy]; simp only [RDX.c, doneL_len, List.length_nil]
      rw [eyc] at hcall
      refine hcall.mono ?_
      rintro v39 H39 ⟨G, ⟨a', cap', l39, rfl, hX39⟩, lG, hkeep⟩
      obtain ⟨k4, g4⟩ := hkeep b4 _ kc4 (by simp [Hp.del])
      have lK39 : Le H37 H39 := fun z o hz => by
       by_cases e : z = b4
       ·subst e; rw [kc4] at hz; cases hz; exact k4
       ·exact lG _ _ (l39 _ _ ((del_ne _ e).trans hz))
      have lR39 : Le R7 H39 := Le.trans lR37 lK39
      refine yaf ?_
      refine hK _ _ leA ?_; clear hK K
      refine TW_last rfl (zas) rfl (fun K hK r => ?_)
      refine yaD ?_
      first | refine zak sz52 bdA hbA bdA plA (by decide) ?_ | refine zal sz52 bdA hbA bdA plA (by decide) ?_
      refine yaf ?_
      refine hK _ _ ?_; clear hK K
      apply zat rfl (zai (by decide)) rfl
      ·intro r
       simp only [x_assign, eX, ↓reduceIte, Nat.reduceEqDiff]
       exact ⟨rfl, Le.refl _⟩
      refine yaj ?_
      refine TW_nil ?_
      refine yab ?_
      refine hK10 _ _ ?_; try clear hK10 K10
      refine zaz ?_
      refine yab ?_
      refine ⟨[_, _], ⟨⟨_, rfl, zaC Try.underlying52 rfl sz52 hbA bdA⟩, rfl, trivial⟩, _, Le.refl _, a', cap', X.set dev.toNat y, by simp, zaw (Le.trans (Le.trans leS l39) lG) f4_H, ?_, hX39.le (zaw lG g4), ?_⟩
      all_goals
       rcases rfl_cases m dev with ⟨h1, _⟩ | ⟨_, h1, _⟩ | ⟨_, _, e⟩
       ·exact absurd (by rw [hlen]; exact hin) h1
       ·rw [hst] at h1; cases h1
       ·rw [e]; first | (rw [List.length_set]; rfl) | (show m.dv.set dev.toNat _ = _; rw [show rdv (X.set dev.toNat y) = (rdv X).set dev.toNat y.d from List.map_set, hm, rdv_at, hy])
end Go.Proofs.Ytigofhhonnbkmaa.HL
end
section
namespace Go.Proofs.Ytigofhhonnbkmaa.HL
open Go Go.Proofs
set_option linter.unusedSimpArgs false
set_option linter.unusedVariables false
attribute [local irreducible] Lt Lq CW OW TW CallH
theorem ycB {p q : Prop} (h : q) (e : p = q := by simp only [zao, fa67_1, zaH, Nat.reduceAdd, Nat.zero_add, eX, ↓reduceIte, Nat.reduceEqDiff, Int.reduceToNat]; exact rfl) : p := e.mpr h
set_option maxRecDepth 100000 in
set_option maxHeartbeats 8000000 in
theorem rread_ok (H : Hp) (a : Option Addr) (cap : Nat) (X : List RDX) (hX : RX H a cap X) (m : RSt) (hm : m.dv = rdv X) (hl : X.length ≤ 5) (n : Nat) (hn : n ≤ 1000000) (hg : ∀ i, i < X.length → RG n (X.getD i default).d) (dev i : Int) : CallH Try.prog 66 #[m.v (.slice a X.length cap), .int .i64 dev, .int .i64 i] H (fun v H' => v = .tuple #[(m.rd dev i).1.v, .int .i64 (m.rd dev i).2] ∧ H' = H) := by
 refine zam (l := [_, _, _]) (rl := [.cell 6 30, .tmp 7]) (n := 51) Try.func66 rfl rfl rfl rfl rfl ?_
 refine yaa ?_
 refine zac (fun K1 hK1 => ?_)
 refine zaa ?_
 refine zab (fun K hK r => ?_)
 refine yaW ?_
 intro b3 hb3
 have f3_H : H b3 = none := zag lhA hb3
 refine yaf ?_
 refine hK _ _ ?_; clear hK K
 refine zab (fun K hK r => ?_)
 refine yaX ?_
 intro b6 hb6
 try have n6_b3 : b3 ≠ b6 := zaf hbA hb6
 have f6_H : H b6 = none := zag lhA hb6
 refine yaf ?_
 refine hK _ _ ?_; clear hK K
 refine zaj rfl ?_
 refine zad ?_
 refine yab ?_
 refine hK1 _ _ ?_; try clear hK1 K1
 refine zac (fun K2 hK2 => ?_)
 refine zac (fun K3 hK3 => ?_)
 refine zaa ?_
 refine zab (fun K hK r => ?_)
 refine yct ?_
 refine hK _ _ ?_; clear hK K
 refine zab (fun K hK r => ?_)
 refine yap ?_
 refine zae Try.underlying4 rfl hbA ldA ?_
 refine yaf ?_
 refine hK _ _ ?_; clear hK K
 refine zad ?_
 refine yab ?_
 refine hK3 _ _ ?_; try clear hK3 K3
 refine zar (fun r => rfl) (fun c11 => ?_) (fun c11 => ?_)
 ·first
  |(exfalso; exact cnA c11; done)
  |skip
   have hgo : m.gone = true := c11
   refine zac (fun K4 hK4 => ?_)
   refine zaa ?_
   refine zab (fun K hK r => ?_)
   refine ybB ?_
   rw [l_buildArr Try.underlying30 sz5 zr30]
   simp only [Value.cells]
   refine ybe ?_
   refine yaf ?_
   refine hK _ _ ?_; clear hK K
   refine zaI rfl (zas) (fun K hK r => ?_)
   refine yaD ?_
   first | refine zak sz30 bdA hbA bdA plA (by decide) ?_ | refine zal sz30 bdA hbA bdA plA (by decide) ?_
   refine yaf ?_
   refine hK _ _ ?_; clear hK K
   refine zaj rfl ?_
   refine zad ?_
   refine yab ?_
   refine hK4 _ _ ?_; try clear hK4 K4
   refine zaz ?_
   refine yab ?_
   refine ⟨[_, _], ⟨⟨_, rfl, zaC Try.underlying30 rfl sz30 hbA (by simp [Sec.h])⟩, rfl, trivial⟩, H, lhA, ?_, rfl⟩
   show Value.tuple _ = _
   unfold RSt.rd; rw [if_pos hgo]; rfl
 ·first
  |(exfalso; exact cnA c11; done)
  |skip
   have hgo : m.gone = false := by simpa using c11
   refine zau ?_
   refine yab ?_
   refine hK2 _ _ ?_; try clear hK2 K2
   refine zac (fun K5 hK5 => ?_)
   refine zac (fun K6 hK6 => ?_)
   refine zaa ?_
   refine zab (fun K hK r => ?_)
   refine yap ?_
   first | refine zax Try.underlying52 rfl sz52 hbA bdA ?_ | refine zaq Try.underlying52 rfl sz52 hbA bdA ?_
   refine ybg ?_
   refine yaf ?_
   refine hK _ _ ?_; clear hK K
   refine zah rfl ?_
   refine zah rfl ?_
   refine zab (fun K hK r => ?_)
   simp only [zaF _ bd58, List.map_toArray, List.map_cons, List.map_nil, eX, ↓reduceIte, Nat.reduceEqDiff, Int.reduceToNat]
   refine (rhas_ok _ a cap X (hX.le lhA) m hm dev i).mono ?_
   rintro v H' ⟨rfl, rfl⟩
   refine yaf ?_
   refine hK _ _ ?_; clear hK K
   refine zab (fun K hK r => ?_)
   refine yam ?_
   refine hK _ _ ?_; clear hK K
   refine zad ?_
   refine yab ?_
   refine hK6 _ _ ?_; try clear hK6 K6
   refine zar (fun r => rfl) (fun c17 => ?_) (fun c17 => ?_)
   ·first
    |(exfalso; exact cnA c17; done)
    |skip
     (try replace c17 := yad c17)
     have hno : m.has dev i = false := by simpa using c17
     refine zac (fun K7 hK7 => ?_)
     refine zaa ?_
     refine zab (fun K hK r => ?_)
     refine ybB ?_
     rw [l_buildArr Try.underlying30 sz5 zr30]
     simp only [Value.cells]
     refine ybe ?_
     refine yaf ?_
     refine hK _ _ ?_; clear hK K
     refine zaI rfl (zas) (fun K hK r => ?_)
     refine yaD ?_
     first | refine zak sz30 bdA hbA bdA plA (by decide) ?_ | refine zal sz30 bdA hbA bdA plA (by decide) ?_
     refine yaf ?_
     refine hK _ _ ?_; clear hK K
     refine zaj rfl ?_
     refine zad ?_
     refine yab ?_
     refine hK7 _ _ ?_; try clear hK7 K7
     refine zaz ?_
     refine yab ?_
     refine ⟨[_, _], ⟨⟨_, rfl, zaC Try.underlying30 rfl sz30 hbA (by simp [Sec.h])⟩, rfl, trivial⟩, H, lhA, ?_, rfl⟩
     show Value.tuple _ = _
     unfold RSt.rd; rw [if_neg (by rw [hgo]; simp), if_neg (by rw [hno]; simp)]; rfl
   ·first
    |(exfalso; exact cnA c17; done)
    |skip
     (try replace c17 := yad c17)
     have hyes : m.has dev i = true := by simpa using c17
     have hin : (0 ≤ dev ∧ dev < X.length) ∧ (0 ≤ i ∧ i < (X.getD dev.toNat default).d.sec.length) := by
      have := hyes
      unfold RSt.has at this
      rw [Bool.and_eq_true, decide_eq_true_eq, decide_eq_true_eq, hm, rdv_at, List.length_map] at this
      exact this
     have hrd : m.rd dev i = ((lastW (X.getD dev.toNat default).d.wait i).getD ((X.getD dev.toNat default).d.sec.getD i.toNat default), 0) := by
      unfold RSt.rd; rw [if_neg (by rw [hgo]; simp), if_pos hyes, hm, rdv_at]
     obtain ⟨bw, ow, cw, Tw, Fw, ew, hbw, hsw, atw⟩ := hX.h.at (by omega)
     have hxok := hX.ok _ (getD_mem' (show dev.toNat < X.length by omega))
     have hgx := hg dev.toNat (by omega)
     have hwl := Nat.le_trans hgx.w hn
     obtain ⟨bs, os, cs, Ts, Fs, es, hbs, hss, ats⟩ := hxok.s.at hgx.lo
     have m1 := Nat.mul_le_mul_right 64 (show i.toNat + 1 ≤ (X.getD dev.toNat default).d.sec.length by omega)
     refine zau ?_
     refine yab ?_
     refine hK5 _ _ ?_; try clear hK5 K5
     refine zac (fun K8 hK8 => ?_)
     refine zaa ?_
     refine zab (fun K hK r => ?_)
     refine yco ?_
     refine hK _ _ ?_; clear hK K
     refine zab (fun K hK r => ?_)
     refine yap ?_
     refine zae Try.underlying50 rfl hbA ldA ?_
     refine yaf ?_
     refine hK _ _ ?_; clear hK K
     refine zah rfl ?_
     refine zab (fun K hK r => ?_)
     refine yaw ?_
     refine zaK Try.underlying50 sz67 ew ixA ixA ?_
     refine hK _ _ ?_; clear hK K
     refine zab (fun K hK r => ?_)
     refine yap ?_
     refine zaq Try.underlying67 rfl sz67 ((show Le H _ from lhA) _ _ hbw) (by have := Nat.mul_le_mul_right 2 (show dev.toNat + 1 ≤ X.length by omega); omega) ?_
     rw [ext_at RDX.len atw rfl dev.toNat (by omega) hsw]
     refine hK _ _ ?_; clear hK K
     refine zab (fun K hK r => ?_)
     refine ycw ?_
     intro b8 hb8
     try have n8_b3 : b3 ≠ b8 := zaf hbA hb8
     try have n8_b6 : b6 ≠ b8 := zaf hbA hb8
     have f8_H : H b8 = none := zag lhA hb8
     refine yaf ?_
     refine hK _ _ ?_; clear hK K
     refine zaI rfl (zas) (fun K hK r => ?_)
     refine yaD ?_
     first | refine zak sz67 bdA hbA bdA plA (by decide) ?_ | refine zal sz67 bdA hbA bdA plA (by decide) ?_
     refine yaf ?_
     refine hK _ _ ?_; clear hK K
     refine zad ?_
     refine yab ?_
     refine hK8 _ _ ?_; try clear hK8 K8
     refine zac (fun K9 hK9 => ?_)
     refine zac (fun K10 hK10 => ?_)
     refine zaa ?_
     refine zab (fun K hK r => ?_)
     refine ycB ?_
     refine hK _ _ ?_; clear hK K
     refine zab (fun K hK r => ?_)
     refine yap ?_
     refine zae Try.underlying65 rfl hbA ldA ?_
     refine yaf ?_
     refine hK _ _ ?_; clear hK K
     refine zab (fun K hK r => ?_)
     refine ycy ?_
     refine hK _ _ ?_; clear hK K
     refine zab (fun K hK r => ?_)
     refine yaG ?_
     refine hK _ _ ?_; clear hK K
     refine zaj rfl ?_
     refine zad ?_
     refine yab ?_
     refine hK10 _ _ ?_; try clear hK10 K10
     refine zaB ?_
     refine CW_loop (fun m_ e H_ => ∃ k : Nat, k ≤ (X.getD dev.toNat default).d.wait.length ∧ m_ = (X.getD dev.toNat default).d.wait.length - k ∧ (∀ t, t < k → ((X.getD dev.toNat default).d.wait.getD ((X.getD dev.toNat default).d.wait.length - 1 - t) default).at_ ≠ i) ∧ H_ = (((H.upd b3 (.cells (m.c (.slice a X.length cap)).toArray 52)).upd b6 (.cells (Array.replicate 64 (.int .u8 0)) 30)).upd b8 (.cells (X.getD dev.toNat default).c.toArray 67)) ∧ Env.has [(2, .int .i64 i), (3, .pointer (some ⟨b3, 0, none⟩)), (6, .pointer (some ⟨b6, 0, none⟩)), (8, .pointer (some ⟨b8, 0, none⟩)), (9, .int .i64 (((X.getD dev.toNat default).d.wait.length : Int) - 1 - k))] e) ((X.getD dev.toNat default).d.wait.length) ?_ ?_
     ·skip
      refine ⟨0, by omega, by omega, (fun t ht => absurd ht (by omega)), rfA, rfl, rfl, rfl, rfl, ?_, trivial⟩
      show some (Value.int _ _) = some (Value.int _ _)
      congr 2; omega
     intro m_ e_ H_ hI_
     obtain ⟨k, hk, rfl, hnw, rfl, he⟩ := hI_
     refine CW_env he.sub ?_; clear he e_
     refine zac (fun K11 hK11 => ?_)
     refine zac (fun K12 hK12 => ?_)
     refine zaa ?_
     refine zah rfl ?_
     refine zab (fun K hK r => ?_)
     refine yav ?_
     refine hK _ _ ?_; clear hK K
     refine zad ?_
     refine yab ?_
     refine hK12 _ _ ?_; try clear hK12 K12
     refine zar (fun r => rfl) (fun c29 => ?_) (fun c29 => ?_)
     ·first
      |(exfalso; exact cnA c29; done)
      |skip
       (try replace c29 := yad c29)
       obtain ⟨bv, ov, cv, Tv, Fv, ew2, hbv, hsv, atv⟩ := hxok.w.at (by omega)
       have m2 := Nat.mul_le_mul_right 65 (show ((X.getD dev.toNat default).d.wait.length - 1 - k) + 1 ≤ (X.getD dev.toNat default).d.wait.length by omega)
       refine zau ?_
       refine yab ?_
       refine hK11 _ _ ?_; try clear hK11 K11
       refine zac (fun K13 hK13 => ?_)
       refine zaB ?_
       refine zac (fun K14 hK14 => ?_)
       refine zaa ?_
       refine zab (fun K hK r => ?_)
       refine ycB ?_
       refine hK _ _ ?_; clear hK K
       refine zab (fun K hK r => ?_)
       refine yap ?_
       refine zae Try.underlying65 rfl hbA ldA ?_
       refine yaf ?_
       refine hK _ _ ?_; clear hK K
       refine zah rfl ?_
       refine zab (fun K hK r => ?_)
       refine yaw ?_
       refine zaK Try.underlying65 sz135 ew2 ixA ixA ?_
       rw [show (((X.getD dev.toNat default).d.wait.length : Int) - 1 - k).toNat = (X.getD dev.toNat default).d.wait.length - 1 - k from by omega]
       refine hK _ _ ?_; clear hK K
       refine zab (fun K hK r => ?_)
       simp only [zao, fa135_0, zaH, Nat.reduceAdd, Nat.zero_add, eX, ↓reduceIte, Nat.reduceEqDiff, Int.reduceToNat]
       refine hK _ _ ?_; clear hK K
       refine zab (fun K hK r => ?_)
       refine yap ?_
       refine zae Try.underlying3 rfl ((show Le H _ from lhA) _ _ hbv) (v := .int .i64 ((X.getD dev.toNat default).d.wait.getD ((X.getD dev.toNat default).d.wait.length - 1 - k) default).at_) (by first | exact cell_at Wt.len atv rfl ((X.getD dev.toNat default).d.wait.length - 1 - k) (by omega) 0 (by decide) | (rw [cell_at Wt.len atv rfl ((X.getD dev.toNat default).d.wait.length - 1 - k) (by omega) 0 (by decide)]; rfl)) ?_
       refine hK _ _ ?_; clear hK K
       refine zah rfl ?_
       refine zab (fun K hK r => ?_)
       refine yas ?_
       refine hK _ _ ?_; clear hK K
       refine zad ?_
       refine yab ?_
       refine hK14 _ _ ?_; try clear hK14 K14
       refine zar (fun r => rfl) (fun c39 => ?_) (fun c39 => ?_)
       ·first
        |(exfalso; exact cnA c39; done)
        |skip
         (try replace c39 := yad c39)
         refine zac (fun K15 hK15 => ?_)
         refine zaa ?_
         refine zab (fun K hK r => ?_)
         refine ycB ?_
         refine hK _ _ ?_; clear hK K
         refine zab (fun K hK r => ?_)
         refine yap ?_
         refine zae Try.underlying65 rfl hbA ldA ?_
         refine yaf ?_
         refine hK _ _ ?_; clear hK K
         refine zab (fun K hK r => ?_)
         refine yai ?_
         refine hK _ _ ?_; clear hK K
         refine zab (fun K hK r => ?_)
         refine yaw ?_
         refine zaK Try.underlying65 sz135 ew2 ixA ixA ?_
         rw [show (((X.getD dev.toNat default).d.wait.length : Int) - 1 - k).toNat = (X.getD dev.toNat default).d.wait.length - 1 - k from by omega]
         refine hK _ _ ?_; clear hK K
         refine zab (fun K hK r => ?_)
         simp only [zao, fa135_1, zaH, Nat.reduceAdd, Nat.zero_add, eX, ↓reduceIte, Nat.reduceEqDiff, Int.reduceToNat]
         refine hK _ _ ?_; clear hK K
         refine zab (fun K hK r => ?_)
         refine yap ?_
         refine zaq Try.underlying30 rfl sz30 ((show Le H _ from lhA) _ _ hbv) (by omega) ?_
         rw [ext_x atv rfl ((X.getD dev.toNat default).d.wait.length - 1 - k) (by omega) hsv]
         refine hK _ _ ?_; clear hK K
         refine zaI rfl (zas) (fun K hK r => ?_)
         refine yaD ?_
         refine zak sz30 (by simp [Sec.h]) hbA (by simp [Sec.h]) (PlainL.ints _ _) (by decide) ?_
         refine hK _ _ ?_; clear hK K
         refine zaj rfl ?_
         refine zad ?_
         refine yab ?_
         refine hK15 _ _ ?_; try clear hK15 K15
         refine zaz ?_
         refine yab ?_
         refine ⟨[_, _], ⟨⟨_, rfl, zaC Try.underlying30 rfl sz30 hbA (by simp [Sec.h])⟩, rfl, trivial⟩, H, lhA, ?_, rfl⟩
         show Value.tuple _ = _
         rw [hrd]
         rw [lastW_at (k := ((X.getD dev.toNat default).d.wait.length - 1 - k)) (by omega) c39 (fun j hj hjl => by have := hnw ((X.getD dev.toNat default).d.wait.length - 1 - j) (by omega); rwa [show (X.getD dev.toNat default).d.wait.length - 1 - ((X.getD dev.toNat default).d.wait.length - 1 - j) = j from by omega] at this)]
         rfl
       ·first
        |(exfalso; exact cnA c39; done)
        |skip
         (try replace c39 := yad c39)
         refine zau ?_
         refine yab ?_
         refine hK13 _ _ ?_; try clear hK13 K13
         refine zaa ?_
         refine zah rfl ?_
         refine zab (fun K hK r => ?_)
         refine yaG ?_
         refine hK _ _ ?_; clear hK K
         refine zaj rfl ?_
         refine zad ?_
         refine yab ?_
         refine ⟨(X.getD dev.toNat default).d.wait.length - (k + 1), by omega, k + 1, by omega, rfl, (fun t ht => ?_), rfA, rfl, rfl, rfl, rfl, ?_, trivial⟩
         ·by_cases e : t = k
          ·subst e; exact c39
          ·exact hnw t (by omega)
         ·show some (Value.int _ _) = some (Value.int _ _)
          congr 2; omega
     ·first
      |(exfalso; exact cnA c29; done)
      |skip
       (try replace c29 := yad c29)
       have hkn : k = (X.getD dev.toNat default).d.wait.length := by omega
       refine CW_exit ?_
       refine yab ?_
       refine hK9 _ _ ?_; try clear hK9 K9
       refine zac (fun K16 hK16 => ?_)
       refine zaa ?_
       refine zab (fun K hK r => ?_)
       refine ycq ?_
       refine hK _ _ ?_; clear hK K
       refine zab (fun K hK r => ?_)
       refine yap ?_
       refine zae Try.underlying64 rfl hbA ldA ?_
       refine yaf ?_
       refine hK _ _ ?_; clear hK K
       refine zah rfl ?_
       refine zab (fun K hK r => ?_)
       refine yaw ?_
       refine zaK Try.underlying64 sz30 es ixA ixA ?_
       refine hK _ _ ?_; clear hK K
       refine zab (fun K hK r => ?_)
       refine yap ?_
       refine zaq Try.underlying30 rfl sz30 ((show Le H _ from lhA) _ _ hbs) (by omega) ?_
       rw [ext_at Sec.len ats rfl i.toNat (by omega) hss]
       refine hK _ _ ?_; clear hK K
       refine zaI rfl (zas) (fun K hK r => ?_)
       refine yaD ?_
       refine zak sz30 (by simp [Sec.h]) hbA (by simp [Sec.h]) (PlainL.ints _ _) (by decide) ?_
       refine hK _ _ ?_; clear hK K
       refine zaj rfl ?_
       refine zad ?_
       refine yab ?_
       refine hK16 _ _ ?_; try clear hK16 K16
       refine zaz ?_
       refine yab ?_
       refine ⟨[_, _], ⟨⟨_, rfl, zaC Try.underlying30 rfl sz30 hbA (by simp [Sec.h])⟩, rfl, trivial⟩, H, lhA, ?_, rfl⟩
       show Value.tuple _ = _
       rw [hrd]
       rw [lastW_none (fun j hj => by have := hnw ((X.getD dev.toNat default).d.wait.length - 1 - j) (by omega); rwa [show (X.getD dev.toNat default).d.wait.length - 1 - ((X.getD dev.toNat default).d.wait.length - 1 - j) = j from by omega] at this)]
       rfl
end Go.Proofs.Ytigofhhonnbkmaa.HL
end
section
namespace Go.Proofs.Ytigofhhonnbkmaa.HL
open Go Go.Proofs
set_option linter.unusedSimpArgs false
set_option linter.unusedVariables false
attribute [local irreducible] Lt Lq CW OW TW CallH
def newR (n : Int) : RDv := ⟨List.replicate n.toNat Sec.zero, []⟩
def newRs (l : List Int) : RSt := ⟨l.map newR, 0, 0, false, false⟩
structure NR (H0 H : Hp) (l : List Int) (k : Nat) (v : Value) (rs : Option Nat) (X : List RDX) (G : Hp) : Prop where
  len : X.length = k
  own : OwnS H 67 2 v k (X.flatMap RDX.c) rs
  ok : ∀ x ∈ X, x.ok G
  le : Le G H
  fr : ∀ b, G b ≠ none → H0 b = none
  frr : ∀ r, rs = some r → H0 r = none ∧ G r = none
  old : Le H0 H
  dv : rdv X = (l.take k).map newR
theorem zero_secs (n : Nat) : Builtin.zeroCells (Array.replicate 64 (Value.int .u8 0)) n = (secs (List.replicate n Sec.zero)).toArray := by
  have e1 : secs (List.replicate n Sec.zero) = List.replicate (n * 64) (Value.int .u8 0) := by
    rw [List.eq_replicate_iff]
    refine ⟨by rw [flat_size Sec.len]; simp, fun b hb => ?_⟩
    rw [List.mem_flatMap] at hb
    obtain ⟨x, hx, hb⟩ := hb
    have := List.eq_of_mem_replicate hx
    subst this
    simp only [Sec.c, Sec.zero, u8s, List.map_replicate] at hb
    exact List.eq_of_mem_replicate hb
  rw [e1]
  apply Array.ext
  · rw [zeroCells_size]; simp
  · intro i h1 h2
    have h3 : i % 64 < 64 := Nat.mod_lt _ (by decide)
    simp [Builtin.zeroCells, h3]
end Go.Proofs.Ytigofhhonnbkmaa.HL
end
section
namespace Go.Proofs.Ytigofhhonnbkmaa.HL
open Go Go.Proofs
set_option linter.unusedSimpArgs false
set_option linter.unusedVariables false
attribute [local irreducible] Lt Lq CW OW TW CallH
theorem NR.next {H0 H HF : Hp} {l : List Int} {k : Nat} {v : Value} {rs : Option Nat} {X : List RDX} {G : Hp} (h : NR H0 H l k v rs X G) (hk : k < l.length) {b : Nat} (hb : H b = none) {v' : Value} {rs' : Option Nat}
    (hown : OwnS HF 67 2 v' (k + 1) (X.flatMap RDX.c ++ [.slice (some ⟨b, 0, none⟩) (l.getD k default).toNat (l.getD k default).toNat, .slice none 0 0]) rs') (hfb : HF b = some (.cells (secs (List.replicate (l.getD k default).toNat Sec.zero)).toArray 30))
    (hkeep : ∀ x o, H x = some o → (G x ≠ none ∨ H0 x ≠ none) → HF x = some o) (hr : ∀ r, rs' = some r → rs = some r ∨ (H r = none ∧ r ≠ b)) :
    NR H0 HF l (k + 1) v' rs' (X ++ [⟨some ⟨b, 0, none⟩, (l.getD k default).toNat, none, 0, newR (l.getD k default)⟩]) (G.upd b (.cells (secs (List.replicate (l.getD k default).toNat Sec.zero)).toArray 30)) := by
  have hGb : G b = none := zag h.le hb
  refine ⟨by simp [h.len], ?_, fun x hx => ?_, ?_, fun x hx => ?_, fun r e => ?_, fun x o hx => hkeep x o (h.old x o hx) (.inr (by rw [hx]; simp)), ?_⟩
  · rw [List.flatMap_append]
    simpa [RDX.c, newR] using hown
  · rcases List.mem_append.1 hx with h1 | h1
    · exact (h.ok x h1).le (le_upd _ _ _ hGb)
    · simp at h1
      subst h1
      refine ⟨?_, ⟨rfl, .inl ⟨none, 0, rfl, rfl⟩⟩⟩
      have e : (newR (l.getD k default)).sec.length = (l.getD k default).toNat := by simp [newR]
      refine ⟨by rw [flat_size Sec.len], .inr ⟨b, 0, _, _, _, _, rfl, zan _ _ _, ?_, ?_⟩⟩
      · simp only [List.size_toArray, flat_size Sec.len]
        simp [newR]
      · rw [Array.toList_extract, List.extract_eq_take_drop]
        refine List.take_of_length_le ?_
        simp only [List.drop_zero, List.toList_toArray, flat_size Sec.len]
        simp [newR]
  · exact le_put (fun x o hx => hkeep x o (h.le x o hx) (.inl (by rw [hx]; simp))) hfb
  · by_cases e : x = b
    · subst e; exact zag h.old hb
    · rw [zap _ _ e] at hx; exact h.fr x hx
  · rcases hr r e with h1 | ⟨h1, h2⟩
    · refine ⟨(h.frr r h1).1, (zap _ _ (fun e2 => ?_)).trans (h.frr r h1).2⟩
      subst e2; exact h.own.known r h1 hb
    · exact ⟨zag h.old h1, (zap _ _ h2).trans (zag h.le h1)⟩
  · rw [List.take_add_one, List.getElem?_eq_getElem hk, List.map_append, ← h.dv]
    simp [rdv, List.getD_eq_getElem?_getD, List.getElem?_eq_getElem hk]
end Go.Proofs.Ytigofhhonnbkmaa.HL
end
section
namespace Go.Proofs.Ytigofhhonnbkmaa.HL
open Go Go.Proofs
set_option linter.unusedSimpArgs false
set_option linter.unusedVariables false
attribute [local irreducible] Lt Lq CW OW TW CallH
theorem ycC {p q : Prop} (h : q) (e : p = q := by simp only [x_build, bp52, List.map_toArray, List.map_cons, List.map_nil, eX, ↓reduceIte, Nat.reduceEqDiff, Int.reduceToNat]; exact rfl) : p := e.mpr h
set_option maxRecDepth 100000 in
set_option maxHeartbeats 8000000 in
theorem rnew_ok (H : Hp) (a : Option Addr) (cap : Nat) (l : List Int) (hv : Holds H 1 (.slice a l.length cap) l.length (l.map (Value.int .i64))) (hl : l.length ≤ 1000) : CallH Try.prog 20 #[.slice a l.length cap] H (fun v H' => (goodN l = false ∧ v = .tuple #[.agg #[.slice none 0 0, .int .i64 0, .int .i64 0, .bool false, .bool false], .int .i64 1] ∧ H' = H) ∨ (goodN l = true ∧ Le H H' ∧ ∃ a' cap' X, v = .tuple #[(newRs l).v (.slice a' X.length cap'), .int .i64 0] ∧ RX H' a' cap' X ∧ (newRs l).dv = rdv X)) := by
 refine zam (l := [_]) (rl := [.cell 2 52, .tmp 3]) (n := 47) Try.func20 rfl rfl rfl rfl rfl ?_
 refine yaa ?_
 refine zac (fun K1 hK1 => ?_)
 refine zaa ?_
 refine zab (fun K hK r => ?_)
 refine ycs ?_
 intro b2 hb2
 have f2_H : H b2 = none := zag lhA hb2
 refine yaf ?_
 refine hK _ _ ?_; clear hK K
 refine zaj rfl ?_
 refine zad ?_
 refine yab ?_
 refine hK1 _ _ ?_; try clear hK1 K1
 refine zac (fun K2 hK2 => ?_)
 refine zaa ?_
 refine zab (fun K hK r => ?_)
 refine ycC ?_
 refine ybe ?_
 refine yaf ?_
 refine hK _ _ ?_; clear hK K
 refine zab (fun K hK r => ?_)
 refine ycs ?_
 intro b4 hb4
 try have n4_b2 : b2 ≠ b4 := zaf hbA hb4
 have f4_H : H b4 = none := zag lhA hb4
 refine yaf ?_
 refine hK _ _ ?_; clear hK K
 refine zaI rfl (zas) (fun K hK r => ?_)
 refine yaD ?_
 first | refine zak sz52 bdA hbA bdA plA (by decide) ?_ | refine zal sz52 bdA hbA bdA plA (by decide) ?_
 refine yaf ?_
 refine hK _ _ ?_; clear hK K
 refine zad ?_
 refine yab ?_
 refine hK2 _ _ ?_; try clear hK2 K2
 refine zac (fun K3 hK3 => ?_)
 refine zac (fun K4 hK4 => ?_)
 refine zaa ?_
 refine zah rfl ?_
 refine zab (fun K hK r => ?_)
 refine ybt ?_
 refine hK _ _ ?_; clear hK K
 refine zab (fun K hK r => ?_)
 refine yac ?_
 refine hK _ _ ?_; clear hK K
 refine zah rfl ?_
 (first | refine zaA (d := 10) rfl (fun g10 => ?_) (fun g10 => ?_) | skip)
 all_goals try (exfalso; exact cnA g10)
 all_goals (try replace g10 := yad g10)
 all_goals
  refine yaf ?_
  first
  |refine yGT (fun K hK r => ?_)
   refine yai ?_
   refine hK _ _ ?_; clear hK K
  |refine yGF ?_
   refine yaj ?_
  first
  |refine yGT (fun K hK r => ?_)
   refine ybt ?_
   refine hK _ _ ?_; clear hK K
  |refine yGF ?_
   refine yaj ?_
  first
  |refine yGT (fun K hK r => ?_)
   refine yaZ ?_
   refine hK _ _ ?_; clear hK K
  |refine yGF ?_
   refine yaj ?_
  refine zab (fun K hK r => ?_)
  refine yal ?_
  refine hK _ _ ?_; clear hK K
  refine zad ?_
  refine yab ?_
  refine hK4 _ _ ?_; try clear hK4 K4
  refine zar (fun r => rfl) (fun c14 => ?_) (fun c14 => ?_)
  ·first
   |(exfalso; exact cnA c14; done)
   |skip
    (try replace c14 := yad c14)
    have hbad : goodN l = false := by unfold goodN; simp; omega
    refine zac (fun K5 hK5 => ?_)
    refine zaa ?_
    refine zab (fun K hK r => ?_)
    refine yap ?_
    first | refine zax Try.underlying52 rfl sz52 hbA bdA ?_ | refine zaq Try.underlying52 rfl sz52 hbA bdA ?_
    refine ybg ?_
    refine yaf ?_
    refine hK _ _ ?_; clear hK K
    refine zaI rfl (zas) (fun K hK r => ?_)
    refine yaD ?_
    first | refine zak sz52 bdA hbA bdA plA (by decide) ?_ | refine zal sz52 bdA hbA bdA plA (by decide) ?_
    refine yaf ?_
    refine hK _ _ ?_; clear hK K
    refine zaj rfl ?_
    refine zad ?_
    refine yab ?_
    refine hK5 _ _ ?_; try clear hK5 K5
    refine zaz ?_
    refine yab ?_
    refine ⟨[_, _], ⟨⟨_, rfl, zaC Try.underlying52 rfl sz52 hbA bdA⟩, rfl, trivial⟩, H, lhA, .inl ⟨hbad, rfl, rfl⟩⟩
  ·first
   |(exfalso; exact cnA c14; done)
   |skip
    (try replace c14 := yad c14)
    have hlen : 1 ≤ l.length ∧ l.length ≤ 5 := by omega
    refine zau ?_
    refine yab ?_
    refine hK3 _ _ ?_; try clear hK3 K3
    refine zac (fun K6 hK6 => ?_)
    refine zac (fun K7 hK7 => ?_)
    refine zaa ?_
    refine zaj rfl ?_
    refine zad ?_
    refine yab ?_
    refine hK7 _ _ ?_; try clear hK7 K7
    refine zaB ?_
    refine CW_loop (fun m e H_ => ∃ (k : Nat) (v : Value) (rs : Option Nat) (X : List RDX) (G : Hp), k ≤ l.length ∧ m = l.length - k ∧ (∀ j, j < k → okN (l.getD j default) = true) ∧ NR H H_ l k v rs X G ∧ G b2 = none ∧ G b4 = none ∧ H_ b2 = some (.cells #[.slice none 0 0, .int .i64 0, .int .i64 0, .bool false, .bool false] 52) ∧ H_ b4 = some (.cells #[v, .int .i64 0, .int .i64 0, .bool false, .bool false] 52) ∧ Env.has [(0, .slice a l.length cap), (2, .pointer (some ⟨b2, 0, none⟩)), (4, .pointer (some ⟨b4, 0, none⟩)), (5, .int .i64 k)] e) (l.length) ?_ ?_
    ·skip
     refine ⟨0, .slice none 0 0, none, [], emptyHp, by omega, by omega, (fun j hj => absurd hj (by omega)), ⟨rfl, OwnS.nil _ _ _, (fun x hx => by simp at hx), zaN _, (fun b hb => absurd rfl hb), (fun r hr => by cases hr), lhA, rfl⟩, rfl, rfl, hbA, hbA, rfl, rfl, rfl, rfl, trivial⟩
    intro m_ e_ H_ hI_
    obtain ⟨k, v, rs, X, G, hk, rfl, hoks, hN, g2, g4, k2, k4, he⟩ := hI_
    refine CW_env he.sub ?_; clear he e_
    have hOld := hN.old
    obtain ⟨va, vc, rfl⟩ := hN.own.holds.form
    refine zac (fun K8 hK8 => ?_)
    refine zac (fun K9 hK9 => ?_)
    refine zaa ?_
    refine zah rfl ?_
    refine zah rfl ?_
    refine zab (fun K hK r => ?_)
    refine ybt ?_
    refine hK _ _ ?_; clear hK K
    refine zab (fun K hK r => ?_)
    refine yac ?_
    refine hK _ _ ?_; clear hK K
    refine zad ?_
    refine yab ?_
    refine hK9 _ _ ?_; try clear hK9 K9
    refine zar (fun r => rfl) (fun c19 => ?_) (fun c19 => ?_)
    ·first
     |(exfalso; exact cnA c19; done)
     |skip
      (try replace c19 := yad c19)
      obtain ⟨bw, ow, cw, Tw, Fw, ew, hbw, hsw, atw⟩ := hv.at (by omega)
      refine zau ?_
      refine yab ?_
      refine hK8 _ _ ?_; try clear hK8 K8
      refine zac (fun K10 hK10 => ?_)
      refine zaB ?_
      refine zac (fun K11 hK11 => ?_)
      refine zac (fun K12 hK12 => ?_)
      refine zaa ?_
      refine zah rfl ?_
      refine zah rfl ?_
      refine zab (fun K hK r => ?_)
      refine yaw ?_
      refine zaK Try.underlying22 sz3 ew ixA ixA ?_
      try simp only [Int.toNat_natCast, Nat.mul_one]
      refine hK _ _ ?_; clear hK K
      refine zab (fun K hK r => ?_)
      refine yap ?_
      refine zae Try.underlying3 rfl (hOld _ _ hbw) (v := .int .i64 (l.getD k default)) (by first | exact ints_get atw rfl k (by omega) | (rw [Nat.mul_one]; exact ints_get atw rfl k (by omega))) ?_
      refine hK _ _ ?_; clear hK K
      refine zab (fun K hK r => ?_)
      refine yac ?_
      refine hK _ _ ?_; clear hK K
      refine zah rfl ?_
      (first | refine zaA (d := 27) rfl (fun g27 => ?_) (fun g27 => ?_) | skip)
      all_goals try (exfalso; exact cnA g27)
      all_goals (try replace g27 := yad g27)
      all_goals
       refine yaf ?_
       first
       |refine yGT (fun K hK r => ?_)
        refine yai ?_
        refine hK _ _ ?_; clear hK K
       |refine yGF ?_
        refine yaj ?_
       first
       |refine yGT (fun K hK r => ?_)
        refine yai ?_
        refine hK _ _ ?_; clear hK K
       |refine yGF ?_
        refine yaj ?_
       first
       |refine yGT (fun K hK r => ?_)
        refine yaw ?_
        refine zaK Try.underlying22 sz3 ew ixA ixA ?_
        try simp only [Int.toNat_natCast, Nat.mul_one]
        refine hK _ _ ?_; clear hK K
       |refine yGF ?_
        refine yaj ?_
       first
       |refine yGT (fun K hK r => ?_)
        refine yap ?_
        refine zae Try.underlying3 rfl (hOld _ _ hbw) (v := .int .i64 (l.getD k default)) (by first | exact ints_get atw rfl k (by omega) | (rw [Nat.mul_one]; exact ints_get atw rfl k (by omega))) ?_
        refine hK _ _ ?_; clear hK K
       |refine yGF ?_
        refine yaj ?_
       first
       |refine yGT (fun K hK r => ?_)
        refine yaZ ?_
        refine hK _ _ ?_; clear hK K
       |refine yGF ?_
        refine yaj ?_
       refine zab (fun K hK r => ?_)
       refine yal ?_
       refine hK _ _ ?_; clear hK K
       refine zad ?_
       refine yab ?_
       refine hK12 _ _ ?_; try clear hK12 K12
       refine zar (fun r => rfl) (fun c33 => ?_) (fun c33 => ?_)
       ·first
        |(exfalso; exact cnA c33; done)
        |skip
         (try replace c33 := yad c33)
         have hbad : goodN l = false := good_bad (k := k) (by omega) (by unfold okN; rw [Bool.and_eq_false_iff]; simp only [decide_eq_false_iff_not]; omega)
         refine zac (fun K13 hK13 => ?_)
         refine zaa ?_
         refine zab (fun K hK r => ?_)
         refine ycC ?_
         refine ybe ?_
         refine yaf ?_
         refine hK _ _ ?_; clear hK K
         refine zaI rfl (zas) (fun K hK r => ?_)
         refine yaD ?_
         first | refine zak sz52 bdA hbA bdA plA (by decide) ?_ | refine zal sz52 bdA hbA bdA plA (by decide) ?_
         refine yaf ?_
         refine hK _ _ ?_; clear hK K
         refine zaj rfl ?_
         refine zad ?_
         refine yab ?_
         refine hK13 _ _ ?_; try clear hK13 K13
         refine zaz ?_
         refine yab ?_
         refine ⟨[_, _], ⟨⟨_, rfl, zaC Try.underlying52 rfl sz52 hbA bdA⟩, rfl, trivial⟩, H, lhA, .inl ⟨hbad, rfl, rfl⟩⟩
       ·first
        |(exfalso; exact cnA c33; done)
        |skip
         (try replace c33 := yad c33)
         have hok : okN (l.getD k default) = true := by unfold okN; rw [Bool.and_eq_true]; simp only [decide_eq_true_eq]; omega
         have hn0 : 1 ≤ l.getD k default ∧ l.getD k default ≤ 4096 := by omega
         refine zau ?_
         refine yab ?_
         refine hK11 _ _ ?_; try clear hK11 K11
         obtain ⟨R9, hR9⟩ : ∃ R : Hp, R = (emptyHp.upd b4 (.cells #[.slice va k vc, .int .i64 0, .int .i64 0, .bool false, .bool false] 52)).upd bw (.cells cw Tw Fw) := ⟨_, rfl⟩
         refine CW_drawR [0, 1, 0, 0, 0, 1, 2, 0, 2, 2, 0, 3] [0, 1, 2, 3, 4, 5, 6, 7, 8, 9, 10, 11] R9 (by kernel_rfl) (by kernel_rfl) (by subst hR9; exact le_put (le_put (zaN _) k4) (hOld _ _ hbw)) (fun lR9 => ?_)
         apply zat rfl (zai (by decide)) rfl
         ·intro r
          simp only [zao, fa52_0, zaH, Nat.reduceAdd, Nat.zero_add, eX, ↓reduceIte, Nat.reduceEqDiff]
          exact ⟨rfl, Le.refl _⟩
         refine yaj ?_
         apply zaO rfl (zai (by decide)) rfl
         ·intro r
          refine yba ?_
          refine zae Try.underlying50 rfl (by rw [hR9]; exact (zap _ _ (Ne.symm (zaf hbw f4_H))).trans (zan _ _ _)) (v := .slice va k vc) rfl ?_
          exact ⟨rfl, Le.refl _⟩
         refine yaj ?_
         apply zat rfl (zai (by decide)) rfl
         ·intro r
          refine yaI ?_
          exact ⟨rfl, Le.refl _⟩
         refine yaj ?_
         apply zat rfl (zai (by decide)) rfl
         ·intro r
          refine yaI ?_
          exact ⟨rfl, Le.refl _⟩
         refine yaj ?_
         apply zat rfl (zai (by decide)) rfl
         ·intro r
          refine yaL ?_
          refine zaK Try.underlying22 sz3 ew ixA ixA ?_
          try simp only [Int.toNat_natCast, Nat.mul_one]
          exact ⟨rfl, Le.refl _⟩
         refine yaj ?_
         apply zaO rfl (zai (by decide)) rfl
         ·intro r
          refine yba ?_
          refine zae Try.underlying3 rfl (by rw [hR9]; exact zan _ _ _) (v := .int .i64 (l.getD k default)) (by first | exact ints_get atw rfl k (by omega) | (rw [Nat.mul_one]; exact ints_get atw rfl k (by omega))) ?_
          exact ⟨rfl, Le.refl _⟩
         refine yaj ?_
         refine TW_chain rfl (zai (by decide)) rfl (fun K hK r => ?_)
         simp only [x_makeSlice, eX, ↓reduceIte, Nat.reduceEqDiff, Int.reduceToNat]
         refine Lt_makeSlice Try.underlying64 sz30 by30 zr30 rfl arA arA arA arA ?_
         intro b41 hb41
         try have n41_b2 : b2 ≠ b41 := zaf hbA hb41
         try have n41_b4 : b4 ≠ b41 := zaf hbA hb41
         have f41_H : H b41 = none := zag lhA hb41
         have f41_R9 : R9 b41 = none := zag lhA hb41
         refine yaf ?_
         refine hK _ _ leA ?_; clear hK K
         apply zat rfl (zai (by decide)) rfl
         ·intro r
          simp only [x_build, bp67, List.map_toArray, List.map_cons, List.map_nil, eX, ↓reduceIte, Nat.reduceEqDiff]
          rw [fill_one rfl clA bdA]
          refine ybe ?_
          exact ⟨rfl, Le.refl _⟩
         refine yaj ?_
         refine TW_chain rfl (zai (by decide)) rfl (fun K hK r => ?_)
         refine yaT ?_
         refine zaJ (vs := [_]) Try.underlying50 sz67 zr67 rfl bsA (by first | decide | (simp; done)) ?_
         refine yaU ?_
         intro b43 hb43
         try have n43_b2 : b2 ≠ b43 := zaf hbA hb43
         try have n43_b4 : b4 ≠ b43 := zaf hbA hb43
         try have n43_b41 : b41 ≠ b43 := zaf hbA hb43
         have f43_H : H b43 = none := zag lhA hb43
         have f43_R9 : R9 b43 = none := zag lhA hb43
         refine yaf ?_
         refine hK _ _ leA ?_; clear hK K
         refine TW_chain rfl (zai (by decide)) rfl (fun K hK r => ?_)
         refine yaV ?_
         rw [zero_secs] at hb43 ⊢
         have hb41k : H_ b43 = none := zag (le_upd _ _ _ hb41) hb43
         have n41 : b41 ≠ b43 := zaf (zan _ _ _) hb43
         refine Lt_append Try.underlying50 Try.underlying50 (by simp) sz67 by67 (by decide) zr67 rfl _ (n := k) (m := 1) (ds := [.slice (some ⟨b41, 0, none⟩) (l.getD k default).toNat (l.getD k default).toNat, .slice none 0 0]) ((hN.own.make hb41).make hb43) (fun Kx => len_slice _ _ _ Kx) (fun Kx => first_slice (w := 2) (n := 1) (cs := [.slice (some ⟨b41, 0, none⟩) (l.getD k default).toNat (l.getD k default).toNat, .slice none 0 0]) ⟨rfl, .inr ⟨b43, 0, 1, _, _, _, rfl, hbA, by simp, by simp⟩⟩ Kx) rfl (PlainL.cons (plain_slice _ _ _) (PlainL.cons (plain_slice _ _ _) PlainL.nil)) (by omega) ?_
         intro v44 H44 rs44 hg44 ho44 hr44
         obtain ⟨wa44, wc44, rfl⟩ := ho44.holds.form
         have q44 : ∀ z o, H_ z = some o → rs ≠ some z → H44 z = some o := fun z o hz hn => hg44.known z o ((zap _ _ (zaf hz hb41k)).trans ((zap _ _ (zaf hz hb41)).trans hz)) hn
         have x2 := hN.own.neT k2 (by decide)
         have x4 := hN.own.neT k4 (by decide)
         have y4 := q44 _ _ k4 x4
         have y2 := q44 _ _ k2 x2
         have lR44 : Le R9 H44 := by rw [hR9]; exact le_put (le_put (zaN _) y4) (q44 _ _ (hOld _ _ hbw) (fun e => by have := (hN.frr bw e).1; rw [hbw] at this; cases this))
         have y41 := hg44.known b41 _ ((zap _ _ n41).trans (zan _ _ _)) (fun e => hN.own.known b41 e hb41)
         have hr44' : ∀ r, rs44 = some r → rs = some r ∨ (H_ r = none ∧ r ≠ b41) := fun r e => (hr44 r e).imp id (fun hn => by
          have h2 := upd_none hn
          exact ⟨upd_none h2, fun e => by subst e; rw [zan] at h2; cases h2⟩)
         have z4 := ho44.neT y4 (by decide)
         have z41 : b4 ≠ b41 := zaf k4 hb41
         have z24 : b2 ≠ b41 := zaf k2 hb41
         have hrsG : ∀ z, rs = some z → G z = none ∧ H z = none := fun z e => ⟨(hN.frr z e).2, (hN.frr z e).1⟩
         refine hK _ _ leA ?_; clear hK K
         apply zat rfl (zai (by decide)) rfl
         ·intro r
          simp only [zao, fa52_0, zaH, Nat.reduceAdd, Nat.zero_add, eX, ↓reduceIte, Nat.reduceEqDiff]
          exact ⟨rfl, Le.refl _⟩
         refine yaj ?_
         refine TW_last rfl (zas) rfl (fun K hK r => ?_)
         refine yaD ?_
         refine zaE sz50 hbA bdA plA fzA ?_
         refine yaE ?_
         refine yaf ?_
         refine hK _ _ ?_; clear hK K
         refine TW_nil ?_
         refine yab ?_
         refine hK10 _ _ ?_; try clear hK10 K10
         refine zaa ?_
         refine zah rfl ?_
         refine zab (fun K hK r => ?_)
         refine yaq ?_
         refine hK _ _ ?_; clear hK K
         refine zaj rfl ?_
         refine zad ?_
         refine yab ?_
         refine ⟨l.length - (k + 1), by omega, k + 1, _, rs44, _, _, by omega, rfl, (fun j hj => ?_), hN.next (by omega) hb41 (ho44.upd z4) ((zap _ _ (Ne.symm z41)).trans y41) (fun x o hx hc => (zap _ _ (fun e => ?_)).trans (q44 x o hx (fun e => ?_))) hr44', ?_, ?_, (zap _ _ n4_b2).trans y2, zan _ _ _, rfl, rfl, rfl, rfl, trivial⟩
         ·by_cases e : j = k
          ·subst e; exact hok
          ·exact hoks j (by omega)
         ·subst e
          rcases hc with h1 | h1
          ·exact h1 g4
          ·exact h1 f4_H
         ·rcases hc with h1 | h1
          ·exact h1 (hrsG x e).1
          ·exact h1 (hrsG x e).2
         ·exact (zap _ _ z24).trans g2
         ·exact (zap _ _ z41).trans g4
    ·first
     |(exfalso; exact cnA c19; done)
     |skip
      (try replace c19 := yad c19)
      have hkn : k = l.length := by omega
      refine CW_exit ?_
      refine yab ?_
      refine hK6 _ _ ?_; try clear hK6 K6
      refine zac (fun K14 hK14 => ?_)
      refine zaa ?_
      refine zab (fun K hK r => ?_)
      refine yap ?_
      first | refine zax Try.underlying52 rfl sz52 hbA bdA ?_ | refine zaq Try.underlying52 rfl sz52 hbA bdA ?_
      refine ybg ?_
      refine yaf ?_
      refine hK _ _ ?_; clear hK K
      refine zaI rfl (zas) (fun K hK r => ?_)
      refine yaD ?_
      first | refine zak sz52 bdA hbA bdA plA (by decide) ?_ | refine zal sz52 bdA hbA bdA plA (by decide) ?_
      refine yaf ?_
      refine hK _ _ ?_; clear hK K
      refine zaj rfl ?_
      refine zad ?_
      refine yab ?_
      refine hK14 _ _ ?_; try clear hK14 K14
      refine zaz ?_
      refine yab ?_
      refine ⟨[_, _], ⟨⟨_, rfl, zaC Try.underlying52 rfl sz52 hbA bdA⟩, rfl, trivial⟩, _, Le.refl _, .inr ⟨good_all hlen.1 hlen.2 (by rw [← hkn]; exact hoks), ?_, ?_⟩⟩
      ·exact zaw hOld f2_H
      ·subst hkn
       refine ⟨va, vc, X, by rw [hN.len]; rfl, ⟨?_, fun x hx => (hN.ok x hx).le (zaw hN.le g2)⟩, by show l.map newR = _; rw [hN.dv, List.take_of_length_le (Nat.le_refl _)]⟩
       rw [hN.len]
       exact (hN.own.upd (hN.own.neT k2 (by decide))).holds
end Go.Proofs.Ytigofhhonnbkmaa.HL
end
section
namespace Go.Proofs.Ytigofhhonnbkmaa.HL
open Go Go.Proofs
set_option linter.unusedSimpArgs false
set_option linter.unusedVariables false
attribute [local irreducible] Lt Lq CW OW TW CallH
def mixS (x old : Sec) (b : Nat) : Sec := ⟨x.b.take b ++ old.b.drop b, by have := x.h; have := old.h; simp; omega⟩
theorem mix_zero (x old : Sec) : mixS x old 0 = old := Sec.ext (by simp [mixS])
theorem mix_all (x old : Sec) : mixS x old 64 = x := Sec.ext (by
  have h1 : x.b.take 64 = x.b := List.take_of_length_le (by rw [x.h]; exact Nat.le_refl _)
  have h2 : old.b.drop 64 = [] := List.drop_eq_nil_of_le (by rw [old.h]; exact Nat.le_refl _)
  simp [mixS, h1, h2])
theorem torn_mix (x old : Sec) (t : Int) : torn x old t = mixS x old (if 0 < t ∧ t < 64 then t.toNat else 64) := by
  unfold torn
  split
  · rfl
  · rw [mix_all]
theorem mix_next (x old : Sec) (b : Nat) (hb : b < 64) : (mixS x old (b + 1)).b = (mixS x old b).b.set b (x.b.getD b 0) := by
  have hx := x.h
  have ho := old.h
  apply List.ext_getElem?
  intro i
  simp only [mixS, List.getElem?_set, List.getElem?_append, List.length_take, List.getElem?_take, List.getElem?_drop, List.length_append, List.length_drop, hx, ho]
  have e1 : min (b + 1) 64 = b + 1 := by omega
  have e2 : min b 64 = b := by omega
  rw [e1, e2]
  by_cases h1 : b = i
  · subst h1
    simp [List.getD_eq_getElem?_getD, List.getElem?_eq_getElem (show b < x.b.length by omega), hb]
    omega
  · rw [if_neg h1]
    by_cases h2 : i < b
    · have h3 : i < b + 1 := by omega
      simp [h2, h3]
    · have h3 : ¬ i < b + 1 := by omega
      have e3 : b + 1 + (i - (b + 1)) = b + (i - b) := by omega
      simp [h2, h3, e3]
def crW (kept : Nat → Option Int) (ws : List Wt) (sec : List Sec) : Nat → List Sec
  | 0 => sec
  | n + 1 => match kept n with
    | none => crW kept ws sec n
    | some t => (crW kept ws sec n).set (ws.getD n default).at_.toNat (torn (ws.getD n default).x ((crW kept ws sec n).getD (ws.getD n default).at_.toNat default) t)
theorem crW_len (kept : Nat → Option Int) (ws : List Wt) (sec : List Sec) : ∀ n, (crW kept ws sec n).length = sec.length
  | 0 => rfl
  | n + 1 => by
    unfold crW
    split
    · exact crW_len kept ws sec n
    · rw [List.length_set]; exact crW_len kept ws sec n
def RDv.settle (d : RDv) (kept : Nat → Option Int) : RDv := ⟨crW kept d.wait d.sec d.wait.length, []⟩
def RSt.cr (m : RSt) (l : List Kp) : RSt := ⟨m.dv.mapIdx (fun i d => d.settle (fun n => keepOf l i n)), m.steps, m.left, false, false⟩
end Go.Proofs.Ytigofhhonnbkmaa.HL
end
section
namespace Go.Proofs.Ytigofhhonnbkmaa.HL
open Go Go.Proofs
set_option linter.unusedSimpArgs false
set_option linter.unusedVariables false
attribute [local irreducible] Lt Lq CW OW TW CallH
structure RlD (s : Dv) (m : RDv) : Prop where
  sz : s.size = m.sec.length
  su : ∀ i, s.sure i = if 0 ≤ i ∧ i < m.sec.length then m.sec.getD i.toNat default else Sec.zero
  wa : s.wait = m.wait
  at_ : ∀ k, k < m.wait.length → 0 ≤ (m.wait.getD k default).at_ ∧ (m.wait.getD k default).at_ < m.sec.length
structure Rl (s : St) (m : RSt) : Prop where
  st : s.steps = m.steps
  go : s.gone = m.gone
  ar : s.armed = m.armed
  le : m.armed = true → s.left = m.left ∧ 0 ≤ m.left
  len : s.dv.length = m.dv.length
  dv : ∀ i, i < m.dv.length → RlD (s.dv.getD i default) (m.dv.getD i default)
theorem Rl.step {s : St} {m : RSt} (h : Rl s m) (hl : m.armed = true → m.left ≤ 9223372036854775807) : s.step.2 = m.step.2 ∧ Rl s.step.1 m.step.1 := by
  have hs := step_dv s
  have hm := m.step_dv
  unfold St.step RSt.step at *
  by_cases hg : m.gone = true
  · rw [if_pos (.inl (by rw [h.go]; exact hg)), if_pos hg]
    exact ⟨rfl, ⟨h.st, by rw [hg], h.ar, h.le, h.len, h.dv⟩⟩
  · by_cases ha : m.armed = true ∧ m.left = 0
    · have h1 := h.le ha.1
      rw [if_pos (.inr ⟨by rw [h.ar]; exact ha.1, by omega⟩), if_neg hg, if_pos ha]
      exact ⟨rfl, ⟨h.st, rfl, h.ar, h.le, h.len, h.dv⟩⟩
    · have hn : ¬ (s.gone = true ∨ (s.armed = true ∧ s.left ≤ 0)) := by
        rintro (h1 | ⟨h1, h2⟩)
        · rw [h.go] at h1; exact hg h1
        · rw [h.ar] at h1
          have h3 := h.le h1
          exact ha ⟨h1, by omega⟩
      rw [if_neg hn, if_neg hg, if_neg ha]
      refine ⟨rfl, ⟨by show IntKind.i64.wrap _ = IntKind.i64.wrap _; rw [h.st], h.go, h.ar, fun h1 => ?_, h.len, h.dv⟩⟩
      have h3 := h.le h1
      have h4 := hl h1
      have h5 : m.left ≠ 0 := fun e => ha ⟨h1, e⟩
      show IntKind.i64.wrap (s.left - 1) = (if m.armed = true then IntKind.i64.wrap (m.left - 1) else m.left) ∧ 0 ≤ (if m.armed = true then IntKind.i64.wrap (m.left - 1) else m.left)
      rw [if_pos h1, h3.1, wrap_i64 _ (by omega) (by omega)]
      exact ⟨rfl, by omega⟩
theorem Rl.has {s : St} {m : RSt} (h : Rl s m) (dev i : Int) : s.has dev i = m.has dev i := by
  unfold St.has RSt.has
  rw [h.len]
  by_cases hd : 0 ≤ dev ∧ dev < m.dv.length
  · rw [(h.dv dev.toNat (by omega)).sz]
  · rw [decide_eq_false hd, Bool.false_and, Bool.false_and]
end Go.Proofs.Ytigofhhonnbkmaa.HL
end
section
namespace Go.Proofs.Ytigofhhonnbkmaa.HL
open Go Go.Proofs
set_option linter.unusedSimpArgs false
set_option linter.unusedVariables false
attribute [local irreducible] Lt Lq CW OW TW CallH
theorem getD_set' {α : Type} [Inhabited α] {l : List α} {k : Nat} {d : α} (i : Nat) : (l.set k d).getD i default = if i = k ∧ k < l.length then d else l.getD i default := by
  simp only [List.getD_eq_getElem?_getD, List.getElem?_set]
  by_cases h : k = i
  · subst h
    by_cases h2 : k < l.length
    · simp [h2]
    · simp [h2, List.getElem?_eq_none (by omega : l.length ≤ k)]
  · rw [if_neg h, if_neg (by rintro ⟨rfl, _⟩; exact h rfl)]
theorem Rl.set {s t : St} {m q : RSt} (h : Rl s m) {k : Nat} {d : Dv} {e : RDv} (hd : RlD d e) (ht : t.dv = s.dv.set k d) (hq : q.dv = m.dv.set k e) (h1 : t.steps = q.steps) (h2 : t.gone = q.gone) (h3 : t.armed = q.armed) (h4 : q.armed = true → t.left = q.left ∧ 0 ≤ q.left) : Rl t q := by
  refine ⟨h1, h2, h3, h4, by rw [ht, hq, List.length_set, List.length_set]; exact h.len, fun i hi => ?_⟩
  rw [hq, List.length_set] at hi
  rw [ht, hq, getD_set', getD_set', h.len]
  by_cases e : i = k
  · rw [if_pos ⟨e, by omega⟩, if_pos ⟨e, by omega⟩]; exact hd
  · rw [if_neg (fun x => e x.1), if_neg (fun x => e x.1)]; exact h.dv i hi
theorem RlD.put {s : Dv} {m : RDv} (h : RlD s m) {i : Int} (x : Sec) (hi : 0 ≤ i ∧ i < m.sec.length) : RlD (s.put ⟨i, x⟩) ⟨m.sec, m.wait ++ [⟨i, x⟩]⟩ := by
  refine ⟨h.sz, h.su, by show s.wait ++ _ = _; rw [h.wa], fun k hk => ?_⟩
  simp only [List.length_append, List.length_cons, List.length_nil] at hk
  by_cases e : k < m.wait.length
  · have : (m.wait ++ [(⟨i, x⟩ : Wt)]).getD k default = m.wait.getD k default := by
      simp [List.getD_eq_getElem?_getD, List.getElem?_append_left e]
    rw [this]; exact h.at_ k e
  · have e2 : k = m.wait.length := by omega
    have : (m.wait ++ [(⟨i, x⟩ : Wt)]).getD k default = ⟨i, x⟩ := by
      subst e2; simp [List.getD_eq_getElem?_getD]
    rw [this]; exact hi
theorem Rl.put {s : St} {m : RSt} (h : Rl s m) (hl : m.armed = true → m.left ≤ 9223372036854775807) (dev i : Int) (x : Sec) : Rl (s.wr dev i x).1 (m.put dev i x).1 ∧ (m.put dev i x).2 = (s.wr dev i x).2.getD 0 := by
  obtain ⟨e2, hr⟩ := h.step hl
  have hh := h.has dev i
  rcases wr_cases s dev i x with ⟨a1, a2, a3⟩ | ⟨a1, a2, a3, a4⟩ | ⟨a1, a2, a3, a4⟩
  · rcases rput_cases m dev i x with ⟨_, b⟩ | ⟨b1, _⟩ | ⟨b1, _⟩
    · rw [a1, a2, b]; exact ⟨h, rfl⟩
    · rw [← hh, a3] at b1; cases b1
    · rw [← hh, a3] at b1; cases b1
  · rcases rput_cases m dev i x with ⟨b1, _⟩ | ⟨_, _, b⟩ | ⟨_, b1, _⟩
    · rw [← hh, a4] at b1; cases b1
    · rw [a1, a2, b]; exact ⟨hr, rfl⟩
    · rw [← e2, a3] at b1; cases b1
  · rcases rput_cases m dev i x with ⟨b1, _⟩ | ⟨_, b1, _⟩ | ⟨b0, _, b⟩
    · rw [← hh, a4] at b1; cases b1
    · rw [← e2, a3] at b1; cases b1
    · rw [a1, a2, b]
      unfold RSt.has at b0
      rw [Bool.and_eq_true, decide_eq_true_eq, decide_eq_true_eq] at b0
      refine ⟨h.set ((h.dv dev.toNat (by omega)).put x b0.2) rfl rfl hr.st hr.go hr.ar hr.le, rfl⟩
end Go.Proofs.Ytigofhhonnbkmaa.HL
end
section
namespace Go.Proofs.Ytigofhhonnbkmaa.HL
open Go Go.Proofs
set_option linter.unusedSimpArgs false
set_option linter.unusedVariables false
attribute [local irreducible] Lt Lq CW OW TW CallH
theorem RlD.stN {s : Dv} {m : RDv} (h : RlD s m) (kept : Nat → Option Int) : ∀ n, n ≤ m.wait.length → ∀ i, stN kept m.wait s.sure n i = if 0 ≤ i ∧ i < m.sec.length then (crW kept m.wait m.sec n).getD i.toNat default else Sec.zero
  | 0, _, i => h.su i
  | n + 1, hn, i => by
    have ih := RlD.stN h kept n (by omega)
    have ha := h.at_ n (by omega)
    cases hk : kept n with
    | none => simp only [Go.Proofs.Ytigofhhonnbkmaa.HL.stN, crW, hk]; exact ih i
    | some t =>
      simp only [Go.Proofs.Ytigofhhonnbkmaa.HL.stN, crW, hk]
      have hold : Go.Proofs.Ytigofhhonnbkmaa.HL.stN kept m.wait s.sure n (m.wait.getD n default).at_ = (crW kept m.wait m.sec n).getD (m.wait.getD n default).at_.toNat default := by rw [ih, if_pos ha]
      rw [hold]
      by_cases e : i = (m.wait.getD n default).at_
      · rw [if_pos e, e, if_pos ha, getD_set', if_pos ⟨rfl, by rw [crW_len]; omega⟩]
      · rw [if_neg e, ih i]
        by_cases hr : 0 ≤ i ∧ i < m.sec.length
        · rw [if_pos hr, if_pos hr, getD_set', if_neg (fun hc => e (by omega))]
        · rw [if_neg hr, if_neg hr]
theorem RlD.settle {s : Dv} {m : RDv} (h : RlD s m) (kept : Nat → Option Int) : RlD (s.settle kept) (m.settle kept) := by
  refine ⟨by show s.size = (crW _ _ _ _).length; rw [crW_len]; exact h.sz, fun i => ?_, rfl, fun k hk => by simp [RDv.settle] at hk⟩
  show Go.Proofs.Ytigofhhonnbkmaa.HL.stN kept s.wait s.sure s.wait.length i = _
  rw [h.wa, h.stN kept _ (Nat.le_refl _)]
  simp only [RDv.settle, crW_len]
theorem crW_done (ws : List Wt) (sec : List Sec) : ∀ n, n ≤ ws.length → crW (fun _ => some 0) ws sec n = doneL sec (ws.take n)
  | 0, _ => rfl
  | n + 1, hn => by
    rw [doneL_next sec ws n (by omega), ← crW_done ws sec n (by omega)]
    simp only [crW]
    rw [torn_not _ _ _ (by omega)]
theorem RlD.flush {s : Dv} {m : RDv} (h : RlD s m) : RlD (s.settle (fun _ => some 0)) ⟨doneL m.sec m.wait, []⟩ := by
  have := h.settle (fun _ => some 0)
  unfold RDv.settle at this
  rwa [crW_done _ _ _ (Nat.le_refl _), List.take_of_length_le (Nat.le_refl _)] at this
end Go.Proofs.Ytigofhhonnbkmaa.HL
end
section
namespace Go.Proofs.Ytigofhhonnbkmaa.HL
open Go Go.Proofs
set_option linter.unusedSimpArgs false
set_option linter.unusedVariables false
attribute [local irreducible] Lt Lq CW OW TW CallH
theorem Rl.flush {s : St} {m : RSt} (h : Rl s m) (hl : m.armed = true → m.left ≤ 9223372036854775807) (dev : Int) : Rl (s.fl dev).1 (m.fl dev).1 ∧ (m.fl dev).2 = (s.fl dev).2.getD 0 := by
  obtain ⟨e2, hr⟩ := h.step hl
  have hlen := h.len
  rcases fl_cases s dev with ⟨a1, a2, a3⟩ | ⟨a1, a2, a3, a4⟩ | ⟨a1, a2, a3, a4⟩
  · rcases rfl_cases m dev with ⟨_, b⟩ | ⟨b1, _⟩ | ⟨b1, _⟩
    · rw [a1, a2, b]; exact ⟨h, rfl⟩
    · exact absurd b1 (by rw [← hlen]; exact a3)
    · exact absurd b1 (by rw [← hlen]; exact a3)
  · rcases rfl_cases m dev with ⟨b1, _⟩ | ⟨_, _, b⟩ | ⟨_, b1, _⟩
    · exact absurd a4 (by rw [hlen]; exact b1)
    · rw [a1, a2, b]; exact ⟨hr, rfl⟩
    · rw [← e2, a3] at b1; cases b1
  · rcases rfl_cases m dev with ⟨b1, _⟩ | ⟨_, b1, _⟩ | ⟨b0, _, b⟩
    · exact absurd a4 (by rw [hlen]; exact b1)
    · rw [← e2, a3] at b1; cases b1
    · rw [a1, a2, b]
      exact ⟨h.set ((h.dv dev.toNat (by omega)).flush) rfl rfl hr.st hr.go hr.ar hr.le, rfl⟩
theorem Rl.crash {s : St} {m : RSt} (h : Rl s m) (l : List Kp) : Rl (s.cr l) (m.cr l) := by
  refine ⟨h.st, rfl, rfl, fun h1 => (by cases h1), by simp [St.cr, RSt.cr, h.len], fun i hi => ?_⟩
  have hi' : i < m.dv.length := by simpa [RSt.cr] using hi
  have hs : i < s.dv.length := by rw [h.len]; exact hi'
  have hd := h.dv i hi'
  have e1 : (s.cr l).dv.getD i default = (s.dv.getD i default).settle (fun n => keepOf l i n) := by
    simp [St.cr, List.getD_eq_getElem?_getD, List.getElem?_mapIdx, List.getElem?_eq_getElem hs]
  have e2 : (m.cr l).dv.getD i default = (m.dv.getD i default).settle (fun n => keepOf l i n) := by
    simp [RSt.cr, List.getD_eq_getElem?_getD, List.getElem?_mapIdx, List.getElem?_eq_getElem hi']
  rw [e1, e2]; exact hd.settle _
theorem Rl.read {s : St} {m : RSt} (h : Rl s m) (dev i : Int) : (m.rd dev i).1 = (s.rd dev i).1 ∧ (m.rd dev i).2 = (s.rd dev i).2.getD 0 := by
  unfold St.rd RSt.rd
  rw [h.go, h.has dev i]
  by_cases hg : m.gone = true
  · rw [if_pos hg, if_pos hg]; exact ⟨rfl, rfl⟩
  · rw [if_neg hg, if_neg hg]
    by_cases hh : m.has dev i = true
    · rw [if_pos hh, if_pos hh]
      refine ⟨?_, rfl⟩
      unfold RSt.has at hh
      rw [Bool.and_eq_true, decide_eq_true_eq, decide_eq_true_eq] at hh
      have hd := h.dv dev.toNat (by omega)
      unfold Dv.read
      rw [hd.wa, hd.su, if_pos hh.2]
    · rw [if_neg hh, if_neg hh]; exact ⟨rfl, rfl⟩
end Go.Proofs.Ytigofhhonnbkmaa.HL
end
section
namespace Go.Proofs.Ytigofhhonnbkmaa.HL
open Go Go.Proofs
set_option linter.unusedSimpArgs false
set_option linter.unusedVariables false
attribute [local irreducible] Lt Lq CW OW TW CallH
theorem OwnS.byte {H : Hp} {E : TypeId} {r n cap : Nat} {L : List Sec} {c : Array Value} {x old : Sec} {i b : Nat} (h : OwnS H E 64 (.slice (some ⟨r, 0, none⟩) n cap) n (secs (L.set i (mixS x old b))) (some r)) (hc : H r = some (.cells c E)) (hn : n = L.length) (hi : i < n) (hb : b < 64) : OwnS (H.upd r (.cells (c.setIfInBounds (i * 64 + b) (.int .u8 (x.b.getD b 0))) E)) E 64 (.slice (some ⟨r, 0, none⟩) n cap) n (secs (L.set i (mixS x old (b + 1)))) (some r) := by
  obtain ⟨h1, ⟨h2, _, _⟩ | ⟨r', cap', c', h3, h4, h5, h6, h7, h8⟩⟩ := h
  · cases h2
  · cases h3
    rw [hc] at h4; cases h4
    have m1 := Nat.mul_le_mul_right 64 (show i + 1 ≤ n by omega)
    have m2 := Nat.mul_le_mul_right 64 h5
    refine ⟨by rw [flat_size Sec.len, List.length_set, hn], .inr ⟨r, cap, _, rfl, zan _ _ _, h5, by simpa using h6, ?_, rfl⟩⟩
    have e : secs (L.set i (mixS x old (b + 1))) = (secs (L.set i (mixS x old b))).set (i * 64 + b) (.int .u8 (x.b.getD b 0)) := by
      have f1 : ∀ y : Sec, secs (L.set i y) = (secs L).take (i * 64) ++ y.c ++ (secs L).drop (i * 64 + 64) := fun y => flat_set Sec.len L i y (by omega)
      rw [f1, f1]
      have hl : ((secs L).take (i * 64)).length = i * 64 := by rw [List.length_take, flat_size Sec.len]; omega
      rw [List.append_assoc, List.append_assoc, List.set_append_right _ _ (by rw [hl]; omega), hl, Nat.add_sub_cancel_left, List.set_append_left _ _ (by rw [Sec.len]; omega)]
      congr 2
      simp only [Sec.c, u8s, mix_next x old b hb, List.map_set]
    rw [e, ← h7]
    simp only [Array.toList_extract, List.extract_eq_take_drop, Array.toList_setIfInBounds, List.drop_zero, Nat.sub_zero, List.take_set]
end Go.Proofs.Ytigofhhonnbkmaa.HL
end
section
namespace Go.Proofs.Ytigofhhonnbkmaa.HL
open Go Go.Proofs
set_option linter.unusedSimpArgs false
set_option linter.unusedVariables false
attribute [local irreducible] Lt Lq CW OW TW CallH
structure NC (H0 H : Hp) (D : List RDv) (k : Nat) (v : Value) (rs : Option Nat) (X : List RDX) (G : Hp) : Prop where
  len : X.length = k
  own : OwnS H 67 2 v k (X.flatMap RDX.c) rs
  ok : ∀ x ∈ X, x.ok G
  le : Le G H
  fr : ∀ b, G b ≠ none → H0 b = none
  frr : ∀ r, rs = some r → H0 r = none ∧ G r = none
  old : Le H0 H
  dv : rdv X = D.take k
theorem keepOf_at {l : List Kp} {q : Nat} (hq : q < l.length) {dev n : Int} (h1 : (l.getD q default).dev = dev) (h2 : (l.getD q default).n = n) (hno : ∀ t, t < q → ¬ ((l.getD t default).dev = dev ∧ (l.getD t default).n = n)) : keepOf l dev n = some (l.getD q default).tear := by
  unfold keepOf
  rw [find_at _ l q hq (by simp only [h1, h2, decide_true, Bool.and_self]) (fun t ht => ?_)]
  · rfl
  · have := hno t ht
    rw [Bool.and_eq_false_iff]
    simp only [decide_eq_false_iff_not]
    by_cases e : (l.getD t default).dev = dev
    · exact .inr (fun e2 => this ⟨e, e2⟩)
    · exact .inl e
theorem keepOf_no {l : List Kp} {dev n : Int} (hno : ∀ t, t < l.length → ¬ ((l.getD t default).dev = dev ∧ (l.getD t default).n = n)) : keepOf l dev n = none := by
  unfold keepOf
  rw [find_no _ l (fun t ht => ?_)]
  · rfl
  · have := hno t ht
    rw [Bool.and_eq_false_iff]
    simp only [decide_eq_false_iff_not]
    by_cases e : (l.getD t default).dev = dev
    · exact .inr (fun e2 => this ⟨e, e2⟩)
    · exact .inl e
end Go.Proofs.Ytigofhhonnbkmaa.HL
end
section
namespace Go.Proofs.Ytigofhhonnbkmaa.HL
open Go Go.Proofs
set_option linter.unusedSimpArgs false
set_option linter.unusedVariables false
attribute [local irreducible] Lt Lq CW OW TW CallH
theorem crW_no {kept : Nat → Option Int} {ws : List Wt} {sec : List Sec} {j : Nat} (h : kept j = none) : crW kept ws sec (j + 1) = crW kept ws sec j := by
  conv => lhs; unfold crW
  rw [h]
theorem crW_at {kept : Nat → Option Int} {ws : List Wt} {sec : List Sec} {j mo : Nat} {t : Int} (h : kept j = some t) (hm : mo = if 0 < t ∧ t < 64 then t.toNat else 64) : crW kept ws sec (j + 1) = (crW kept ws sec j).set (ws.getD j default).at_.toNat (mixS (ws.getD j default).x ((crW kept ws sec j).getD (ws.getD j default).at_.toNat default) mo) := by
  conv => lhs; unfold crW
  rw [h]
  simp only [torn_mix, hm]
theorem set_same {L : List Sec} {i : Nat} (h : i < L.length) (x : Sec) : L.set i (mixS x (L.getD i default) 0) = L := by
  rw [mix_zero, List.getD_eq_getElem?_getD, List.getElem?_eq_getElem h]
  simp
theorem cr_dv (m : RSt) (l : List Kp) (k : Nat) (hk : k < m.dv.length) : (m.cr l).dv.getD k default = ⟨crW (fun n => keepOf l (k : Int) n) (m.dv.getD k default).wait (m.dv.getD k default).sec (m.dv.getD k default).wait.length, []⟩ := by
  simp only [RSt.cr, List.getD_eq_getElem?_getD, List.getElem?_mapIdx, List.getElem?_eq_getElem hk, Option.map_some, Option.getD_some, RDv.settle]
theorem NC.next {H0 H HF : Hp} {D : List RDv} {k : Nat} {v : Value} {rs : Option Nat} {X : List RDX} {G : Hp} (h : NC H0 H D k v rs X G) (hk : k < D.length) {b : Nat} (hb : H b = none) {y : RDX} {o : Obj} (hy : y.ok (emptyHp.upd b o)) (hyd : y.d = D.getD k default) {v' : Value} {rs' : Option Nat}
    (hown : OwnS HF 67 2 v' (k + 1) (X.flatMap RDX.c ++ y.c) rs') (hfb : HF b = some o)
    (hkeep : ∀ x o, H x = some o → (G x ≠ none ∨ H0 x ≠ none) → HF x = some o) (hr : ∀ r, rs' = some r → rs = some r ∨ (H r = none ∧ r ≠ b)) :
    NC H0 HF D (k + 1) v' rs' (X ++ [y]) (G.upd b o) := by
  have hGb : G b = none := zag h.le hb
  refine ⟨by simp [h.len], ?_, fun x hx => ?_, ?_, fun x hx => ?_, fun r e => ?_, fun x o hx => hkeep x o (h.old x o hx) (.inr (by rw [hx]; simp)), ?_⟩
  · rw [List.flatMap_append]
    simpa using hown
  · rcases List.mem_append.1 hx with h1 | h1
    · exact (h.ok x h1).le (le_upd _ _ _ hGb)
    · simp at h1
      subst h1
      exact hy.le (fun z oz hz => by
        by_cases e : z = b
        · subst e; rw [zan] at hz ⊢; exact hz
        · rw [zap _ _ e] at hz; cases hz)
  · exact le_put (fun x o hx => hkeep x o (h.le x o hx) (.inl (by rw [hx]; simp))) hfb
  · by_cases e : x = b
    · subst e; exact zag h.old hb
    · rw [zap _ _ e] at hx; exact h.fr x hx
  · rcases hr r e with h1 | ⟨h1, h2⟩
    · refine ⟨(h.frr r h1).1, (zap _ _ (fun e2 => ?_)).trans (h.frr r h1).2⟩
      subst e2; exact h.own.known r h1 hb
    · exact ⟨zag h.old h1, (zap _ _ h2).trans (zag h.le h1)⟩
  · rw [List.take_add_one, List.getElem?_eq_getElem hk]
    simp [rdv, h.dv, hyd, List.getD_eq_getElem?_getD, List.getElem?_eq_getElem hk]
theorem wt_byte (w : Wt) {b : Nat} (hb : b < 64) : w.c.toArray[1 + b]? = some (.int .u8 (w.x.b.getD b 0)) := by
  have h := w.x.h
  rw [List.getElem?_toArray, Nat.add_comm]
  show w.x.c[b]? = _
  simp only [Sec.c, u8s, List.getElem?_map, List.getD_eq_getElem?_getD]
  rw [List.getElem?_eq_getElem (by omega)]
  rfl
end Go.Proofs.Ytigofhhonnbkmaa.HL
end
section
namespace Go.Proofs.Ytigofhhonnbkmaa.HL
open Go Go.Proofs
set_option linter.unusedSimpArgs false
set_option linter.unusedVariables false
attribute [local irreducible] Lt Lq CW OW TW CallH
theorem ycD {p q : Prop} (h : q) (e : p = q := by simp only [zao, fa143_2, zaH, Nat.reduceAdd, Nat.zero_add, eX, ↓reduceIte, Nat.reduceEqDiff, Int.reduceToNat]; exact rfl) : p := e.mpr h
theorem ycE {p q : Prop} (h : q) (e : p = q := by first | (simp only [zaH, Nat.mul_one, Nat.zero_add, Int.toNat_natCast]; exact rfl) | exact rfl) : p := e.mpr h
set_option maxRecDepth 100000 in
set_option maxHeartbeats 16000000 in
theorem rcrash_ok (H : Hp) (a : Option Addr) (cap : Nat) (X : List RDX) (hX : RX H a cap X) (m : RSt) (hm : m.dv = rdv X) (hl : X.length ≤ 5) (n : Nat) (hn : n ≤ 1000000) (hg : ∀ i, i < X.length → RG n (X.getD i default).d) (ka : Option Addr) (kc : Nat) (l : List Kp) (hk : Holds H 3 (.slice ka l.length kc) l.length (kps l)) (hkl : l.length ≤ 1000) : CallH Try.prog 28 #[m.v (.slice a X.length cap), .slice ka l.length kc] H (fun v H' => ∃ a' cap' X', X'.length = X.length ∧ Le H H' ∧ v = (m.cr l).v (.slice a' X'.length cap') ∧ RX H' a' cap' X' ∧ (m.cr l).dv = rdv X') := by
 refine zam (l := [_, _]) (rl := [.cell 4 52]) (n := 111) Try.func28 rfl rfl rfl rfl rfl ?_
 refine yaa ?_
 have hlen : m.dv.length = X.length := by rw [hm]; simp
 have hclen : (m.cr l).dv.length = X.length := by simp only [RSt.cr, List.length_mapIdx, hlen]
 refine zac (fun K1 hK1 => ?_)
 refine zaa ?_
 refine zab (fun K hK r => ?_)
 refine yaW ?_
 intro b2 hb2
 have f2_H : H b2 = none := zag lhA hb2
 refine yaf ?_
 refine hK _ _ ?_; clear hK K
 refine zab (fun K hK r => ?_)
 refine ycs ?_
 intro b4 hb4
 try have n4_b2 : b2 ≠ b4 := zaf hbA hb4
 have f4_H : H b4 = none := zag lhA hb4
 refine yaf ?_
 refine hK _ _ ?_; clear hK K
 refine zad ?_
 refine yab ?_
 refine hK1 _ _ ?_; try clear hK1 K1
 refine zac (fun K2 hK2 => ?_)
 refine zaa ?_
 refine zab (fun K hK r => ?_)
 refine ycv ?_
 refine hK _ _ ?_; clear hK K
 refine zab (fun K hK r => ?_)
 refine yap ?_
 refine zae Try.underlying3 rfl hbA ldA ?_
 refine yaf ?_
 refine hK _ _ ?_; clear hK K
 refine zab (fun K hK r => ?_)
 refine ycu ?_
 refine hK _ _ ?_; clear hK K
 refine zab (fun K hK r => ?_)
 refine yap ?_
 refine zae Try.underlying3 rfl hbA ldA ?_
 refine yaf ?_
 refine hK _ _ ?_; clear hK K
 refine zab (fun K hK r => ?_)
 refine ycC ?_
 rw [fill_one rfl clA bdA]
 rw [fill_one rfl clA bdA]
 refine ybe ?_
 refine yaf ?_
 refine hK _ _ ?_; clear hK K
 refine zab (fun K hK r => ?_)
 refine ycs ?_
 intro b5 hb5
 try have n5_b2 : b2 ≠ b5 := zaf hbA hb5
 try have n5_b4 : b4 ≠ b5 := zaf hbA hb5
 have f5_H : H b5 = none := zag lhA hb5
 refine yaf ?_
 refine hK _ _ ?_; clear hK K
 refine zaI rfl (zas) (fun K hK r => ?_)
 refine yaD ?_
 first | refine zak sz52 bdA hbA bdA plA (by decide) ?_ | refine zal sz52 bdA hbA bdA plA (by decide) ?_
 refine yaf ?_
 refine hK _ _ ?_; clear hK K
 refine zad ?_
 refine yab ?_
 refine hK2 _ _ ?_; try clear hK2 K2
 refine zac (fun K3 hK3 => ?_)
 refine zac (fun K4 hK4 => ?_)
 refine zaa ?_
 refine zaj rfl ?_
 refine zad ?_
 refine yab ?_
 refine hK4 _ _ ?_; try clear hK4 K4
 refine zaB ?_
 refine CW_loop (fun m_ e H_ => ∃ (k : Nat) (v : Value) (rs : Option Nat) (Y : List RDX) (G : Hp), k ≤ X.length ∧ m_ = X.length - k ∧ NC H H_ (m.cr l).dv k v rs Y G ∧ G b2 = none ∧ G b4 = none ∧ G b5 = none ∧ H_ b2 = some (.cells (m.c (.slice a X.length cap)).toArray 52) ∧ H_ b4 = some (.cells #[.slice none 0 0, .int .i64 0, .int .i64 0, .bool false, .bool false] 52) ∧ H_ b5 = some (.cells #[v, .int .i64 m.steps, .int .i64 m.left, .bool false, .bool false] 52) ∧ Env.has [(1, .slice ka l.length kc), (2, .pointer (some ⟨b2, 0, none⟩)), (4, .pointer (some ⟨b4, 0, none⟩)), (5, .pointer (some ⟨b5, 0, none⟩)), (6, .int .i64 k)] e) (X.length) ?_ ?_
 ·skip
  refine ⟨0, .slice none 0 0, none, [], emptyHp, by omega, by omega, ⟨rfl, OwnS.nil _ _ _, (fun x hx => by simp at hx), zaN _, (fun b hb => absurd rfl hb), (fun r hr => by cases hr), lhA, rfl⟩, rfl, rfl, rfl, hbA, hbA, hbA, rfl, rfl, rfl, rfl, rfl, trivial⟩
 intro m_ e_ H_ hI_
 obtain ⟨k, v, rs, Y, G, hkl_, rfl, hN, g2, g4, g5, k2, k4, k5, he⟩ := hI_
 refine CW_env he.sub ?_; clear he e_
 obtain ⟨HA, hHA⟩ : ∃ G : Hp, G = H_ := ⟨_, rfl⟩
 subst hHA
 have hOld := hN.old
 obtain ⟨va, vc, rfl⟩ := hN.own.holds.form
 refine zac (fun K5 hK5 => ?_)
 refine zac (fun K6 hK6 => ?_)
 refine zaa ?_
 refine zah rfl ?_
 refine zab (fun K hK r => ?_)
 refine yco ?_
 refine hK _ _ ?_; clear hK K
 refine zab (fun K hK r => ?_)
 refine yap ?_
 refine zae Try.underlying50 rfl hbA ldA ?_
 refine yaf ?_
 refine hK _ _ ?_; clear hK K
 refine zab (fun K hK r => ?_)
 refine ycp ?_
 refine hK _ _ ?_; clear hK K
 refine zab (fun K hK r => ?_)
 refine yac ?_
 refine hK _ _ ?_; clear hK K
 refine zad ?_
 refine yab ?_
 refine hK6 _ _ ?_; try clear hK6 K6
 refine zar (fun r => rfl) (fun c23 => ?_) (fun c23 => ?_)
 ·first
  |(exfalso; exact cnA c23; done)
  |skip
   (try replace c23 := yad c23)
   obtain ⟨bw, ow, cw, Tw, Fw, ew, hbw, hsw, atw⟩ := hX.h.at (by omega)
   have hxok := hX.ok _ (getD_mem' (show k < X.length by omega))
   have hgx := hg k (by omega)
   have hL := hgx.lo
   have hwl := Nat.le_trans hgx.w hn
   have mk := Nat.mul_le_mul_right 2 (show k + 1 ≤ X.length by omega)
   refine zau ?_
   refine yab ?_
   refine hK5 _ _ ?_; try clear hK5 K5
   refine zac (fun K7 hK7 => ?_)
   refine zaB ?_
   refine zac (fun K8 hK8 => ?_)
   refine zaa ?_
   refine zab (fun K hK r => ?_)
   refine yco ?_
   refine hK _ _ ?_; clear hK K
   refine zab (fun K hK r => ?_)
   refine yap ?_
   refine zae Try.underlying50 rfl hbA ldA ?_
   refine yaf ?_
   refine hK _ _ ?_; clear hK K
   refine zah rfl ?_
   refine zab (fun K hK r => ?_)
   refine yaw ?_
   refine zaK Try.underlying50 sz67 ew ixA ixA ?_
   refine ybp ?_
   refine hK _ _ ?_; clear hK K
   refine zab (fun K hK r => ?_)
   refine yap ?_
   refine zaq Try.underlying67 rfl sz67 (hOld _ _ hbw) (by omega) ?_
   rw [ext_at RDX.len atw rfl k (by omega) hsw]
   refine hK _ _ ?_; clear hK K
   refine zab (fun K hK r => ?_)
   refine ycw ?_
   intro b7 hb7
   try have n7_b2 : b2 ≠ b7 := zaf hbA hb7
   try have n7_b4 : b4 ≠ b7 := zaf hbA hb7
   try have n7_b5 : b5 ≠ b7 := zaf hbA hb7
   have f7_H : H b7 = none := zag lhA hb7
   refine yaf ?_
   refine hK _ _ ?_; clear hK K
   refine zaI rfl (zas) (fun K hK r => ?_)
   refine yaD ?_
   first | refine zak sz67 bdA hbA bdA plA (by decide) ?_ | refine zal sz67 bdA hbA bdA plA (by decide) ?_
   refine yaf ?_
   refine hK _ _ ?_; clear hK K
   refine zad ?_
   refine yab ?_
   refine hK8 _ _ ?_; try clear hK8 K8
   refine zac (fun K9 hK9 => ?_)
   refine zaa ?_
   refine zab (fun K hK r => ?_)
   refine yaT ?_
   refine zaJ (vs := []) Try.underlying64 sz30 zr30 rfl bsA (by first | decide | (simp; done)) ?_
   refine yaU ?_
   intro b31 hb31
   try have n31_b2 : b2 ≠ b31 := zaf hbA hb31
   try have n31_b4 : b4 ≠ b31 := zaf hbA hb31
   try have n31_b5 : b5 ≠ b31 := zaf hbA hb31
   try have n31_b7 : b7 ≠ b31 := zaf hbA hb31
   have f31_H : H b31 = none := zag lhA hb31
   refine yaf ?_
   refine hK _ _ ?_; clear hK K
   refine zab (fun K hK r => ?_)
   refine ycq ?_
   refine hK _ _ ?_; clear hK K
   refine zab (fun K hK r => ?_)
   refine yap ?_
   refine zae Try.underlying64 rfl hbA ldA ?_
   refine yaf ?_
   refine hK _ _ ?_; clear hK K
   refine zab (fun K hK r => ?_)
   refine yaV ?_
   obtain ⟨HQ, hHQ⟩ : ∃ G : Hp, G = HA.upd b7 (.cells (X.getD k default).c.toArray 67) := ⟨_, rfl⟩
   have h31 : HQ b31 = none := by rw [hHQ]; exact hb31
   rw [← hHQ]
   refine Lt_appendNew Try.underlying64 sz30 by30 (by decide) zr30 rfl _ (m := (X.getD k default).d.sec.length) (ds := secs (X.getD k default).d.sec) (zan _ _ _) (hxok.s.le (Le.trans hOld (Le.trans (le_upd _ _ _ hb7) (by rw [hHQ]; exact le_upd _ _ _ hb31)))) (secs_plain _) (by have := hgx.hi; omega) ?_
   intro v34 H34 rs34 hg34 ho34 hr34
   have lQ34 : Le HQ H34 := fun z o hz => hg34.known z o ((zap _ _ (zaf hz h31)).trans hz) (fun e => by cases e; rw [h31] at hz; cases hz)
   obtain ⟨rb, c34, c34', rfl, rfl, hc34, hn34, hs34⟩ := ho34.full hL
   have hrn : HQ rb = none := (hr34 rb rfl).elim (fun e => by rw [e]; exact h31) (fun e => upd_none e)
   refine hK _ _ ?_; clear hK K
   refine zaj rfl ?_
   refine zad ?_
   refine yab ?_
   refine hK9 _ _ ?_; try clear hK9 K9
   refine zac (fun K10 hK10 => ?_)
   refine zac (fun K11 hK11 => ?_)
   refine zaa ?_
   refine zaj rfl ?_
   refine zad ?_
   refine yab ?_
   refine hK11 _ _ ?_; try clear hK11 K11
   refine zaB ?_
   refine CW_loop (fun m_ e H_ => ∃ j : Nat, j ≤ (X.getD k default).d.wait.length ∧ m_ = (X.getD k default).d.wait.length - j ∧ Le HQ H_ ∧ OwnS H_ 30 64 (.slice (some ⟨rb, 0, none⟩) (X.getD k default).d.sec.length c34) (X.getD k default).d.sec.length (secs (crW (fun n => keepOf l (k : Int) n) (X.getD k default).d.wait (X.getD k default).d.sec j)) (some rb) ∧ Env.has [(1, .slice ka l.length kc), (2, .pointer (some ⟨b2, 0, none⟩)), (4, .pointer (some ⟨b4, 0, none⟩)), (5, .pointer (some ⟨b5, 0, none⟩)), (6, .int .i64 k), (7, .pointer (some ⟨b7, 0, none⟩)), (8, .slice (some ⟨rb, 0, none⟩) (X.getD k default).d.sec.length c34), (9, .int .i64 j)] e) ((X.getD k default).d.wait.length) ?_ ?_
   ·skip
    exact ⟨0, by omega, by omega, lQ34, ho34, rfl, rfl, rfl, rfl, rfl, rfl, rfl, rfl, trivial⟩
   intro m_ e_ H_ hI_
   obtain ⟨j, hj, rfl, hlQ, hO, he⟩ := hI_
   refine CW_env he.sub ?_; clear he e_
   obtain ⟨HB, hHB⟩ : ∃ G : Hp, G = H_ := ⟨_, rfl⟩
   subst hHB
   have k7 : HB b7 = some (.cells (X.getD k default).c.toArray 67) := hlQ _ _ (by rw [hHQ]; exact zan _ _ _)
   have hkk : Le H HB := Le.trans hOld (Le.trans (by rw [hHQ]; exact le_upd _ _ _ hb7) hlQ)
   refine zac (fun K12 hK12 => ?_)
   refine zac (fun K13 hK13 => ?_)
   refine zaa ?_
   refine zah rfl ?_
   refine zab (fun K hK r => ?_)
   refine ycB ?_
   refine hK _ _ ?_; clear hK K
   refine zab (fun K hK r => ?_)
   refine yap ?_
   refine zae Try.underlying65 rfl hbA ldA ?_
   refine yaf ?_
   refine hK _ _ ?_; clear hK K
   refine zab (fun K hK r => ?_)
   refine ycy ?_
   refine hK _ _ ?_; clear hK K
   refine zab (fun K hK r => ?_)
   refine yac ?_
   refine hK _ _ ?_; clear hK K
   refine zad ?_
   refine yab ?_
   refine hK13 _ _ ?_; try clear hK13 K13
   refine zar (fun r => rfl) (fun c39 => ?_) (fun c39 => ?_)
   ·first
    |(exfalso; exact cnA c39; done)
    |skip
     (try replace c39 := yad c39)
     obtain ⟨bv, ov, cv, Tv, Fv, ev, hbv, hsv, atv⟩ := hxok.w.at (by omega)
     have hik := hgx.at_ j (by omega)
     have mj := Nat.mul_le_mul_right 65 (show j + 1 ≤ (X.getD k default).d.wait.length by omega)
     have mi := Nat.mul_le_mul_right 64 (show ((X.getD k default).d.wait.getD j default).at_.toNat + 1 ≤ (X.getD k default).d.sec.length by omega)
     refine zau ?_
     refine yab ?_
     refine hK12 _ _ ?_; try clear hK12 K12
     refine CW_cut (fun e H_ => Le HQ H_ ∧ OwnS H_ 30 64 (.slice (some ⟨rb, 0, none⟩) (X.getD k default).d.sec.length c34) (X.getD k default).d.sec.length (secs (crW (fun n => keepOf l (k : Int) n) (X.getD k default).d.wait (X.getD k default).d.sec (j + 1))) (some rb) ∧ Env.has [(1, .slice ka l.length kc), (2, .pointer (some ⟨b2, 0, none⟩)), (4, .pointer (some ⟨b4, 0, none⟩)), (5, .pointer (some ⟨b5, 0, none⟩)), (6, .int .i64 k), (7, .pointer (some ⟨b7, 0, none⟩)), (8, .slice (some ⟨rb, 0, none⟩) (X.getD k default).d.sec.length c34), (9, .int .i64 j)] e) ?_ ?_
     ·skip
      refine zaB ?_
      refine zac (fun K14 hK14 => ?_)
      refine zaa ?_
      refine zaj rfl ?_
      refine zad ?_
      refine yab ?_
      refine hK14 _ _ ?_; try clear hK14 K14
      refine zaB ?_
      refine CW_loop (fun m_ e H_ => ∃ q : Nat, q ≤ l.length ∧ m_ = l.length - q ∧ H_ = HB ∧ (∀ t, t < q → ¬ ((l.getD t default).dev = (k : Int) ∧ (l.getD t default).n = (j : Int))) ∧ Env.has [(1, .slice ka l.length kc), (2, .pointer (some ⟨b2, 0, none⟩)), (4, .pointer (some ⟨b4, 0, none⟩)), (5, .pointer (some ⟨b5, 0, none⟩)), (6, .int .i64 k), (7, .pointer (some ⟨b7, 0, none⟩)), (8, .slice (some ⟨rb, 0, none⟩) (X.getD k default).d.sec.length c34), (9, .int .i64 j), (10, .int .i64 q)] e) (l.length) ?_ ?_
      ·skip
       exact ⟨0, by omega, by omega, rfl, (fun t ht => absurd ht (by omega)), rfl, rfl, rfl, rfl, rfl, rfl, rfl, rfl, rfl, trivial⟩
      intro m_ e_ H_ hI_
      obtain ⟨q, hq, rfl, hHe, hno, he⟩ := hI_
      refine CW_env he.sub ?_; clear he e_
      have hHe := hHe.symm
      subst hHe
      refine zac (fun K15 hK15 => ?_)
      refine zac (fun K16 hK16 => ?_)
      refine zaa ?_
      refine zah rfl ?_
      refine zah rfl ?_
      refine zab (fun K hK r => ?_)
      refine ycl ?_
      refine hK _ _ ?_; clear hK K
      refine zab (fun K hK r => ?_)
      refine yac ?_
      refine hK _ _ ?_; clear hK K
      refine zad ?_
      refine yab ?_
      refine hK16 _ _ ?_; try clear hK16 K16
      refine zar (fun r => rfl) (fun c45 => ?_) (fun c45 => ?_)
      ·first
       |(exfalso; exact cnA c45; done)
       |skip
        (try replace c45 := yad c45)
        obtain ⟨bk, ok, ck, Tk, Fk, ek, hbk, hsk, atk⟩ := hk.at (by omega)
        refine zau ?_
        refine yab ?_
        refine hK15 _ _ ?_; try clear hK15 K15
        refine zac (fun K17 hK17 => ?_)
        refine zaB ?_
        refine zac (fun K18 hK18 => ?_)
        refine zac (fun K19 hK19 => ?_)
        refine zaa ?_
        refine zah rfl ?_
        refine zah rfl ?_
        refine zab (fun K hK r => ?_)
        refine yaw ?_
        refine zaK Try.underlying56 sz143 ek ixA ixA ?_
        refine ybp ?_
        refine hK _ _ ?_; clear hK K
        refine zab (fun K hK r => ?_)
        simp only [zao, fa143_0, zaH, Nat.reduceAdd, Nat.zero_add, eX, ↓reduceIte, Nat.reduceEqDiff, Int.reduceToNat]
        refine hK _ _ ?_; clear hK K
        refine zab (fun K hK r => ?_)
        refine yap ?_
        refine zae Try.underlying3 rfl ((show Le H _ from lhA) _ _ hbk) (v := .int .i64 (l.getD q default).dev) (by first | exact cell_at Kp.len atk rfl q (by omega) 0 (by decide) | (rw [cell_at Kp.len atk rfl q (by omega) 0 (by decide)]; rfl)) ?_
        refine hK _ _ ?_; clear hK K
        refine zah rfl ?_
        refine zab (fun K hK r => ?_)
        refine yak ?_
        refine hK _ _ ?_; clear hK K
        refine zah rfl ?_
        (first | refine zaA (d := 55) rfl (fun g55 => ?_) (fun g55 => ?_) | skip)
        all_goals try (exfalso; exact cnA g55)
        all_goals (try replace g55 := yad g55)
        all_goals
         refine yaf ?_
         first
         |refine yGT (fun K hK r => ?_)
          refine yai ?_
          refine hK _ _ ?_; clear hK K
         |refine yGF ?_
          refine yaj ?_
         first
         |refine yGT (fun K hK r => ?_)
          refine yai ?_
          refine hK _ _ ?_; clear hK K
         |refine yGF ?_
          refine yaj ?_
         first
         |refine yGT (fun K hK r => ?_)
          refine yaw ?_
          refine zaK Try.underlying56 sz143 ek ixA ixA ?_
          refine ybp ?_
          refine hK _ _ ?_; clear hK K
         |refine yGF ?_
          refine yaj ?_
         first
         |refine yGT (fun K hK r => ?_)
          simp only [zao, fa143_1, zaH, Nat.reduceAdd, Nat.zero_add, eX, ↓reduceIte, Nat.reduceEqDiff, Int.reduceToNat]
          refine hK _ _ ?_; clear hK K
         |refine yGF ?_
          refine yaj ?_
         first
         |refine yGT (fun K hK r => ?_)
          refine yap ?_
          refine zae Try.underlying3 rfl ((show Le H _ from lhA) _ _ hbk) (v := .int .i64 (l.getD q default).n) (by first | exact cell_at Kp.len atk rfl q (by omega) 1 (by decide) | (rw [cell_at Kp.len atk rfl q (by omega) 1 (by decide)]; rfl)) ?_
          refine hK _ _ ?_; clear hK K
         |refine yGF ?_
          refine yaj ?_
         first
         |refine yGT (fun K hK r => ?_)
          refine yai ?_
          refine hK _ _ ?_; clear hK K
         |refine yGF ?_
          refine yaj ?_
         first
         |refine yGT (fun K hK r => ?_)
          refine yak ?_
          refine hK _ _ ?_; clear hK K
         |refine yGF ?_
          refine yaj ?_
         refine zab (fun K hK r => ?_)
         refine yal ?_
         refine hK _ _ ?_; clear hK K
         refine zad ?_
         refine yab ?_
         refine hK19 _ _ ?_; try clear hK19 K19
         refine zar (fun r => rfl) (fun c63 => ?_) (fun c63 => ?_)
         ·first
          |(exfalso; exact cnA c63; done)
          |skip
           (try replace c63 := yad c63)
           have hno1 : ¬ ((l.getD q default).dev = (k : Int) ∧ (l.getD q default).n = (j : Int)) := by omega
           refine CW_exit ?_
           refine yab ?_
           refine hK17 _ _ ?_; try clear hK17 K17
           refine zaa ?_
           refine zah rfl ?_
           refine zab (fun K hK r => ?_)
           refine yaq ?_
           refine hK _ _ ?_; clear hK K
           refine zaj rfl ?_
           refine zad ?_
           refine yab ?_
           refine ⟨l.length - (q + 1), by omega, q + 1, by omega, rfl, rfA, (fun t ht => ?_), rfl, rfl, rfl, rfl, rfl, rfl, rfl, rfl, rfl, trivial⟩
           by_cases e : t = q
           ·subst e; exact hno1
           ·exact hno t (by omega)
         ·first
          |(exfalso; exact cnA c63; done)
          |skip
           (try replace c63 := yad c63)
           have hyes : (l.getD q default).dev = (k : Int) ∧ (l.getD q default).n = (j : Int) := by omega
           refine zau ?_
           refine yab ?_
           refine hK18 _ _ ?_; try clear hK18 K18
           refine zac (fun K20 hK20 => ?_)
           refine zaa ?_
           refine zab (fun K hK r => ?_)
           refine ycB ?_
           refine hK _ _ ?_; clear hK K
           refine zab (fun K hK r => ?_)
           refine yap ?_
           refine zae Try.underlying65 rfl hbA ldA ?_
           refine yaf ?_
           refine hK _ _ ?_; clear hK K
           refine zah rfl ?_
           refine zab (fun K hK r => ?_)
           refine yaw ?_
           refine zaK Try.underlying65 sz135 ev ixA ixA ?_
           refine ybp ?_
           refine hK _ _ ?_; clear hK K
           refine zab (fun K hK r => ?_)
           refine yap ?_
           refine zaq Try.underlying135 rfl sz135 (hkk _ _ hbv) (by omega) ?_
           rw [ext_at Wt.len atv rfl j (by omega) hsv]
           refine hK _ _ ?_; clear hK K
           refine zab (fun K hK r => ?_)
           simp only [x_alloc, zr135, zay, Value.cells, eX, ↓reduceIte, Nat.reduceEqDiff, Int.reduceToNat]
           intro b11 hb11
           try have n11_b2 : b2 ≠ b11 := zaf hbA hb11
           try have n11_b4 : b4 ≠ b11 := zaf hbA hb11
           try have n11_b5 : b5 ≠ b11 := zaf hbA hb11
           try have n11_b7 : b7 ≠ b11 := zaf hbA hb11
           try have n11_b31 : b31 ≠ b11 := zaf hbA hb11
           have f11_H : H b11 = none := zag lhA hb11
           refine yaf ?_
           refine hK _ _ ?_; clear hK K
           refine zaI rfl (zas) (fun K hK r => ?_)
           refine yaD ?_
           refine zak sz135 (by rw [List.size_toArray, Wt.len]) hbA (by simp [Sec.h]) (Wt.plain _) (by decide) ?_
           refine hK _ _ ?_; clear hK K
           refine zad ?_
           refine yab ?_
           refine hK20 _ _ ?_; try clear hK20 K20
           refine zac (fun K21 hK21 => ?_)
           refine zaa ?_
           refine zaj rfl ?_
           refine zad ?_
           refine yab ?_
           refine hK21 _ _ ?_; try clear hK21 K21
           refine zac (fun K22 hK22 => ?_)
           refine zac (fun K23 hK23 => ?_)
           refine zaa ?_
           refine zah rfl ?_
           refine zah rfl ?_
           refine zab (fun K hK r => ?_)
           refine yaw ?_
           refine zaK Try.underlying56 sz143 ek ixA ixA ?_
           refine ybp ?_
           refine hK _ _ ?_; clear hK K
           refine zab (fun K hK r => ?_)
           refine ycD ?_
           refine hK _ _ ?_; clear hK K
           refine zab (fun K hK r => ?_)
           refine yap ?_
           refine zae Try.underlying3 rfl ((show Le H _ from lhA) _ _ hbk) (v := .int .i64 (l.getD q default).tear) (by first | exact cell_at Kp.len atk rfl q (by omega) 2 (by decide) | (rw [cell_at Kp.len atk rfl q (by omega) 2 (by decide)]; rfl)) ?_
           refine hK _ _ ?_; clear hK K
           refine zab (fun K hK r => ?_)
           refine yaZ ?_
           refine hK _ _ ?_; clear hK K
           refine zah rfl ?_
           (first | refine zaA (d := 75) rfl (fun g75 => ?_) (fun g75 => ?_) | skip)
           all_goals try (exfalso; exact cnA g75)
           all_goals (try replace g75 := yad g75)
           all_goals
            refine yaf ?_
            first
            |refine yGT (fun K hK r => ?_)
             refine yai ?_
             refine hK _ _ ?_; clear hK K
            |refine yGF ?_
             refine yaj ?_
            first
            |refine yGT (fun K hK r => ?_)
             refine yai ?_
             refine hK _ _ ?_; clear hK K
            |refine yGF ?_
             refine yaj ?_
            first
            |refine yGT (fun K hK r => ?_)
             refine yaw ?_
             refine zaK Try.underlying56 sz143 ek ixA ixA ?_
             refine ybp ?_
             refine hK _ _ ?_; clear hK K
            |refine yGF ?_
             refine yaj ?_
            first
            |refine yGT (fun K hK r => ?_)
             refine ycD ?_
             refine hK _ _ ?_; clear hK K
            |refine yGF ?_
             refine yaj ?_
            first
            |refine yGT (fun K hK r => ?_)
             refine yap ?_
             refine zae Try.underlying3 rfl ((show Le H _ from lhA) _ _ hbk) (v := .int .i64 (l.getD q default).tear) (by first | exact cell_at Kp.len atk rfl q (by omega) 2 (by decide) | (rw [cell_at Kp.len atk rfl q (by omega) 2 (by decide)]; rfl)) ?_
             refine hK _ _ ?_; clear hK K
            |refine yGF ?_
             refine yaj ?_
            first
            |refine yGT (fun K hK r => ?_)
             refine yac ?_
             refine hK _ _ ?_; clear hK K
            |refine yGF ?_
             refine yaj ?_
            refine zab (fun K hK r => ?_)
            refine yal ?_
            refine hK _ _ ?_; clear hK K
            refine zad ?_
            refine yab ?_
            refine hK23 _ _ ?_; try clear hK23 K23
            refine zar (fun r => rfl) (fun c82 => ?_) (fun c82 => ?_)
            ·first
             |(exfalso; exact cnA c82; done)
             |skip
              (try replace c82 := yad c82)
              refine zaa ?_
              refine zah rfl ?_
              refine zah rfl ?_
              refine zab (fun K hK r => ?_)
              refine yaw ?_
              refine zaK Try.underlying56 sz143 ek ixA ixA ?_
              refine ybp ?_
              refine hK _ _ ?_; clear hK K
              refine zab (fun K hK r => ?_)
              refine ycD ?_
              refine hK _ _ ?_; clear hK K
              refine zab (fun K hK r => ?_)
              refine yap ?_
              refine zae Try.underlying3 rfl ((show Le H _ from lhA) _ _ hbk) (v := .int .i64 (l.getD q default).tear) (by first | exact cell_at Kp.len atk rfl q (by omega) 2 (by decide) | (rw [cell_at Kp.len atk rfl q (by omega) 2 (by decide)]; rfl)) ?_
              obtain ⟨mo, hmo, hmo2⟩ : ∃ mo : Nat, (mo : Int) = (l.getD q default).tear ∧ mo = (if 0 < (l.getD q default).tear ∧ (l.getD q default).tear < 64 then (l.getD q default).tear.toNat else 64) := ⟨(l.getD q default).tear.toNat, by omega, by rw [if_pos (by omega)]⟩
              refine hK _ _ ?_; clear hK K
              refine zaj rfl ?_
              refine zad ?_
              refine yab ?_
              refine hK22 _ _ ?_; try clear hK22 K22
              refine zac (fun K24 hK24 => ?_)
              refine zac (fun K25 hK25 => ?_)
              refine zaa ?_
              refine zaj rfl ?_
              refine zad ?_
              refine yab ?_
              refine hK25 _ _ ?_; try clear hK25 K25
              refine zaB ?_
              refine CW_loop (fun m_ e H_ => ∃ b : Nat, b ≤ mo ∧ m_ = mo - b ∧ Le HQ H_ ∧ OwnS H_ 30 64 (.slice (some ⟨rb, 0, none⟩) (X.getD k default).d.sec.length c34) (X.getD k default).d.sec.length (secs ((crW (fun n => keepOf l (k : Int) n) (X.getD k default).d.wait (X.getD k default).d.sec j).set ((X.getD k default).d.wait.getD j default).at_.toNat (mixS ((X.getD k default).d.wait.getD j default).x ((crW (fun n => keepOf l (k : Int) n) (X.getD k default).d.wait (X.getD k default).d.sec j).getD ((X.getD k default).d.wait.getD j default).at_.toNat default) b))) (some rb) ∧ H_ b11 = some (.cells ((X.getD k default).d.wait.getD j default).c.toArray 135) ∧ Env.has [(1, .slice ka l.length kc), (2, .pointer (some ⟨b2, 0, none⟩)), (4, .pointer (some ⟨b4, 0, none⟩)), (5, .pointer (some ⟨b5, 0, none⟩)), (6, .int .i64 k), (7, .pointer (some ⟨b7, 0, none⟩)), (8, .slice (some ⟨rb, 0, none⟩) (X.getD k default).d.sec.length c34), (9, .int .i64 j), (10, .int .i64 q), (11, .pointer (some ⟨b11, 0, none⟩)), (12, .int .i64 (mo : Int)), (13, .int .i64 b)] e) (mo) ?_ ?_
              ·skip
               refine ⟨0, by omega, by omega, Le.trans hlQ (le_upd _ _ _ (by assumption)), ?_, zan _ _ _, rfl, rfl, rfl, rfl, rfl, rfl, rfl, rfl, rfl, rfl, ?_, rfl, trivial⟩
               ·rw [set_same (by rw [crW_len]; omega)]
                exact hO.make (by assumption)
               ·first
                |(show some (Value.int _ _) = some (Value.int _ _); rw [hmo]; done)
                |(show some (Value.int _ _) = some (Value.int _ _); rw [hmo]; rfl)
              intro m_ e_ H_ hI_
              obtain ⟨b, hbm_, rfl, hlQ3, hO3, k11, he⟩ := hI_
              refine CW_env he.sub ?_; clear he e_
              obtain ⟨HD, hHD⟩ : ∃ G : Hp, G = H_ := ⟨_, rfl⟩
              subst hHD
              refine zac (fun K26 hK26 => ?_)
              refine zac (fun K27 hK27 => ?_)
              refine zaa ?_
              refine zah rfl ?_
              refine zah rfl ?_
              refine zab (fun K hK r => ?_)
              refine yac ?_
              refine hK _ _ ?_; clear hK K
              refine zad ?_
              refine yab ?_
              refine hK27 _ _ ?_; try clear hK27 K27
              refine zar (fun r => rfl) (fun c90 => ?_) (fun c90 => ?_)
              ·first
               |(exfalso; exact cnA c90; done)
               |skip
                (try replace c90 := yad c90)
                have hb64 : b < 64 := by
                 have : mo ≤ 64 := by rw [hmo2]; split <;> omega
                 omega
                refine zau ?_
                refine yab ?_
                refine hK26 _ _ ?_; try clear hK26 K26
                refine zac (fun K28 hK28 => ?_)
                refine zaB ?_
                obtain ⟨R21, hR21⟩ : ∃ R : Hp, R = emptyHp.upd b11 (.cells ((X.getD k default).d.wait.getD j default).c.toArray 135) := ⟨_, rfl⟩
                refine CW_drawR [0, 0, 1, 0, 0, 0, 0, 1, 0, 0, 3] [0, 1, 2, 3, 4, 5, 6, 7, 8, 9, 10] R21 (by kernel_rfl) (by kernel_rfl) (by subst hR21; exact le_put (zaN _) k11) (fun lR21 => ?_)
                apply zat rfl (zai (by decide)) rfl
                ·intro r
                 refine yaI ?_
                 exact ⟨rfl, Le.refl _⟩
                refine yaj ?_
                apply zat rfl (zai (by decide)) rfl
                ·intro r
                 refine ycz ?_
                 exact ⟨rfl, Le.refl _⟩
                refine yaj ?_
                apply zaO rfl (zai (by decide)) rfl
                ·intro r
                 refine yba ?_
                 refine zae Try.underlying3 rfl hbA ldA ?_
                 exact ⟨rfl, Le.refl _⟩
                refine yaj ?_
                apply zat rfl (zai (by decide)) rfl
                ·intro r
                 refine yaI ?_
                 exact ⟨rfl, Le.refl _⟩
                refine yaj ?_
                apply zat rfl (zai (by decide)) rfl
                ·intro r
                 refine yaI ?_
                 exact ⟨rfl, Le.refl _⟩
                refine yaj ?_
                apply zat rfl (zai (by decide)) rfl
                ·intro r
                 refine ycA ?_
                 exact ⟨rfl, Le.refl _⟩
                refine yaj ?_
                apply zat rfl (zai (by decide)) rfl
                ·intro r
                 refine yaL ?_
                 refine Lt_indexA Try.underlying30 sz5 ixA ixA ?_
                 refine ycE ?_
                 exact ⟨rfl, Le.refl _⟩
                refine yaj ?_
                apply zaO rfl (zai (by decide)) rfl
                ·intro r
                 refine yba ?_
                 refine zae Try.underlying5 rfl (by rw [hR21]; exact zan _ _ _) (v := .int .u8 (((X.getD k default).d.wait.getD j default).x.b.getD b 0)) (wt_byte _ (by omega)) ?_
                 exact ⟨rfl, Le.refl _⟩
                refine yaj ?_
                apply zat rfl (zai (by decide)) rfl
                ·intro r
                 refine yaL ?_
                 refine zaK Try.underlying64 sz30 rfl ixA ixA ?_
                 try simp only [Nat.zero_add]
                 exact ⟨rfl, Le.refl _⟩
                refine yaj ?_
                apply zat rfl (zai (by decide)) rfl
                ·intro r
                 refine yaL ?_
                 refine Lt_indexA Try.underlying30 sz5 ixA ixA ?_
                 refine ycE ?_
                 exact ⟨rfl, Le.refl _⟩
                refine yaj ?_
                refine TW_last rfl (zas) rfl (fun K hK r => ?_)
                refine yaD ?_
                obtain ⟨r_, cap_, cr, e1, e2, hcr, hnr, hsr⟩ := hO3.full hL
                cases e1
                cases e2
                have mc := Nat.mul_le_mul_right 64 (show ((X.getD k default).d.wait.getD j default).at_.toNat + 1 ≤ c34 by omega)
                refine zaE sz5 hcr (by rw [hsr]; omega) (plain_int _ _) fzA ?_
                have hO' := OwnS.byte hO3 hcr (crW_len _ _ _ _).symm (i := ((X.getD k default).d.wait.getD j default).at_.toNat) (by omega) hb64
                refine hK _ _ ?_; clear hK K
                refine TW_nil ?_
                refine yab ?_
                refine hK28 _ _ ?_; try clear hK28 K28
                refine zaa ?_
                refine zah rfl ?_
                refine zab (fun K hK r => ?_)
                refine yaq ?_
                refine hK _ _ ?_; clear hK K
                refine zaj rfl ?_
                refine zad ?_
                refine yab ?_
                exact ⟨mo - (b + 1), by omega, b + 1, by omega, rfl, zaw hlQ3 hrn, hO', (zap _ _ (fun e => hO3.neT k11 (by decide) (by rw [e]))).trans k11, rfl, rfl, rfl, rfl, rfl, rfl, rfl, rfl, rfl, rfl, rfl, rfl, trivial⟩
              ·first
               |(exfalso; exact cnA c90; done)
               |skip
                (try replace c90 := yad c90)
                have hbm : b = mo := by omega
                have hlF : Le HQ HD := hlQ3
                have hfin : OwnS HD 30 64 (.slice (some ⟨rb, 0, none⟩) (X.getD k default).d.sec.length c34) (X.getD k default).d.sec.length (secs (crW (fun n => keepOf l (k : Int) n) (X.getD k default).d.wait (X.getD k default).d.sec (j + 1))) (some rb) := by
                 rw [crW_at (keepOf_at (by omega) hyes.1 hyes.2 hno) hmo2, ← hbm]
                 exact hO3
                refine CW_exit ?_
                refine yab ?_
                refine hK24 _ _ ?_; try clear hK24 K24
                refine CW_exit ?_
                refine yab ?_
                exact ⟨hlF, hfin, rfl, rfl, rfl, rfl, rfl, rfl, rfl, rfl, trivial⟩
            ·first
             |(exfalso; exact cnA c82; done)
             |skip
              (try replace c82 := yad c82)
              obtain ⟨mo, hmo, hmo2⟩ : ∃ mo : Nat, (mo : Int) = 64 ∧ mo = (if 0 < (l.getD q default).tear ∧ (l.getD q default).tear < 64 then (l.getD q default).tear.toNat else 64) := ⟨64, rfl, by rw [if_neg (by omega)]⟩
              refine zau ?_
              refine yab ?_
              refine hK22 _ _ ?_; try clear hK22 K22
              refine zac (fun K29 hK29 => ?_)
              refine zac (fun K30 hK30 => ?_)
              refine zaa ?_
              refine zaj rfl ?_
              refine zad ?_
              refine yab ?_
              refine hK30 _ _ ?_; try clear hK30 K30
              refine zaB ?_
              refine CW_loop (fun m_ e H_ => ∃ b : Nat, b ≤ mo ∧ m_ = mo - b ∧ Le HQ H_ ∧ OwnS H_ 30 64 (.slice (some ⟨rb, 0, none⟩) (X.getD k default).d.sec.length c34) (X.getD k default).d.sec.length (secs ((crW (fun n => keepOf l (k : Int) n) (X.getD k default).d.wait (X.getD k default).d.sec j).set ((X.getD k default).d.wait.getD j default).at_.toNat (mixS ((X.getD k default).d.wait.getD j default).x ((crW (fun n => keepOf l (k : Int) n) (X.getD k default).d.wait (X.getD k default).d.sec j).getD ((X.getD k default).d.wait.getD j default).at_.toNat default) b))) (some rb) ∧ H_ b11 = some (.cells ((X.getD k default).d.wait.getD j default).c.toArray 135) ∧ Env.has [(1, .slice ka l.length kc), (2, .pointer (some ⟨b2, 0, none⟩)), (4, .pointer (some ⟨b4, 0, none⟩)), (5, .pointer (some ⟨b5, 0, none⟩)), (6, .int .i64 k), (7, .pointer (some ⟨b7, 0, none⟩)), (8, .slice (some ⟨rb, 0, none⟩) (X.getD k default).d.sec.length c34), (9, .int .i64 j), (10, .int .i64 q), (11, .pointer (some ⟨b11, 0, none⟩)), (12, .int .i64 (mo : Int)), (13, .int .i64 b)] e) (mo) ?_ ?_
              ·skip
               refine ⟨0, by omega, by omega, Le.trans hlQ (le_upd _ _ _ (by assumption)), ?_, zan _ _ _, rfl, rfl, rfl, rfl, rfl, rfl, rfl, rfl, rfl, rfl, ?_, rfl, trivial⟩
               ·rw [set_same (by rw [crW_len]; omega)]
                exact hO.make (by assumption)
               ·first
                |(show some (Value.int _ _) = some (Value.int _ _); rw [hmo]; done)
                |(show some (Value.int _ _) = some (Value.int _ _); rw [hmo]; rfl)
              intro m_ e_ H_ hI_
              obtain ⟨b, hbm_, rfl, hlQ3, hO3, k11, he⟩ := hI_
              refine CW_env he.sub ?_; clear he e_
              obtain ⟨HD, hHD⟩ : ∃ G : Hp, G = H_ := ⟨_, rfl⟩
              subst hHD
              refine zac (fun K31 hK31 => ?_)
              refine zac (fun K32 hK32 => ?_)
              refine zaa ?_
              refine zah rfl ?_
              refine zah rfl ?_
              refine zab (fun K hK r => ?_)
              refine yac ?_
              refine hK _ _ ?_; clear hK K
              refine zad ?_
              refine yab ?_
              refine hK32 _ _ ?_; try clear hK32 K32
              refine zar (fun r => rfl) (fun c90 => ?_) (fun c90 => ?_)
              ·first
               |(exfalso; exact cnA c90; done)
               |skip
                (try replace c90 := yad c90)
                have hb64 : b < 64 := by
                 have : mo ≤ 64 := by rw [hmo2]; split <;> omega
                 omega
                refine zau ?_
                refine yab ?_
                refine hK31 _ _ ?_; try clear hK31 K31
                refine zac (fun K33 hK33 => ?_)
                refine zaB ?_
                obtain ⟨R21, hR21⟩ : ∃ R : Hp, R = emptyHp.upd b11 (.cells ((X.getD k default).d.wait.getD j default).c.toArray 135) := ⟨_, rfl⟩
                refine CW_drawR [0, 0, 1, 0, 0, 0, 0, 1, 0, 0, 3] [0, 1, 2, 3, 4, 5, 6, 7, 8, 9, 10] R21 (by kernel_rfl) (by kernel_rfl) (by subst hR21; exact le_put (zaN _) k11) (fun lR21 => ?_)
                apply zat rfl (zai (by decide)) rfl
                ·intro r
                 refine yaI ?_
                 exact ⟨rfl, Le.refl _⟩
                refine yaj ?_
                apply zat rfl (zai (by decide)) rfl
                ·intro r
                 refine ycz ?_
                 exact ⟨rfl, Le.refl _⟩
                refine yaj ?_
                apply zaO rfl (zai (by decide)) rfl
                ·intro r
                 refine yba ?_
                 refine zae Try.underlying3 rfl hbA ldA ?_
                 exact ⟨rfl, Le.refl _⟩
                refine yaj ?_
                apply zat rfl (zai (by decide)) rfl
                ·intro r
                 refine yaI ?_
                 exact ⟨rfl, Le.refl _⟩
                refine yaj ?_
                apply zat rfl (zai (by decide)) rfl
                ·intro r
                 refine yaI ?_
                 exact ⟨rfl, Le.refl _⟩
                refine yaj ?_
                apply zat rfl (zai (by decide)) rfl
                ·intro r
                 refine ycA ?_
                 exact ⟨rfl, Le.refl _⟩
                refine yaj ?_
                apply zat rfl (zai (by decide)) rfl
                ·intro r
                 refine yaL ?_
                 refine Lt_indexA Try.underlying30 sz5 ixA ixA ?_
                 refine ycE ?_
                 exact ⟨rfl, Le.refl _⟩
                refine yaj ?_
                apply zaO rfl (zai (by decide)) rfl
                ·intro r
                 refine yba ?_
                 refine zae Try.underlying5 rfl (by rw [hR21]; exact zan _ _ _) (v := .int .u8 (((X.getD k default).d.wait.getD j default).x.b.getD b 0)) (wt_byte _ (by omega)) ?_
                 exact ⟨rfl, Le.refl _⟩
                refine yaj ?_
                apply zat rfl (zai (by decide)) rfl
                ·intro r
                 refine yaL ?_
                 refine zaK Try.underlying64 sz30 rfl ixA ixA ?_
                 try simp only [Nat.zero_add]
                 exact ⟨rfl, Le.refl _⟩
                refine yaj ?_
                apply zat rfl (zai (by decide)) rfl
                ·intro r
                 refine yaL ?_
                 refine Lt_indexA Try.underlying30 sz5 ixA ixA ?_
                 refine ycE ?_
                 exact ⟨rfl, Le.refl _⟩
                refine yaj ?_
                refine TW_last rfl (zas) rfl (fun K hK r => ?_)
                refine yaD ?_
                obtain ⟨r_, cap_, cr, e1, e2, hcr, hnr, hsr⟩ := hO3.full hL
                cases e1
                cases e2
                have mc := Nat.mul_le_mul_right 64 (show ((X.getD k default).d.wait.getD j default).at_.toNat + 1 ≤ c34 by omega)
                refine zaE sz5 hcr (by rw [hsr]; omega) (plain_int _ _) fzA ?_
                have hO' := OwnS.byte hO3 hcr (crW_len _ _ _ _).symm (i := ((X.getD k default).d.wait.getD j default).at_.toNat) (by omega) hb64
                refine hK _ _ ?_; clear hK K
                refine TW_nil ?_
                refine yab ?_
                refine hK33 _ _ ?_; try clear hK33 K33
                refine zaa ?_
                refine zah rfl ?_
                refine zab (fun K hK r => ?_)
                refine yaq ?_
                refine hK _ _ ?_; clear hK K
                refine zaj rfl ?_
                refine zad ?_
                refine yab ?_
                exact ⟨mo - (b + 1), by omega, b + 1, by omega, rfl, zaw hlQ3 hrn, hO', (zap _ _ (fun e => hO3.neT k11 (by decide) (by rw [e]))).trans k11, rfl, rfl, rfl, rfl, rfl, rfl, rfl, rfl, rfl, rfl, rfl, rfl, trivial⟩
              ·first
               |(exfalso; exact cnA c90; done)
               |skip
                (try replace c90 := yad c90)
                have hbm : b = mo := by omega
                have hlF : Le HQ HD := hlQ3
                have hfin : OwnS HD 30 64 (.slice (some ⟨rb, 0, none⟩) (X.getD k default).d.sec.length c34) (X.getD k default).d.sec.length (secs (crW (fun n => keepOf l (k : Int) n) (X.getD k default).d.wait (X.getD k default).d.sec (j + 1))) (some rb) := by
                 rw [crW_at (keepOf_at (by omega) hyes.1 hyes.2 hno) hmo2, ← hbm]
                 exact hO3
                refine CW_exit ?_
                refine yab ?_
                refine hK29 _ _ ?_; try clear hK29 K29
                refine CW_exit ?_
                refine yab ?_
                exact ⟨hlF, hfin, rfl, rfl, rfl, rfl, rfl, rfl, rfl, rfl, trivial⟩
      ·first
       |(exfalso; exact cnA c45; done)
       |skip
        (try replace c45 := yad c45)
        have hqn : q = l.length := by omega
        have hlF : Le HQ HB := hlQ
        have hfin : OwnS HB 30 64 (.slice (some ⟨rb, 0, none⟩) (X.getD k default).d.sec.length c34) (X.getD k default).d.sec.length (secs (crW (fun n => keepOf l (k : Int) n) (X.getD k default).d.wait (X.getD k default).d.sec (j + 1))) (some rb) := by
         rw [crW_no (keepOf_no (fun t ht => hno t (by omega)))]
         exact hO
        refine CW_exit ?_
        refine yab ?_
        exact ⟨hlF, hfin, rfl, rfl, rfl, rfl, rfl, rfl, rfl, rfl, trivial⟩
     rintro e_ H2_ ⟨hlQ2, hO2, he⟩
     refine CW_env he.sub ?_; clear he e_
     refine zaa ?_
     refine zah rfl ?_
     refine zab (fun K hK r => ?_)
     refine yaq ?_
     refine hK _ _ ?_; clear hK K
     refine zaj rfl ?_
     refine zad ?_
     refine yab ?_
     exact ⟨(X.getD k default).d.wait.length - (j + 1), by omega, j + 1, by omega, rfl, hlQ2, hO2, rfl, rfl, rfl, rfl, rfl, rfl, rfl, rfl, trivial⟩
   ·first
    |(exfalso; exact cnA c39; done)
    |skip
     (try replace c39 := yad c39)
     have hjn : j = (X.getD k default).d.wait.length := by omega
     have hAQ : Le HA HQ := by rw [hHQ]; exact le_upd _ _ _ hb7
     have hlA : Le HA HB := Le.trans hAQ hlQ
     have x2 := hN.own.neT k2 (by decide)
     have x4 := hN.own.neT k4 (by decide)
     have x5 := hN.own.neT k5 (by decide)
     have y2 := hlA _ _ k2
     have y4 := hlA _ _ k4
     have y5 := hlA _ _ k5
     have hrA : HA rb = none := zag hAQ hrn
     obtain ⟨r_, cap_, cr, e1, e2, hcr, hnr, hsr⟩ := hO.full hL
     cases e1
     cases e2
     have ownB := hN.own.stay (H' := HB) (fun b o _ ho => hlA b o ho)
     have hyS : Holds (emptyHp.upd rb (.cells cr 30)) 64 (.slice (some ⟨rb, 0, none⟩) (X.getD k default).d.sec.length c34) (X.getD k default).d.sec.length (secs (crW (fun n => keepOf l (k : Int) n) (X.getD k default).d.wait (X.getD k default).d.sec j)) := (hO.stay (fun b o hb ho => by cases hb; rw [hcr] at ho; cases ho; exact zan _ _ _)).holds
     have zrb : rs ≠ some rb := fun e => hN.own.known rb e hrA
     refine CW_exit ?_
     refine yab ?_
     refine hK10 _ _ ?_; try clear hK10 K10
     refine zaa ?_
     refine zab (fun K hK r => ?_)
     refine yco ?_
     refine hK _ _ ?_; clear hK K
     refine zab (fun K hK r => ?_)
     refine yap ?_
     refine zae Try.underlying50 rfl hbA ldA ?_
     refine yaf ?_
     refine hK _ _ ?_; clear hK K
     refine zah rfl ?_
     refine zab (fun K hK r => ?_)
     simp only [x_build, bp67, List.map_toArray, List.map_cons, List.map_nil, eX, ↓reduceIte, Nat.reduceEqDiff, Int.reduceToNat]
     rw [fill_one rfl clA bdA]
     refine ybe ?_
     refine yaf ?_
     refine hK _ _ ?_; clear hK K
     refine zab (fun K hK r => ?_)
     refine yaT ?_
     refine zaJ (vs := [_]) Try.underlying50 sz67 zr67 rfl bsA (by first | decide | (simp; done)) ?_
     refine yaU ?_
     intro b107 hb107
     try have n107_b2 : b2 ≠ b107 := zaf hbA hb107
     try have n107_b4 : b4 ≠ b107 := zaf hbA hb107
     try have n107_b5 : b5 ≠ b107 := zaf hbA hb107
     try have n107_b7 : b7 ≠ b107 := zaf hbA hb107
     try have n107_b31 : b31 ≠ b107 := zaf hbA hb107
     have f107_H : H b107 = none := zag lhA hb107
     refine yaf ?_
     refine hK _ _ ?_; clear hK K
     refine zab (fun K hK r => ?_)
     refine yaV ?_
     have h107 : HB b107 = none := hb107
     refine Lt_append Try.underlying50 Try.underlying50 (by simp) sz67 by67 (by decide) zr67 rfl _ (n := k) (m := 1) (ds := [.slice (some ⟨rb, 0, none⟩) (X.getD k default).d.sec.length c34, .slice none 0 0]) (ownB.make h107) (fun Kx => len_slice _ _ _ Kx) (fun Kx => first_slice (w := 2) (n := 1) (cs := [.slice (some ⟨rb, 0, none⟩) (X.getD k default).d.sec.length c34, .slice none 0 0]) ⟨rfl, .inr ⟨b107, 0, 1, _, _, _, rfl, hbA, by simp, by simp⟩⟩ Kx) rfl (PlainL.cons (plain_slice _ _ _) (PlainL.cons (plain_slice _ _ _) PlainL.nil)) (by omega) ?_
     intro v108 H108 rs108 hg108 ho108 hr108
     obtain ⟨wa108, wc108, rfl⟩ := ho108.holds.form
     have q108 : ∀ z o, HB z = some o → rs ≠ some z → H108 z = some o := fun z o hz hne => hg108.known z o ((zap _ _ (zaf hz h107)).trans hz) hne
     have z2 := q108 _ _ y2 x2
     have z4 := q108 _ _ y4 x4
     have z5 := q108 _ _ y5 x5
     have zb := q108 _ _ hcr zrb
     have w5 := ho108.neT z5 (by decide)
     have nb5 : rb ≠ b5 := fun e => by subst e; rw [k5] at hrA; cases hrA
     have nb2 : b2 ≠ rb := zaf k2 hrA
     have nb4 : b4 ≠ rb := zaf k4 hrA
     have nb55 : b5 ≠ rb := zaf k5 hrA
     have hr108' : ∀ r, rs108 = some r → rs = some r ∨ (HA r = none ∧ r ≠ rb) := fun r e => (hr108 r e).imp id (fun hn => by
      have h2 := upd_none hn
      exact ⟨zag hlA h2, fun e => by subst e; rw [hcr] at h2; cases h2⟩)
     refine hK _ _ ?_; clear hK K
     refine zab (fun K hK r => ?_)
     refine yco ?_
     refine hK _ _ ?_; clear hK K
     refine zaI rfl (zas) (fun K hK r => ?_)
     refine yaD ?_
     refine zaE sz50 hbA bdA plA fzA ?_
     refine yaE ?_
     refine yaf ?_
     refine hK _ _ ?_; clear hK K
     refine zad ?_
     refine yab ?_
     refine hK7 _ _ ?_; try clear hK7 K7
     refine zaa ?_
     refine zah rfl ?_
     refine zab (fun K hK r => ?_)
     refine yaq ?_
     refine hK _ _ ?_; clear hK K
     refine zaj rfl ?_
     refine zad ?_
     refine yab ?_
     have hN' := hN.next (HF := H108.upd b5 (.cells #[.slice wa108 (k + 1) wc108, .int .i64 m.steps, .int .i64 m.left, .bool false, .bool false] 52)) (y := ⟨some ⟨rb, 0, none⟩, c34, none, 0, ⟨(crW (fun n => keepOf l (k : Int) n) (X.getD k default).d.wait (X.getD k default).d.sec j), []⟩⟩) (o := .cells cr 30) (by omega) hrA ⟨by rw [crW_len]; exact hyS, ⟨rfl, .inl ⟨none, 0, rfl, rfl⟩⟩⟩ (by rw [cr_dv _ _ _ (by omega), hm, rdv_at, hjn]) (v' := .slice wa108 (k + 1) wc108) (rs' := rs108) (by simp only [RDX.c, crW_len]; exact ho108.upd w5) ((zap _ _ nb5).trans zb) (fun x o hx hc => (zap _ _ (fun e => ?_)).trans (q108 x o (hlA _ _ hx) (fun e => ?_))) hr108'
     refine ⟨X.length - (k + 1), by omega, k + 1, _, rs108, _, _, by omega, rfl, hN', (zap _ _ nb2).trans g2, (zap _ _ nb4).trans g4, (zap _ _ nb55).trans g5, (zap _ _ (by assumption)).trans z2, (zap _ _ (by assumption)).trans z4, zan _ _ _, rfl, rfl, rfl, rfl, rfl, trivial⟩
     ·subst e
      rcases hc with h1 | h1
      ·exact h1 g5
      ·exact h1 f5_H
     ·rcases hc with h1 | h1
      ·exact h1 (hN.frr x e).2
      ·exact h1 (hN.frr x e).1
 ·first
  |(exfalso; exact cnA c23; done)
  |skip
   (try replace c23 := yad c23)
   have hkn : k = X.length := by omega
   refine CW_exit ?_
   refine yab ?_
   refine hK3 _ _ ?_; try clear hK3 K3
   refine zac (fun K34 hK34 => ?_)
   refine zaa ?_
   refine zab (fun K hK r => ?_)
   refine yap ?_
   first | refine zax Try.underlying52 rfl sz52 hbA bdA ?_ | refine zaq Try.underlying52 rfl sz52 hbA bdA ?_
   refine ybg ?_
   refine yaf ?_
   refine hK _ _ ?_; clear hK K
   refine zaI rfl (zas) (fun K hK r => ?_)
   refine yaD ?_
   first | refine zak sz52 bdA hbA bdA plA (by decide) ?_ | refine zal sz52 bdA hbA bdA plA (by decide) ?_
   refine yaf ?_
   refine hK _ _ ?_; clear hK K
   refine zad ?_
   refine yab ?_
   refine hK34 _ _ ?_; try clear hK34 K34
   refine zaz ?_
   refine yab ?_
   refine ⟨[_], ⟨⟨_, rfl, zaC Try.underlying52 rfl sz52 hbA bdA⟩, trivial⟩, _, Le.refl _, va, vc, Y, by rw [hN.len, hkn], ?_, ?_, ⟨?_, fun x hx => (hN.ok x hx).le (zaw hN.le g4)⟩, ?_⟩
   ·exact zaw hOld f4_H
   ·rw [hN.len]; rfl
   ·rw [hN.len]
    exact (hN.own.upd (hN.own.neT k4 (by decide))).holds
   ·rw [hN.dv, List.take_of_length_le (by omega)]
end Go.Proofs.Ytigofhhonnbkmaa.HL
end
section
namespace Go.Proofs.Ytigofhhonnbkmaa.HL
open Go Go.Proofs
set_option linter.unusedSimpArgs false
set_option linter.unusedVariables false
attribute [local irreducible] Lt Lq CW OW TW CallH
structure PR (k : Nat) (s : St) (m : RSt) : Prop where
  rl : Rl s m
  sm : Sm k s
  sz : ∀ i, i < m.dv.length → 0 < (m.dv.getD i default).sec.length ∧ (m.dv.getD i default).sec.length ≤ 5000
  lf : m.armed = true → m.left ≤ 9223372036854775807
def SzEq (m q : RSt) : Prop := q.dv.length = m.dv.length ∧ ∀ i, i < m.dv.length → (q.dv.getD i default).sec.length = (m.dv.getD i default).sec.length
theorem SzEq.of {m q : RSt} (h : q.dv = m.dv) : SzEq m q := ⟨by rw [h], fun i _ => by rw [h]⟩
theorem SzEq.set {m q : RSt} {k : Nat} {d : RDv} (h : q.dv = m.dv.set k d) (hd : d.sec.length = (m.dv.getD k default).sec.length) : SzEq m q := by
  refine ⟨by rw [h, List.length_set], fun i hi => ?_⟩
  rw [h, getD_set']
  split
  · rename_i e; rw [hd, e.1]
  · rfl
theorem RSt.put_sz (m : RSt) (dev i : Int) (x : Sec) : SzEq m (m.put dev i x).1 := by
  rcases rput_cases m dev i x with ⟨_, e⟩ | ⟨_, _, e⟩ | ⟨_, _, e⟩
  · rw [e]; exact .of rfl
  · rw [e]; exact .of m.step_dv
  · rw [e]; exact .set (k := dev.toNat) rfl rfl
theorem RSt.fl_sz (m : RSt) (dev : Int) : SzEq m (m.fl dev).1 := by
  rcases rfl_cases m dev with ⟨_, e⟩ | ⟨_, _, e⟩ | ⟨_, _, e⟩
  · rw [e]; exact .of rfl
  · rw [e]; exact .of m.step_dv
  · rw [e]; exact .set (k := dev.toNat) rfl (doneL_len _ _)
theorem RSt.cr_sz (m : RSt) (l : List Kp) : SzEq m (m.cr l) := by
  refine ⟨by simp [RSt.cr], fun i hi => ?_⟩
  rw [cr_dv m l i hi]
  exact crW_len _ _ _ _
def LfOk (m : RSt) : Prop := m.armed = true → 0 ≤ m.left ∧ m.left ≤ 9223372036854775807
theorem LfOk.step {m : RSt} (h : LfOk m) : LfOk m.step.1 := by
  unfold RSt.step
  split
  · exact h
  split
  · exact h
  · rename_i h1 h2
    intro ha
    have := h ha
    have hne : m.left ≠ 0 := fun e => h2 ⟨ha, e⟩
    show 0 ≤ (if m.armed = true then IntKind.i64.wrap (m.left - 1) else m.left) ∧ (if m.armed = true then IntKind.i64.wrap (m.left - 1) else m.left) ≤ _
    have ha' : m.armed = true := ha
    rw [if_pos ha', wrap_i64 _ (by omega) (by omega)]
    omega
theorem PR.lfo {k : Nat} {s : St} {m : RSt} (h : PR k s m) : LfOk m := fun ha => ⟨(h.rl.le ha).2, h.lf ha⟩
theorem PR.up {k n : Nat} {s : St} {m : RSt} (h : PR k s m) (hn : k ≤ n) : PR n s m := ⟨h.rl, h.sm.up hn, h.sz, h.lf⟩
theorem PR.rg {k : Nat} {s : St} {m : RSt} (h : PR k s m) {X : List RDX} (hm : m.dv = rdv X) : ∀ i, i < X.length → RG k (X.getD i default).d := fun i hi => by
  have hlen : m.dv.length = X.length := by rw [hm]; simp
  have hi' : i < m.dv.length := by omega
  have h1 := h.sz i hi'
  have h2 := h.rl.dv i hi'
  have h3 := h.sm.2 i
  rw [h2.wa] at h3
  have h4 := h2.at_
  rw [hm, rdv_at] at h1 h3 h4
  exact ⟨h1.1, h1.2, h3, h4⟩
theorem PR.len {k : Nat} {s : St} {m : RSt} (h : PR k s m) {X : List RDX} (hm : m.dv = rdv X) : X.length ≤ 5 ∧ s.dv.length = X.length := by
  have hlen : m.dv.length = X.length := by rw [hm]; simp
  have := h.sm.1
  have := h.rl.len
  omega
theorem PR.wt {k : Nat} {s : St} {m : RSt} (h : PR k s m) : ∀ i, (m.dv.getD i default).wait.length ≤ k := fun i => by
  by_cases hi : i < m.dv.length
  · rw [← (h.rl.dv i hi).wa]; exact h.sm.2 i
  · rw [List.getD_eq_getElem?_getD, List.getElem?_eq_none (by omega)]; exact Nat.zero_le _
theorem newS_at (l : List Int) (i : Nat) (hi : i < l.length) : (newSt l).dv.getD i default = newDv (l.getD i default) ∧ (newRs l).dv.getD i default = newR (l.getD i default) := by
  simp [newSt, newRs, List.getD_eq_getElem?_getD, List.getElem?_eq_getElem hi]
theorem good_at {l : List Int} (h : goodN l = true) (i : Nat) (hi : i < l.length) : 1 ≤ l.getD i default ∧ l.getD i default ≤ 4096 := by
  unfold goodN at h
  simp only [Bool.and_eq_true, List.all_eq_true] at h
  have := h.2 (l.getD i default) (by rw [List.getD_eq_getElem?_getD, List.getElem?_eq_getElem hi]; exact List.getElem_mem hi)
  unfold okN at this
  simpa using this
theorem PR.new {l : List Int} (h : goodN l = true) : PR 0 (newSt l) (newRs l) := by
  have hl : l.length ≤ 5 := by
    unfold goodN at h
    simp only [Bool.and_eq_true, decide_eq_true_eq] at h
    exact h.1.2
  refine ⟨⟨rfl, rfl, rfl, fun h => (by cases h), by simp [newSt, newRs], fun i hi => ?_⟩, Sm.new hl, fun i hi => ?_, fun h => by cases h⟩
  · have hi' : i < l.length := by simpa [newRs] using hi
    obtain ⟨e1, e2⟩ := newS_at l i hi'
    have hg := good_at h i hi'
    rw [e1, e2]
    refine ⟨?_, fun j => ?_, rfl, fun k hk => by simp [newR] at hk⟩
    · simp only [newDv, newR, List.length_replicate]; omega
    · show Sec.zero = _
      split
      · rename_i hj
        simp only [newR, List.length_replicate] at hj
        simp only [newR]
        rw [List.getD_eq_getElem?_getD, List.getElem?_replicate, if_pos (by omega)]
        rfl
      · rfl
  · have hi' : i < l.length := by simpa [newRs] using hi
    obtain ⟨e1, e2⟩ := newS_at l i hi'
    have hg := good_at h i hi'
    rw [e2]
    simp only [newR, List.length_replicate]
    omega
theorem PR.put2 {k : Nat} {s : St} {m : RSt} (h : PR k s m) (dev i : Int) (x : Sec) : (m.put dev i x).2 = (s.wr dev i x).2.getD 0 := (h.rl.put h.lf dev i x).2
theorem PR.fl2 {k : Nat} {s : St} {m : RSt} (h : PR k s m) (dev : Int) : (m.fl dev).2 = (s.fl dev).2.getD 0 := (h.rl.flush h.lf dev).2
theorem PR.put {k : Nat} {s : St} {m : RSt} (h : PR k s m) (dev i : Int) (x : Sec) : PR (k + 1) (s.wr dev i x).1 (m.put dev i x).1 := by
  refine ⟨(h.rl.put h.lf _ _ _).1, h.sm.wr _ _ _, fun j hj => ?_, fun ha => ?_⟩
  · obtain ⟨e1, e2⟩ := m.put_sz dev i x
    rw [e1] at hj
    rw [e2 j hj]; exact h.sz j hj
  · have hl : LfOk (m.put dev i x).1 := by
      rcases rput_cases m dev i x with ⟨_, e⟩ | ⟨_, _, e⟩ | ⟨_, _, e⟩
      · rw [e]; exact h.lfo
      · rw [e]; exact h.lfo.step
      · rw [e]; exact h.lfo.step
    exact (hl ha).2
theorem PR.flush {k : Nat} {s : St} {m : RSt} (h : PR k s m) (dev : Int) : PR k (s.fl dev).1 (m.fl dev).1 := by
  refine ⟨(h.rl.flush h.lf _).1, h.sm.fl _, fun j hj => ?_, fun ha => ?_⟩
  · obtain ⟨e1, e2⟩ := m.fl_sz dev
    rw [e1] at hj
    rw [e2 j hj]; exact h.sz j hj
  · have hl : LfOk (m.fl dev).1 := by
      rcases rfl_cases m dev with ⟨_, e⟩ | ⟨_, _, e⟩ | ⟨_, _, e⟩
      · rw [e]; exact h.lfo
      · rw [e]; exact h.lfo.step
      · rw [e]; exact h.lfo.step
    exact (hl ha).2
theorem PR.crash {k : Nat} {s : St} {m : RSt} (h : PR k s m) (l : List Kp) : PR k (s.cr l) (m.cr l) := by
  refine ⟨h.rl.crash _, h.sm.cr _, fun j hj => ?_, fun ha => by cases ha⟩
  obtain ⟨e1, e2⟩ := m.cr_sz l
  rw [e1] at hj
  rw [e2 j hj]; exact h.sz j hj
theorem PR.arm {k : Nat} {s : St} {m : RSt} (h : PR k s m) {n : Int} (h0 : 0 ≤ n) (h1 : n ≤ 9223372036854775807) : PR k { s with armed := true, left := n } { m with armed := true, left := n } :=
  ⟨⟨h.rl.st, h.rl.go, rfl, fun _ => ⟨rfl, h0⟩, h.rl.len, h.rl.dv⟩, h.sm.of_dv rfl, h.sz, fun _ => h1⟩
def RSt.sz0 (m : RSt) : Int := if 0 < m.dv.length then ((m.dv.getD 0 default).sec.length : Int) else 0
theorem PR.sz0 {k : Nat} {s : St} {m : RSt} (h : PR k s m) : s.sz 0 = m.sz0 ∧ 0 ≤ m.sz0 ∧ m.sz0 ≤ 5000 := by
  have hl := h.rl.len
  unfold St.sz RSt.sz0
  by_cases h0 : 0 < m.dv.length
  · have := h.sz 0 h0
    rw [if_pos (by omega), if_pos h0, show (0 : Int).toNat = 0 from rfl, (h.rl.dv 0 h0).sz]
    omega
  · rw [if_neg (by omega), if_neg h0]; omega
theorem wr_num (s : St) (dev i : Int) (x : Sec) : (s.wr dev i x).2.getD 0 = 0 ↔ (s.wr dev i x).2 = none := by
  rcases wr_cases s dev i x with ⟨_, e, _⟩ | ⟨_, e, _⟩ | ⟨_, e, _⟩ <;> rw [e] <;> simp
def RSt.saveM (m : RSt) (x : Mf) : RSt × Int :=
  if x.good = false then (m, 2) else if m.sz0 < 2 then (m, 1) else if (m.put 0 (x.gen % 2) x.sec).2 = 0 then (m.put 0 (x.gen % 2) x.sec).1.fl 0 else m.put 0 (x.gen % 2) x.sec
theorem PR.saveM {k : Nat} {s : St} {m : RSt} (h : PR k s m) (x : Mf) : PR (k + 1) (s.saveM x).1 (m.saveM x).1 ∧ (m.saveM x).2 = (s.saveM x).2.getD 0 := by
  cases hg : x.good with
  | false =>
    have e1 := saveM_no (s := s) hg
    have e2 : m.saveM x = (m, 2) := by unfold RSt.saveM; rw [if_pos hg]
    rw [e1, e2]; exact ⟨h.up (by omega), rfl⟩
  | true =>
    by_cases hz : s.sz 0 < 2
    · have e1 := saveM_few (s := s) hg hz
      have e2 : m.saveM x = (m, 1) := by unfold RSt.saveM; rw [if_neg (by rw [hg]; simp), if_pos (by rw [← h.sz0.1]; exact hz)]
      rw [e1, e2]; exact ⟨h.up (by omega), rfl⟩
    · have hp := h.put 0 (x.gen % 2) x.sec
      have hp2 := h.put2 0 (x.gen % 2) x.sec
      cases he : (s.wr 0 (x.gen % 2) x.sec).2 with
      | none =>
        have e1 := saveM_all hg hz he
        have e2 : m.saveM x = (m.put 0 (x.gen % 2) x.sec).1.fl 0 := by
          unfold RSt.saveM
          rw [if_neg (by rw [hg]; simp), if_neg (by rw [← h.sz0.1]; exact hz), if_pos (by rw [hp2, he]; rfl)]
        rw [e1, e2]; exact ⟨hp.flush 0, hp.fl2 0⟩
      | some e =>
        have e1 := saveM_err hg hz he
        have e2 : m.saveM x = m.put 0 (x.gen % 2) x.sec := by
          unfold RSt.saveM
          rw [if_neg (by rw [hg]; simp), if_neg (by rw [← h.sz0.1]; exact hz), if_neg]
          rw [hp2]
          intro hh
          rw [(wr_num _ _ _ _).1 hh] at he
          cases he
        rw [e1, e2]; exact ⟨hp, hp2⟩
theorem best_two (s : St) (A B : List Int) (ha : A = (s.rd 0 (0 : Nat)).1.b) (hb : B = (s.rd 0 (1 : Nat)).1.b) :
    ((opM A).isSome = true ∧ (opMv A).gen % 2 = 0 → ¬ ((opM B).isSome = true ∧ (opMv B).gen % 2 = 1 ∧ ¬ (opMv B).gen < (opMv A).gen) → s.bestN 2 = opMv A) ∧
    (¬ ((opM A).isSome = true ∧ (opMv A).gen % 2 = 0 ∧ ¬ ((opM B).isSome = true ∧ (opMv B).gen % 2 = 1 ∧ ¬ (opMv B).gen < (opMv A).gen)) → (opM B).isSome = true ∧ (opMv B).gen % 2 = 1 → s.bestN 2 = opMv B) ∧
    (¬ ((opM A).isSome = true ∧ (opMv A).gen % 2 = 0) → ¬ ((opM B).isSome = true ∧ (opMv B).gen % 2 = 1) → s.bestN 2 = zM) := by
  have hE : s.bestN 2 = HL.pick (HL.pick zM A 0) B 1 := by rw [ha, hb]; rfl
  have pos : ∀ L, (opM L).isSome = true → 1 ≤ (opMv L).gen := fun L h => (opM_Ok h).1.g.1
  have en : ∀ L, (opM L).isSome = true ↔ opMe L = none := fun L => by rw [opMe_some]; exact Option.isNone_iff_eq_none
  rw [hE]
  refine ⟨fun h1 h2 => ?_, fun h1 h2 => ?_, fun h1 h2 => ?_⟩
  · have e := pick_yes (best := zM) (L := A) (i := 0) ⟨(en A).1 h1.1, h1.2, by have := pos A h1.1; show (0 : Int) < _; omega⟩
    rw [e]
    refine pick_no (fun h => h2 ⟨(en B).2 h.1, h.2.1, by have := h.2.2; omega⟩)
  · have hp := pos B h2.1
    by_cases ha' : (opM A).isSome = true ∧ (opMv A).gen % 2 = 0
    · have e := pick_yes (best := zM) (L := A) (i := 0) ⟨(en A).1 ha'.1, ha'.2, by have := pos A ha'.1; show (0 : Int) < _; omega⟩
      rw [e]
      refine pick_yes ⟨(en B).1 h2.1, h2.2, ?_⟩
      have : ¬ ¬ ((opM B).isSome = true ∧ (opMv B).gen % 2 = 1 ∧ ¬ (opMv B).gen < (opMv A).gen) := fun h => h1 ⟨ha'.1, ha'.2, h⟩
      have h3 := Classical.not_not.1 this
      have := h3.2.2
      have := ha'.2
      have := h2.2
      omega
    · have e := pick_no (best := zM) (L := A) (i := 0) (fun h => ha' ⟨(en A).2 h.1, h.2.1⟩)
      rw [e]
      exact pick_yes ⟨(en B).1 h2.1, h2.2, by show (0 : Int) < _; omega⟩
  · have e := pick_no (best := zM) (L := A) (i := 0) (fun h => h1 ⟨(en A).2 h.1, h.2.1⟩)
    rw [e]
    exact pick_no (fun h => h2 ⟨(en B).2 h.1, h.2.1⟩)
theorem loadM_best {s : St} (h1 : ¬ s.sz 0 < 2) (h2 : s.gone = false) {m : Mf} (hb : s.bestN 2 = m) (hm : m.gen ≠ 0) : s.loadM = (m, none) := by
  unfold St.loadM
  rw [if_neg h1, if_neg (by rw [h2]; simp), hb, if_neg hm]
theorem loadM_none {s : St} (h1 : ¬ s.sz 0 < 2) (h2 : s.gone = false) (hb : s.bestN 2 = zM) : s.loadM = (zM, some 9) := by
  unfold St.loadM
  rw [if_neg h1, if_neg (by rw [h2]; simp), hb, if_pos rfl]
end Go.Proofs.Ytigofhhonnbkmaa.HL
end
section
namespace Go.Proofs.Ytigofhhonnbkmaa.HL
open Go Go.Proofs
set_option linter.unusedSimpArgs false
set_option linter.unusedVariables false
attribute [local irreducible] Lt Lq CW OW TW CallH
theorem ycF {p q : Prop} (h : q) (e : p = q := by simp only [zaF _ bd25, List.map_toArray, List.map_cons, List.map_nil, eX, ↓reduceIte, Nat.reduceEqDiff, Int.reduceToNat]; exact rfl) : p := e.mpr h
set_option maxRecDepth 100000 in
set_option maxHeartbeats 16000000 in
theorem rsaveL (H : Hp) (a : Option Addr) (cap : Nat) (X : List RDX) (hX : RX H a cap X) (m : RSt) (hm : m.dv = rdv X) {kk : Nat} {s : St} (hP : PR kk s m) (hkk : kk ≤ 100000) (x : Mf) (ma : Option Addr) (mc : Nat) (hm2 : Holds H 1 (.slice ma x.hd.length mc) x.hd.length (i64s x.hd)) (hml : x.hd.length ≤ 1000000) : CallH Try.prog 23 #[m.v (.slice a X.length cap), .agg #[.int .i64 x.gen, .int .i64 x.ep, .int .i64 x.ba, .int .i64 x.ar, .int .i64 x.ln, .slice ma x.hd.length mc]] H (fun v H' => ∃ a' cap' X', X'.length = X.length ∧ Le H H' ∧ v = .tuple #[(m.saveM x).1.v (.slice a' X'.length cap'), .int .i64 (m.saveM x).2] ∧ RX H' a' cap' X' ∧ (m.saveM x).1.dv = rdv X') := by
 refine zam (l := [_, _]) (rl := [.cell 4 52, .tmp 5]) (n := 43) Try.func23 rfl rfl rfl rfl rfl ?_
 refine yaa ?_
 obtain ⟨hsz1, hsz2, hsz3⟩ := hP.sz0
 obtain ⟨hl5, hsl⟩ := hP.len hm
 have hlen : m.dv.length = X.length := by rw [hm]; simp
 have hszX : m.sz0 = if X.length = 0 then 0 else ((X.getD 0 default).d.sec.length : Int) := by
  unfold RSt.sz0
  rw [hlen, hm, rdv_at]
  by_cases h0 : X.length = 0
  ·rw [if_pos h0, if_neg (by omega)]
  ·rw [if_neg h0, if_pos (by omega)]
 have hsl64 := x.seal_len
 have hsl65 := x.sec.h
 refine zac (fun K1 hK1 => ?_)
 refine zaa ?_
 refine zab (fun K hK r => ?_)
 refine yaW ?_
 intro b2 hb2
 have f2_H : H b2 = none := zag lhA hb2
 refine yaf ?_
 refine hK _ _ ?_; clear hK K
 refine zab (fun K hK r => ?_)
 refine yaW ?_
 intro b3 hb3
 try have n3_b2 : b2 ≠ b3 := zaf hbA hb3
 have f3_H : H b3 = none := zag lhA hb3
 refine yaf ?_
 refine hK _ _ ?_; clear hK K
 refine zab (fun K hK r => ?_)
 refine ycs ?_
 intro b4 hb4
 try have n4_b2 : b2 ≠ b4 := zaf hbA hb4
 try have n4_b3 : b3 ≠ b4 := zaf hbA hb4
 have f4_H : H b4 = none := zag lhA hb4
 refine yaf ?_
 refine hK _ _ ?_; clear hK K
 refine zaj rfl ?_
 refine zad ?_
 refine yab ?_
 refine hK1 _ _ ?_; try clear hK1 K1
 refine zac (fun K2 hK2 => ?_)
 refine zac (fun K3 hK3 => ?_)
 refine zaa ?_
 refine zab (fun K hK r => ?_)
 refine yap ?_
 first | refine zax Try.underlying24 rfl sz24 hbA bdA ?_ | refine zaq Try.underlying24 rfl sz24 hbA bdA ?_
 refine ybg ?_
 refine yaf ?_
 refine hK _ _ ?_; clear hK K
 refine zab (fun K hK r => ?_)
 simp only [zaF _ bd11, List.map_toArray, List.map_cons, List.map_nil, eX, ↓reduceIte, Nat.reduceEqDiff, Int.reduceToNat]
 refine (rGood_ok _ x ma mc (hm2.le lhA) (by omega)).mono ?_
 rintro v H' ⟨rfl, hq⟩
 have hq := hq.symm
 subst hq
 refine yaf ?_
 refine hK _ _ ?_; clear hK K
 refine zab (fun K hK r => ?_)
 refine yam ?_
 refine hK _ _ ?_; clear hK K
 refine zad ?_
 refine yab ?_
 refine hK3 _ _ ?_; try clear hK3 K3
 refine zar (fun r => rfl) (fun c9 => ?_) (fun c9 => ?_)
 ·first
  |(exfalso; exact cnA c9; done)
  |skip
   have hgd : x.good = false := by simpa using c9
   refine zac (fun K4 hK4 => ?_)
   refine zaa ?_
   refine zab (fun K hK r => ?_)
   refine yap ?_
   first | refine zax Try.underlying52 rfl sz52 hbA bdA ?_ | refine zaq Try.underlying52 rfl sz52 hbA bdA ?_
   refine ybg ?_
   refine yaf ?_
   refine hK _ _ ?_; clear hK K
   refine zaI rfl (zas) (fun K hK r => ?_)
   refine yaD ?_
   first | refine zak sz52 bdA hbA bdA plA (by decide) ?_ | refine zal sz52 bdA hbA bdA plA (by decide) ?_
   refine yaf ?_
   refine hK _ _ ?_; clear hK K
   refine zaj rfl ?_
   refine zad ?_
   refine yab ?_
   refine hK4 _ _ ?_; try clear hK4 K4
   refine zaz ?_
   refine yab ?_
   have hsv : m.saveM x = (m, 2) := by unfold RSt.saveM; rw [if_pos hgd]
   rw [hsv]
   refine ⟨[_, _], ⟨⟨_, rfl, zaC Try.underlying52 rfl sz52 hbA bdA⟩, rfl, trivial⟩, _, Le.refl _, a, cap, X, rfl, lhA, rfl, hX.le lhA, hm⟩
 ·first
  |(exfalso; exact cnA c9; done)
  |skip
   have hgd : x.good = true := by simpa using c9
   have hok := Mf.good_iff.1 hgd
   have hgn := hok.g
   have htm : x.gen.tmod 2 = x.gen % 2 := Int.tmod_eq_emod_of_nonneg (by omega)
   refine zau ?_
   refine yab ?_
   refine hK2 _ _ ?_; try clear hK2 K2
   refine zac (fun K5 hK5 => ?_)
   refine zac (fun K6 hK6 => ?_)
   refine zaa ?_
   refine zab (fun K hK r => ?_)
   refine yco ?_
   refine hK _ _ ?_; clear hK K
   refine zab (fun K hK r => ?_)
   refine yap ?_
   refine zae Try.underlying50 rfl hbA ldA ?_
   refine yaf ?_
   refine hK _ _ ?_; clear hK K
   refine zab (fun K hK r => ?_)
   refine ycp ?_
   refine hK _ _ ?_; clear hK K
   refine zab (fun K hK r => ?_)
   refine yas ?_
   refine hK _ _ ?_; clear hK K
   refine zah rfl ?_
   (first | refine zaA (d := 15) rfl (fun g15 => ?_) (fun g15 => ?_) | skip)
   all_goals try (exfalso; exact cnA g15)
   all_goals (try replace g15 := yad g15)
   all_goals
    refine yaf ?_
    first
    |refine yGT (fun K hK r => ?_)
     refine yco ?_
     refine hK _ _ ?_; clear hK K
    |refine yGF ?_
     refine yaj ?_
    first
    |refine yGT (fun K hK r => ?_)
     refine yap ?_
     refine zae Try.underlying50 rfl hbA ldA ?_
     refine yaf ?_
     refine hK _ _ ?_; clear hK K
    |refine yGF ?_
     refine yaj ?_
    first
    |refine yGT (fun K hK r => ?_)
     refine yaw ?_
     obtain ⟨bw, ow, cw, Tw, Fw, ew, hbw, hsw, atw⟩ := hX.h.at (by omega)
     have mk2 := Nat.mul_le_mul_right 2 (show 0 + 1 ≤ X.length by omega)
     refine zaK Try.underlying50 sz67 ew ixA ixA ?_
     refine hK _ _ ?_; clear hK K
    |refine yGF ?_
     refine yaj ?_
    first
    |refine yGT (fun K hK r => ?_)
     refine ycq ?_
     refine hK _ _ ?_; clear hK K
    |refine yGF ?_
     refine yaj ?_
    first
    |refine yGT (fun K hK r => ?_)
     refine yap ?_
     refine zae Try.underlying64 rfl ((show Le H _ from lhA) _ _ hbw) (v := .slice (X.getD 0 default).sa (X.getD 0 default).d.sec.length (X.getD 0 default).sc) (by first | exact cell_at RDX.len atw rfl 0 (by omega) 0 (by decide) | (have := cell_at RDX.len atw rfl 0 (by omega) 0 (by decide); simpa using this)) ?_
     refine hK _ _ ?_; clear hK K
    |refine yGF ?_
     refine yaj ?_
    first
    |refine yGT (fun K hK r => ?_)
     refine ycr ?_
     refine hK _ _ ?_; clear hK K
    |refine yGF ?_
     refine yaj ?_
    first
    |refine yGT (fun K hK r => ?_)
     refine yac ?_
     refine hK _ _ ?_; clear hK K
    |refine yGF ?_
     refine yaj ?_
    refine zab (fun K hK r => ?_)
    refine yal ?_
    refine hK _ _ ?_; clear hK K
    refine zad ?_
    refine yab ?_
    refine hK6 _ _ ?_; try clear hK6 K6
    refine zar (fun r => rfl) (fun c23 => ?_) (fun c23 => ?_)
    ·first
     |(exfalso; exact cnA c23; done)
     |skip
      have hz : m.sz0 < 2 := by
       rw [hszX]
       split
       ·omega
       ·first | omega | (simp only [decide_eq_true_eq] at c23; omega) | (simp_all; omega)
      refine zac (fun K7 hK7 => ?_)
      refine zaa ?_
      refine zab (fun K hK r => ?_)
      refine yap ?_
      first | refine zax Try.underlying52 rfl sz52 hbA bdA ?_ | refine zaq Try.underlying52 rfl sz52 hbA bdA ?_
      refine ybg ?_
      refine yaf ?_
      refine hK _ _ ?_; clear hK K
      refine zaI rfl (zas) (fun K hK r => ?_)
      refine yaD ?_
      first | refine zak sz52 bdA hbA bdA plA (by decide) ?_ | refine zal sz52 bdA hbA bdA plA (by decide) ?_
      refine yaf ?_
      refine hK _ _ ?_; clear hK K
      refine zaj rfl ?_
      refine zad ?_
      refine yab ?_
      refine hK7 _ _ ?_; try clear hK7 K7
      refine zaz ?_
      refine yab ?_
      have hsv : m.saveM x = (m, 1) := by unfold RSt.saveM; rw [if_neg (by rw [hgd]; simp), if_pos hz]
      rw [hsv]
      refine ⟨[_, _], ⟨⟨_, rfl, zaC Try.underlying52 rfl sz52 hbA bdA⟩, rfl, trivial⟩, _, Le.refl _, a, cap, X, rfl, lhA, rfl, hX.le lhA, hm⟩
    ·first
     |(exfalso; exact cnA c23; done)
     |skip
      have hz : ¬ m.sz0 < 2 := by
       rw [hszX]
       split
       ·first | omega | (simp only [decide_eq_false_iff_not] at *; omega) | (simp_all; done)
       ·first | omega | (simp only [decide_eq_false_iff_not] at c23; omega) | (cases c23; done)
      refine zau ?_
      refine yab ?_
      refine hK5 _ _ ?_; try clear hK5 K5
      refine zac (fun K8 hK8 => ?_)
      obtain ⟨R5, hR5⟩ : ∃ R : Hp, R = (emptyHp.upd b2 (.cells (m.c (.slice a X.length cap)).toArray 52)).upd b3 (.cells #[.int .i64 x.gen, .int .i64 x.ep, .int .i64 x.ba, .int .i64 x.ar, .int .i64 x.ln, .slice ma x.hd.length mc] 24) := ⟨_, rfl⟩
      refine CW_drawR [1, 0, 1, 0, 1, 2, 2, 0, 0, 0, 3, 0] [0, 1, 2, 3, 4, 5, 6, 7, 8, 9, 10, 11] R5 (by kernel_rfl) (by kernel_rfl) (by subst hR5; exact le_put (le_put (zaN _) hbA) hbA) (fun lR5 => ?_)
      apply zaO rfl (zai (by decide)) rfl
      ·intro r
       refine yba ?_
       first | refine zax Try.underlying52 rfl sz52 hbA bdA ?_ | refine zaq Try.underlying52 rfl sz52 hbA bdA ?_
       refine ybg ?_
       exact ⟨rfl, Le.refl _⟩
      refine yaj ?_
      apply zat rfl (zai (by decide)) rfl
      ·intro r
       simp only [zao, fa24_0, zaH, Nat.reduceAdd, Nat.zero_add, eX, ↓reduceIte, Nat.reduceEqDiff]
       exact ⟨rfl, Le.refl _⟩
      refine yaj ?_
      apply zaO rfl (zai (by decide)) rfl
      ·intro r
       refine yba ?_
       refine zae Try.underlying3 rfl hbA ldA ?_
       exact ⟨rfl, Le.refl _⟩
      refine yaj ?_
      apply zat rfl (zai (by decide)) rfl
      ·intro r
       simp (disch := (first | omega | decide)) only [x_bin, g_int, b_rem, wrap_i64, wrap_u64, wrap_u32, wrap_u8, eX, ↓reduceIte, Nat.reduceEqDiff]
       rw [htm]
       exact ⟨rfl, Le.refl _⟩
      refine yaj ?_
      apply zaO rfl (zai (by decide)) rfl
      ·intro r
       refine yba ?_
       first | refine zax Try.underlying24 rfl sz24 hbA bdA ?_ | refine zaq Try.underlying24 rfl sz24 hbA bdA ?_
       refine ybg ?_
       exact ⟨rfl, Le.refl _⟩
      refine yaj ?_
      refine TW_chain rfl (zai (by decide)) rfl (fun K hK r => ?_)
      simp only [zaF _ bd16, List.map_toArray, List.map_cons, List.map_nil, eX, ↓reduceIte, Nat.reduceEqDiff, Int.reduceToNat]
      refine (rMSeal_ok _ x ma mc (hm2.le lhA) hml hgd).mono ?_
      rintro v31 H31 ⟨rfl, l31⟩
      have k31_2 := l31 b2 _ hbA
      have k31_3 := l31 b3 _ hbA
      have k31_4 := l31 b4 _ hbA
      have lH31 : Le H H31 := Le.trans lhA l31
      have lR31 : Le R5 H31 := Le.trans lR5 l31
      refine yaf ?_
      refine hK _ _ leA ?_; clear hK K
      refine TW_chain rfl (zai (by decide)) rfl (fun K hK r => ?_)
      refine ycF ?_
      refine (CallH.use (rput_ok H a cap X hX m hm hl5 (fun i => Nat.le_trans (hP.wt i) (by omega)) 0 (x.gen % 2) x.sec) lH31).mono ?_
      rintro v32 H32 ⟨G2, ⟨a2, c2, X2, hXl2, lG2, rfl, hX2, hd2⟩, lG32, hk32⟩
      obtain ⟨m2, n2⟩ := hk32 b2 _ k31_2 f2_H
      obtain ⟨m3, n3⟩ := hk32 b3 _ k31_3 f3_H
      obtain ⟨m4, n4⟩ := hk32 b4 _ k31_4 f4_H
      have lH32 : Le H H32 := Le.trans lG2 lG32
      have lR32 : Le R5 H32 := by rw [hR5]; exact le_put (le_put (zaN _) m2) m3
      have hPp := hP.put 0 (x.gen % 2) x.sec
      refine yaf ?_
      refine hK _ _ leA ?_; clear hK K
      apply zat rfl (zai (by decide)) rfl
      ·intro r
       refine yaI ?_
       exact ⟨rfl, Le.refl _⟩
      refine yaj ?_
      apply zat rfl (zai (by decide)) rfl
      ·intro r
       refine ybC ?_
       exact ⟨rfl, Le.refl _⟩
      refine yaj ?_
      apply zat rfl (zai (by decide)) rfl
      ·intro r
       refine ybC ?_
       exact ⟨rfl, Le.refl _⟩
      refine yaj ?_
      refine TW_last rfl (zas) rfl (fun K hK r => ?_)
      refine yaD ?_
      first | refine zak sz52 bdA hbA bdA plA (by decide) ?_ | refine zal sz52 bdA hbA bdA plA (by decide) ?_
      refine yaf ?_
      refine hK _ _ ?_; clear hK K
      apply zat rfl (zai (by decide)) rfl
      ·intro r
       simp only [x_assign, eX, ↓reduceIte, Nat.reduceEqDiff]
       exact ⟨rfl, Le.refl _⟩
      refine yaj ?_
      refine TW_nil ?_
      refine yab ?_
      refine hK8 _ _ ?_; try clear hK8 K8
      refine zac (fun K9 hK9 => ?_)
      refine zac (fun K10 hK10 => ?_)
      refine zaa ?_
      refine zah rfl ?_
      refine zab (fun K hK r => ?_)
      refine yak ?_
      refine hK _ _ ?_; clear hK K
      refine zad ?_
      refine yab ?_
      refine hK10 _ _ ?_; try clear hK10 K10
      refine zar (fun r => rfl) (fun c36 => ?_) (fun c36 => ?_)
      ·first
       |(exfalso; exact cnA c36; done)
       |skip
        have hb1 : ¬ (m.put 0 (x.gen % 2) x.sec).2 = 0 := by first | exact c36 | (simpa using c36)
        refine zac (fun K11 hK11 => ?_)
        refine zaa ?_
        refine zab (fun K hK r => ?_)
        refine yap ?_
        first | refine zax Try.underlying52 rfl sz52 hbA bdA ?_ | refine zaq Try.underlying52 rfl sz52 hbA bdA ?_
        refine ybg ?_
        refine yaf ?_
        refine hK _ _ ?_; clear hK K
        refine zah rfl ?_
        refine zaI rfl (zas) (fun K hK r => ?_)
        refine yaD ?_
        first | refine zak sz52 bdA hbA bdA plA (by decide) ?_ | refine zal sz52 bdA hbA bdA plA (by decide) ?_
        refine yaf ?_
        refine hK _ _ ?_; clear hK K
        refine zaj rfl ?_
        refine zad ?_
        refine yab ?_
        refine hK11 _ _ ?_; try clear hK11 K11
        refine zaz ?_
        refine yab ?_
        have hsv : m.saveM x = m.put 0 (x.gen % 2) x.sec := by
         unfold RSt.saveM
         rw [if_neg (by rw [hgd]; simp), if_neg hz, if_neg hb1]
        rw [hsv]
        refine ⟨[_, _], ⟨⟨_, rfl, zaC Try.underlying52 rfl sz52 hbA bdA⟩, rfl, trivial⟩, _, Le.refl _, a2, c2, X2, hXl2, zaw (zaw lH32 f2_H) f4_H, rfl, hX2.le (zaw (zaw lG32 n2) n4), hd2⟩
      ·first
       |(exfalso; exact cnA c36; done)
       |skip
        have hb1 : (m.put 0 (x.gen % 2) x.sec).2 = 0 := by first | omega | (simpa using c36)
        have hsave : m.saveM x = (m.put 0 (x.gen % 2) x.sec).1.fl 0 := by
         unfold RSt.saveM
         rw [if_neg (by rw [hgd]; simp), if_neg hz, if_pos hb1]
        refine zau ?_
        refine yab ?_
        refine hK9 _ _ ?_; try clear hK9 K9
        refine zac (fun K12 hK12 => ?_)
        refine zaa ?_
        refine zab (fun K hK r => ?_)
        refine yap ?_
        first | refine zax Try.underlying52 rfl sz52 hbA bdA ?_ | refine zaq Try.underlying52 rfl sz52 hbA bdA ?_
        refine ybg ?_
        refine yaf ?_
        refine hK _ _ ?_; clear hK K
        refine zab (fun K hK r => ?_)
        simp only [zaF _ bd54, List.map_toArray, List.map_cons, List.map_nil, eX, ↓reduceIte, Nat.reduceEqDiff, Int.reduceToNat]
        refine (CallH.use (rflush_ok G2 a2 c2 X2 hX2 _ hd2 (by omega) (kk + 1) (by omega) (fun i hi => hPp.rg hd2 i hi) 0) (zaw lG32 n2)).mono ?_
        rintro v40 H40 ⟨G3, ⟨a3, c3, X3, hXl3, lG3, rfl, hX3, hd3⟩, lG40, hk40⟩
        obtain ⟨w4, q4⟩ := hk40 b4 _ ((zap _ _ n4_b2.symm).trans m4) n4
        rw [← hsave] at hd3 ⊢
        refine yaf ?_
        refine hK _ _ ?_; clear hK K
        refine zab (fun K hK r => ?_)
        refine yah ?_
        refine hK _ _ ?_; clear hK K
        refine zab (fun K hK r => ?_)
        refine yah ?_
        refine hK _ _ ?_; clear hK K
        refine zaI rfl (zas) (fun K hK r => ?_)
        refine yaD ?_
        first | refine zak sz52 bdA hbA bdA plA (by decide) ?_ | refine zal sz52 bdA hbA bdA plA (by decide) ?_
        refine yaf ?_
        refine hK _ _ ?_; clear hK K
        refine zaj rfl ?_
        refine zad ?_
        refine yab ?_
        refine hK12 _ _ ?_; try clear hK12 K12
        refine zaz ?_
        refine yab ?_
        refine ⟨[_, _], ⟨⟨_, rfl, zaC Try.underlying52 rfl sz52 hbA bdA⟩, rfl, trivial⟩, _, Le.refl _, a3, c3, X3, hXl3.trans hXl2, zaw (Le.trans lG2 (Le.trans lG3 lG40)) f4_H, rfl, hX3.le (zaw lG40 q4), hd3⟩
set_option maxRecDepth 100000 in
set_option maxHeartbeats 16000000 in
theorem rloadL (H : Hp) (a : Option Addr) (cap : Nat) (X : List RDX) (hX : RX H a cap X) (m : RSt) (hm : m.dv = rdv X) {kk : Nat} {s : St} (hP : PR kk s m) (hkk : kk ≤ 100000) (hby : ∀ k : Nat, k < 2 → m.sz0 < 2 ∨ ByteL (s.rd 0 k).1.b) : CallH Try.prog 31 #[m.v (.slice a X.length cap)] H (fun v H' => Le H H' ∧ ∃ x rs, v = .tuple #[.agg #[.int .i64 s.loadM.1.gen, .int .i64 s.loadM.1.ep, .int .i64 s.loadM.1.ba, .int .i64 s.loadM.1.ar, .int .i64 s.loadM.1.ln, x], .int .i64 (s.loadM.2.getD 0)] ∧ OwnS H' 3 1 x s.loadM.1.hd.length (i64s s.loadM.1.hd) rs ∧ ∀ r, rs = some r → H r = none) := by
 refine zam (l := [_]) (rl := [.cell 2 24, .tmp 3]) (n := 79) Try.func31 rfl rfl rfl rfl rfl ?_
 refine yaa ?_
 obtain ⟨hsz1, hsz2, hsz3⟩ := hP.sz0
 obtain ⟨hl5, hsl⟩ := hP.len hm
 have hlen : m.dv.length = X.length := by rw [hm]; simp
 have hszX : m.sz0 = if X.length = 0 then 0 else ((X.getD 0 default).d.sec.length : Int) := by
  unfold RSt.sz0
  rw [hlen, hm, rdv_at]
  by_cases h0 : X.length = 0
  ·rw [if_pos h0, if_neg (by omega)]
  ·rw [if_neg h0, if_pos (by omega)]
 have hgo0 := hP.rl.go
 have hbest := best_two s _ _ rfl rfl
 obtain ⟨ga0, ga1⟩ := opMv_gen (L := (s.rd 0 (0 : Nat)).1.b)
 obtain ⟨gb0, gb1⟩ := opMv_gen (L := (s.rd 0 (1 : Nat)).1.b)
 have hta : (opMv (s.rd 0 (0 : Nat)).1.b).gen.tmod 2 = (opMv (s.rd 0 (0 : Nat)).1.b).gen % 2 := Int.tmod_eq_emod_of_nonneg ga0
 have htb : (opMv (s.rd 0 (1 : Nat)).1.b).gen.tmod 2 = (opMv (s.rd 0 (1 : Nat)).1.b).gen % 2 := Int.tmod_eq_emod_of_nonneg gb0
 have hA64 := (s.rd 0 (0 : Nat)).1.h
 have hB64 := (s.rd 0 (1 : Nat)).1.h
 refine zac (fun K1 hK1 => ?_)
 refine zaa ?_
 refine zab (fun K hK r => ?_)
 refine yaW ?_
 intro b1 hb1
 have f1_H : H b1 = none := zag lhA hb1
 refine yaf ?_
 refine hK _ _ ?_; clear hK K
 refine zab (fun K hK r => ?_)
 refine yci ?_
 intro b2 hb2
 try have n2_b1 : b1 ≠ b2 := zaf hbA hb2
 have f2_H : H b2 = none := zag lhA hb2
 refine yaf ?_
 refine hK _ _ ?_; clear hK K
 refine zaj rfl ?_
 refine zad ?_
 refine yab ?_
 refine hK1 _ _ ?_; try clear hK1 K1
 refine zac (fun K2 hK2 => ?_)
 refine zac (fun K3 hK3 => ?_)
 refine CW_region_cut (fun e H_ => ∃ t, t = decide (m.sz0 < 2) ∧ Env.has [(1, .pointer (some ⟨b1, 0, none⟩)), (2, .pointer (some ⟨b2, 0, none⟩)), (24, .bool t)] e ∧ H_ = (H.upd b1 (.cells (m.c (.slice a X.length cap)).toArray 52)).upd b2 (.cells #[.int .i64 0, .int .i64 0, .int .i64 0, .int .i64 0, .int .i64 0, .slice none 0 0] 24)) ?_ ?_
 ·skip
  refine zab (fun K hK r => ?_)
  refine yco ?_
  refine hK _ _ ?_; clear hK K
  refine zab (fun K hK r => ?_)
  refine yap ?_
  refine zae Try.underlying50 rfl hbA ldA ?_
  refine yaf ?_
  refine hK _ _ ?_; clear hK K
  refine zab (fun K hK r => ?_)
  refine ycp ?_
  refine hK _ _ ?_; clear hK K
  refine zab (fun K hK r => ?_)
  refine yas ?_
  refine hK _ _ ?_; clear hK K
  refine zah rfl ?_
  (first | refine zaA (d := 16) rfl (fun g16 => ?_) (fun g16 => ?_) | skip)
  all_goals try (exfalso; exact cnA g16)
  all_goals (try replace g16 := yad g16)
  all_goals
   refine yaf ?_
   first
   |refine yGT (fun K hK r => ?_)
    refine yco ?_
    refine hK _ _ ?_; clear hK K
   |refine yGF ?_
    refine yaj ?_
   first
   |refine yGT (fun K hK r => ?_)
    refine yap ?_
    refine zae Try.underlying50 rfl hbA ldA ?_
    refine yaf ?_
    refine hK _ _ ?_; clear hK K
   |refine yGF ?_
    refine yaj ?_
   first
   |refine yGT (fun K hK r => ?_)
    refine yaw ?_
    obtain ⟨bw, ow, cw, Tw, Fw, ew, hbw, hsw, atw⟩ := hX.h.at (by omega)
    have mk2 := Nat.mul_le_mul_right 2 (show 0 + 1 ≤ X.length by omega)
    refine zaK Try.underlying50 sz67 ew ixA ixA ?_
    refine hK _ _ ?_; clear hK K
   |refine yGF ?_
    refine yaj ?_
   first
   |refine yGT (fun K hK r => ?_)
    refine ycq ?_
    refine hK _ _ ?_; clear hK K
   |refine yGF ?_
    refine yaj ?_
   first
   |refine yGT (fun K hK r => ?_)
    refine yap ?_
    refine zae Try.underlying64 rfl ((show Le H _ from lhA) _ _ hbw) (v := .slice (X.getD 0 default).sa (X.getD 0 default).d.sec.length (X.getD 0 default).sc) (by first | exact cell_at RDX.len atw rfl 0 (by omega) 0 (by decide) | (have := cell_at RDX.len atw rfl 0 (by omega) 0 (by decide); simpa using this)) ?_
    refine hK _ _ ?_; clear hK K
   |refine yGF ?_
    refine yaj ?_
   first
   |refine yGT (fun K hK r => ?_)
    refine ycr ?_
    refine hK _ _ ?_; clear hK K
   |refine yGF ?_
    refine yaj ?_
   first
   |refine yGT (fun K hK r => ?_)
    refine yac ?_
    refine hK _ _ ?_; clear hK K
   |refine yGF ?_
    refine yaj ?_
   refine zab (fun K hK r => ?_)
   refine yal ?_
   refine hK _ _ ?_; clear hK K
   refine zad ?_
   all_goals
    refine ⟨_, rfl, ⟨rfl, rfl, ?_, trivial⟩, rfl⟩
    show some (Value.bool _) = some (Value.bool _)
    congr 2
    rw [hszX]
    first
    |(rw [if_pos (by omega)]; rfl)
    |(rw [if_neg (by omega)]; done)
    |(rw [if_neg (by omega)]; rfl)
 rintro e_ H_ ⟨t24, ht24, he, hH_⟩
 have hH_ := hH_.symm; subst hH_
 refine yab ?_
 refine hK3 _ _ ?_; try clear hK3 K3
 refine CW_env he.sub ?_; clear he e_
 refine zar (fun r => rfl) (fun c24 => ?_) (fun c24 => ?_)
 ·first
  |(exfalso; exact cnA c24; done)
  |skip
   have hz : m.sz0 < 2 := of_decide_eq_true (ht24.symm.trans c24)
   refine zac (fun K4 hK4 => ?_)
   refine zaa ?_
   refine zab (fun K hK r => ?_)
   refine ycj ?_
   refine ybe ?_
   refine yaf ?_
   refine hK _ _ ?_; clear hK K
   refine zaI rfl (zas) (fun K hK r => ?_)
   refine yaD ?_
   first | refine zak sz24 bdA hbA bdA plA (by decide) ?_ | refine zal sz24 bdA hbA bdA plA (by decide) ?_
   refine yaf ?_
   refine hK _ _ ?_; clear hK K
   refine zaj rfl ?_
   refine zad ?_
   refine yab ?_
   refine hK4 _ _ ?_; try clear hK4 K4
   refine zaz ?_
   refine yab ?_
   have hld : s.loadM = (zM, some 1) := by
    unfold St.loadM
    rw [if_pos (by omega)]
   rw [hld]
   refine ⟨[_, _], ⟨⟨_, rfl, zaC Try.underlying24 rfl sz24 hbA bdA⟩, rfl, trivial⟩, _, Le.refl _, lhA, .slice none 0 0, none, ?_, OwnS.nil _ _ _, fun r hr => by cases hr⟩
   rfl
 ·first
  |(exfalso; exact cnA c24; done)
  |skip
   have hz : ¬ m.sz0 < 2 := of_decide_eq_false (ht24.symm.trans c24)
   refine zau ?_
   refine yab ?_
   refine hK2 _ _ ?_; try clear hK2 K2
   refine zac (fun K5 hK5 => ?_)
   refine zac (fun K6 hK6 => ?_)
   refine zaa ?_
   refine zab (fun K hK r => ?_)
   refine yct ?_
   refine hK _ _ ?_; clear hK K
   refine zab (fun K hK r => ?_)
   refine yap ?_
   refine zae Try.underlying4 rfl hbA ldA ?_
   refine yaf ?_
   refine hK _ _ ?_; clear hK K
   refine zad ?_
   refine yab ?_
   refine hK6 _ _ ?_; try clear hK6 K6
   refine zar (fun r => rfl) (fun c27 => ?_) (fun c27 => ?_)
   ·first
    |(exfalso; exact cnA c27; done)
    |skip
     have hgo : m.gone = true := c27
     refine zac (fun K7 hK7 => ?_)
     refine zaa ?_
     refine zab (fun K hK r => ?_)
     refine ycj ?_
     refine ybe ?_
     refine yaf ?_
     refine hK _ _ ?_; clear hK K
     refine zaI rfl (zas) (fun K hK r => ?_)
     refine yaD ?_
     first | refine zak sz24 bdA hbA bdA plA (by decide) ?_ | refine zal sz24 bdA hbA bdA plA (by decide) ?_
     refine yaf ?_
     refine hK _ _ ?_; clear hK K
     refine zaj rfl ?_
     refine zad ?_
     refine yab ?_
     refine hK7 _ _ ?_; try clear hK7 K7
     refine zaz ?_
     refine yab ?_
     have hld : s.loadM = (zM, some 3) := by
      unfold St.loadM
      rw [if_neg (by omega), if_pos (by rw [hgo0]; exact hgo)]
     rw [hld]
     refine ⟨[_, _], ⟨⟨_, rfl, zaC Try.underlying24 rfl sz24 hbA bdA⟩, rfl, trivial⟩, _, Le.refl _, lhA, .slice none 0 0, none, ?_, OwnS.nil _ _ _, fun r hr => by cases hr⟩
     rfl
   ·first
    |(exfalso; exact cnA c27; done)
    |skip
     have hgo : m.gone = false := by simpa using c27
     have hz2 : ¬ s.sz 0 < 2 := by omega
     have hgs : s.gone = false := by rw [hgo0]; exact hgo
     refine zau ?_
     refine yab ?_
     refine hK5 _ _ ?_; try clear hK5 K5
     refine zac (fun K8 hK8 => ?_)
     refine zaa ?_
     refine zab (fun K hK r => ?_)
     refine yap ?_
     first | refine zax Try.underlying52 rfl sz52 hbA bdA ?_ | refine zaq Try.underlying52 rfl sz52 hbA bdA ?_
     refine ybg ?_
     refine yaf ?_
     refine hK _ _ ?_; clear hK K
     refine zab (fun K hK r => ?_)
     simp only [zaF _ bd66, List.map_toArray, List.map_cons, List.map_nil, eX, ↓reduceIte, Nat.reduceEqDiff, Int.reduceToNat]
     refine (rread_ok _ a cap X (hX.le lhA) m hm hl5 kk (by omega) (hP.rg hm) 0 0).mono ?_
     rintro v H' ⟨rfl, hq⟩
     have hq := hq.symm
     subst hq
     rw [show (m.rd 0 0).1 = (s.rd 0 (0 : Nat)).1 from (hP.rl.read 0 0).1]
     refine yaf ?_
     refine hK _ _ ?_; clear hK K
     refine zah rfl ?_
     refine zab (fun K hK r => ?_)
     refine yah ?_
     refine hK _ _ ?_; clear hK K
     refine zab (fun K hK r => ?_)
     refine yah ?_
     refine hK _ _ ?_; clear hK K
     refine zab (fun K hK r => ?_)
     refine yaX ?_
     intro b4 hb4
     try have n4_b1 : b1 ≠ b4 := zaf hbA hb4
     try have n4_b2 : b2 ≠ b4 := zaf hbA hb4
     have f4_H : H b4 = none := zag lhA hb4
     refine yaf ?_
     refine hK _ _ ?_; clear hK K
     refine zaI rfl (zas) (fun K hK r => ?_)
     refine yaD ?_
     first | refine zak sz30 bdA hbA bdA plA (by decide) ?_ | refine zal sz30 bdA hbA bdA plA (by decide) ?_
     refine yaf ?_
     refine hK _ _ ?_; clear hK K
     refine zaj rfl ?_
     refine zad ?_
     refine yab ?_
     refine hK8 _ _ ?_; try clear hK8 K8
     refine zac (fun K9 hK9 => ?_)
     refine zaa ?_
     refine zab (fun K hK r => ?_)
     refine yap ?_
     first | refine zax Try.underlying52 rfl sz52 hbA bdA ?_ | refine zaq Try.underlying52 rfl sz52 hbA bdA ?_
     refine ybg ?_
     refine yaf ?_
     refine hK _ _ ?_; clear hK K
     refine zab (fun K hK r => ?_)
     simp only [zaF _ bd66, List.map_toArray, List.map_cons, List.map_nil, eX, ↓reduceIte, Nat.reduceEqDiff, Int.reduceToNat]
     refine (rread_ok _ a cap X (hX.le lhA) m hm hl5 kk (by omega) (hP.rg hm) 0 1).mono ?_
     rintro v H' ⟨rfl, hq⟩
     have hq := hq.symm
     subst hq
     rw [show (m.rd 0 1).1 = (s.rd 0 (1 : Nat)).1 from (hP.rl.read 0 1).1]
     refine yaf ?_
     refine hK _ _ ?_; clear hK K
     refine zah rfl ?_
     refine zab (fun K hK r => ?_)
     refine yah ?_
     refine hK _ _ ?_; clear hK K
     refine zab (fun K hK r => ?_)
     refine yah ?_
     refine hK _ _ ?_; clear hK K
     refine zab (fun K hK r => ?_)
     refine yaX ?_
     intro b6 hb6
     try have n6_b1 : b1 ≠ b6 := zaf hbA hb6
     try have n6_b2 : b2 ≠ b6 := zaf hbA hb6
     try have n6_b4 : b4 ≠ b6 := zaf hbA hb6
     have f6_H : H b6 = none := zag lhA hb6
     refine yaf ?_
     refine hK _ _ ?_; clear hK K
     refine zaI rfl (zas) (fun K hK r => ?_)
     refine yaD ?_
     first | refine zak sz30 bdA hbA bdA plA (by decide) ?_ | refine zal sz30 bdA hbA bdA plA (by decide) ?_
     refine yaf ?_
     refine hK _ _ ?_; clear hK K
     refine zaj rfl ?_
     refine zad ?_
     refine yab ?_
     refine hK9 _ _ ?_; try clear hK9 K9
     refine zac (fun K10 hK10 => ?_)
     refine zaa ?_
     refine zab (fun K hK r => ?_)
     refine yap ?_
     refine zax Try.underlying30 rfl sz30 hbA (by simp [Sec.h]) ?_
     refine hK _ _ ?_; clear hK K
     refine zab (fun K hK r => ?_)
     simp only [zaF _ bd17, List.map_toArray, List.map_cons, List.map_nil, eX, ↓reduceIte, Nat.reduceEqDiff, Int.reduceToNat]
     refine (rMOpen_ok _ (s.rd 0 (0 : Nat)).1.b hA64 ((hby 0 (by omega)).resolve_left hz)).mono ?_
     rintro v41 H41 ⟨l41, x41, rs41, rfl, ho41, hr41⟩
     obtain ⟨a41, c41, rfl⟩ := ho41.holds.form
     have k41_2 := l41 b2 _ hbA
     have k41_6 := l41 b6 _ hbA
     have lH41 : Le H H41 := Le.trans lhA l41
     refine yaf ?_
     refine hK _ _ ?_; clear hK K
     refine zah rfl ?_
     refine zab (fun K hK r => ?_)
     refine yah ?_
     refine hK _ _ ?_; clear hK K
     refine zab (fun K hK r => ?_)
     refine yah ?_
     refine hK _ _ ?_; clear hK K
     refine zab (fun K hK r => ?_)
     refine yci ?_
     intro b8 hb8
     try have n8_b1 : b1 ≠ b8 := zaf hbA hb8
     try have n8_b2 : b2 ≠ b8 := zaf hbA hb8
     try have n8_b4 : b4 ≠ b8 := zaf hbA hb8
     try have n8_b6 : b6 ≠ b8 := zaf hbA hb8
     have f8_H : H b8 = none := zag lhA hb8
     refine yaf ?_
     refine hK _ _ ?_; clear hK K
     refine zaI rfl (zas) (fun K hK r => ?_)
     refine yaD ?_
     first | refine zak sz24 bdA hbA bdA plA (by decide) ?_ | refine zal sz24 bdA hbA bdA plA (by decide) ?_
     refine yaf ?_
     refine hK _ _ ?_; clear hK K
     refine zaj rfl ?_
     refine zad ?_
     refine yab ?_
     refine hK10 _ _ ?_; try clear hK10 K10
     refine zac (fun K11 hK11 => ?_)
     refine zaa ?_
     refine zab (fun K hK r => ?_)
     refine yap ?_
     refine zax Try.underlying30 rfl sz30 hbA (by simp [Sec.h]) ?_
     refine hK _ _ ?_; clear hK K
     refine zab (fun K hK r => ?_)
     simp only [zaF _ bd17, List.map_toArray, List.map_cons, List.map_nil, eX, ↓reduceIte, Nat.reduceEqDiff, Int.reduceToNat]
     refine (rMOpen_ok _ (s.rd 0 (1 : Nat)).1.b hB64 ((hby 1 (by omega)).resolve_left hz)).mono ?_
     rintro v46 H46 ⟨l46, x46, rs46, rfl, ho46, hr46⟩
     obtain ⟨a46, c46, rfl⟩ := ho46.holds.form
     have k46_2 := l46 b2 _ hbA
     have k46_8 := l46 b8 _ (zan _ _ _)
     have lH46 : Le H H46 := Le.trans lH41 (Le.trans (le_upd _ _ _ hb8) l46)
     have ho41b := (ho41.make hb8).le l46
     have lH46x : Le H (H41.upd b8 (.cells #[.int .i64 (opMv (s.rd 0 (0 : Nat)).1.b).gen, .int .i64 (opMv (s.rd 0 (0 : Nat)).1.b).ep, .int .i64 (opMv (s.rd 0 (0 : Nat)).1.b).ba, .int .i64 (opMv (s.rd 0 (0 : Nat)).1.b).ar, .int .i64 (opMv (s.rd 0 (0 : Nat)).1.b).ln, .slice a41 (opMv (s.rd 0 (0 : Nat)).1.b).hd.length c41] 24)) := Le.trans lH41 (le_upd _ _ _ hb8)
     have n412 : rs41 ≠ some b2 := fun e => by have h := hr41 _ e; revert h; rw [zap _ _ n6_b2, zap _ _ n4_b2, zan]; intro h; cases h
     have n462 : rs46 ≠ some b2 := fun e => by have h := hr46 _ e; rw [zap _ _ (zaf k41_2 hb8), k41_2] at h; cases h
     refine yaf ?_
     refine hK _ _ ?_; clear hK K
     refine zah rfl ?_
     refine zab (fun K hK r => ?_)
     refine yah ?_
     refine hK _ _ ?_; clear hK K
     refine zab (fun K hK r => ?_)
     refine yah ?_
     refine hK _ _ ?_; clear hK K
     refine zab (fun K hK r => ?_)
     refine yci ?_
     intro b10 hb10
     try have n10_b1 : b1 ≠ b10 := zaf hbA hb10
     try have n10_b2 : b2 ≠ b10 := zaf hbA hb10
     try have n10_b4 : b4 ≠ b10 := zaf hbA hb10
     try have n10_b6 : b6 ≠ b10 := zaf hbA hb10
     try have n10_b8 : b8 ≠ b10 := zaf hbA hb10
     have f10_H : H b10 = none := zag lhA hb10
     refine yaf ?_
     refine hK _ _ ?_; clear hK K
     refine zaI rfl (zas) (fun K hK r => ?_)
     refine yaD ?_
     first | refine zak sz24 bdA hbA bdA plA (by decide) ?_ | refine zal sz24 bdA hbA bdA plA (by decide) ?_
     refine yaf ?_
     refine hK _ _ ?_; clear hK K
     refine zaj rfl ?_
     refine zad ?_
     refine yab ?_
     refine hK11 _ _ ?_; try clear hK11 K11
     refine zac (fun K12 hK12 => ?_)
     refine CW_region_cut (fun e H_ => ∃ (ev ob : Bool), ev = ((opM (s.rd 0 (0 : Nat)).1.b).isSome && decide ((opMv (s.rd 0 (0 : Nat)).1.b).gen % 2 = 0)) ∧ ob = (opM (s.rd 0 (1 : Nat)).1.b).isSome ∧ Env.has [(1, .pointer (some ⟨b1, 0, none⟩)), (2, .pointer (some ⟨b2, 0, none⟩)), (8, .pointer (some ⟨b8, 0, none⟩)), (10, .pointer (some ⟨b10, 0, none⟩)), (9, .bool ev), (11, .bool ob)] e ∧ H_ = H46.upd b10 (.cells #[.int .i64 (opMv (s.rd 0 (1 : Nat)).1.b).gen, .int .i64 (opMv (s.rd 0 (1 : Nat)).1.b).ep, .int .i64 (opMv (s.rd 0 (1 : Nat)).1.b).ba, .int .i64 (opMv (s.rd 0 (1 : Nat)).1.b).ar, .int .i64 (opMv (s.rd 0 (1 : Nat)).1.b).ln, .slice a46 (opMv (s.rd 0 (1 : Nat)).1.b).hd.length c46] 24)) ?_ ?_
     ·skip
      refine zah rfl ?_
      refine zah rfl ?_
      (first | refine zaA (d := 50) rfl (fun g50 => ?_) (fun g50 => ?_) | skip)
      all_goals try (exfalso; exact cnA g50)
      all_goals (try replace g50 := yad g50)
      all_goals
       refine yaf ?_
       first
       |refine yGT (fun K hK r => ?_)
        refine ybT ?_
        refine hK _ _ ?_; clear hK K
       |refine yGF ?_
        refine yaj ?_
       first
       |refine yGT (fun K hK r => ?_)
        refine yap ?_
        refine zae Try.underlying3 rfl hbA ldA ?_
        refine yaf ?_
        refine hK _ _ ?_; clear hK K
       |refine yGF ?_
        refine yaj ?_
       first
       |refine yGT (fun K hK r => ?_)
        refine ybP ?_
        rw [hta]
        refine hK _ _ ?_; clear hK K
       |refine yGF ?_
        refine yaj ?_
       first
       |refine yGT (fun K hK r => ?_)
        refine yas ?_
        refine hK _ _ ?_; clear hK K
       |refine yGF ?_
        refine yaj ?_
       refine zab (fun K hK r => ?_)
       refine yal ?_
       refine hK _ _ ?_; clear hK K
       refine zaj rfl ?_
       refine zad ?_
       all_goals
        refine ⟨_, _, rfl, rfl, ⟨rfl, rfl, rfl, rfl, ?_, rfl, trivial⟩, rfl⟩
        show some (Value.bool _) = some (Value.bool _)
        congr 2
        first
        |(rw [g50, Bool.true_and]; done)
        |(rw [g50]; rfl)
        |(rw [g50]; simp; done)
     rintro e_ H_ ⟨ev, ob, hev, hob, he, hH_⟩
     have hH_ := hH_.symm; subst hH_
     refine yab ?_
     refine hK12 _ _ ?_; try clear hK12 K12
     refine CW_env he.sub ?_; clear he e_
     refine zac (fun K13 hK13 => ?_)
     refine CW_region_cut (fun e H_ => ∃ (od : Bool), od = ((opM (s.rd 0 (1 : Nat)).1.b).isSome && decide ((opMv (s.rd 0 (1 : Nat)).1.b).gen % 2 = 1)) ∧ Env.has [(1, .pointer (some ⟨b1, 0, none⟩)), (2, .pointer (some ⟨b2, 0, none⟩)), (8, .pointer (some ⟨b8, 0, none⟩)), (10, .pointer (some ⟨b10, 0, none⟩)), (9, .bool ev), (11, .bool od)] e ∧ H_ = H46.upd b10 (.cells #[.int .i64 (opMv (s.rd 0 (1 : Nat)).1.b).gen, .int .i64 (opMv (s.rd 0 (1 : Nat)).1.b).ep, .int .i64 (opMv (s.rd 0 (1 : Nat)).1.b).ba, .int .i64 (opMv (s.rd 0 (1 : Nat)).1.b).ar, .int .i64 (opMv (s.rd 0 (1 : Nat)).1.b).ln, .slice a46 (opMv (s.rd 0 (1 : Nat)).1.b).hd.length c46] 24)) ?_ ?_
     ·skip
      refine zah rfl ?_
      refine zah rfl ?_
      (first | refine zaA (d := 57) rfl (fun g57 => ?_) (fun g57 => ?_) | skip)
      all_goals try (exfalso; exact cnA g57)
      all_goals (try replace g57 := yad g57)
      all_goals
       refine yaf ?_
       first
       |refine yGT (fun K hK r => ?_)
        refine ybT ?_
        refine hK _ _ ?_; clear hK K
       |refine yGF ?_
        refine yaj ?_
       first
       |refine yGT (fun K hK r => ?_)
        refine yap ?_
        refine zae Try.underlying3 rfl hbA ldA ?_
        refine yaf ?_
        refine hK _ _ ?_; clear hK K
       |refine yGF ?_
        refine yaj ?_
       first
       |refine yGT (fun K hK r => ?_)
        refine ybP ?_
        rw [htb]
        refine hK _ _ ?_; clear hK K
       |refine yGF ?_
        refine yaj ?_
       first
       |refine yGT (fun K hK r => ?_)
        refine yas ?_
        refine hK _ _ ?_; clear hK K
       |refine yGF ?_
        refine yaj ?_
       refine zab (fun K hK r => ?_)
       refine yal ?_
       refine hK _ _ ?_; clear hK K
       refine zaj rfl ?_
       refine zad ?_
       all_goals
        refine ⟨_, rfl, ⟨rfl, rfl, rfl, rfl, rfl, ?_, trivial⟩, rfl⟩
        show some (Value.bool _) = some (Value.bool _)
        congr 2
        first
        |(rw [← hob, g57, Bool.true_and]; done)
        |(rw [← hob, g57]; rfl)
        |(rw [← hob, g57]; simp; done)
     rintro e_ H_ ⟨od, hod, he, hH_⟩
     have hH_ := hH_.symm; subst hH_
     refine yab ?_
     refine hK13 _ _ ?_; try clear hK13 K13
     refine CW_env he.sub ?_; clear he e_
     refine zac (fun K14 hK14 => ?_)
     refine zac (fun K15 hK15 => ?_)
     refine CW_region_cut (fun e H_ => ∃ (pk : Bool), pk = (ev && (!od || decide ((opMv (s.rd 0 (1 : Nat)).1.b).gen < (opMv (s.rd 0 (0 : Nat)).1.b).gen))) ∧ Env.has [(1, .pointer (some ⟨b1, 0, none⟩)), (2, .pointer (some ⟨b2, 0, none⟩)), (8, .pointer (some ⟨b8, 0, none⟩)), (10, .pointer (some ⟨b10, 0, none⟩)), (9, .bool ev), (11, .bool od), (74, .bool pk)] e ∧ H_ = H46.upd b10 (.cells #[.int .i64 (opMv (s.rd 0 (1 : Nat)).1.b).gen, .int .i64 (opMv (s.rd 0 (1 : Nat)).1.b).ep, .int .i64 (opMv (s.rd 0 (1 : Nat)).1.b).ba, .int .i64 (opMv (s.rd 0 (1 : Nat)).1.b).ar, .int .i64 (opMv (s.rd 0 (1 : Nat)).1.b).ln, .slice a46 (opMv (s.rd 0 (1 : Nat)).1.b).hd.length c46] 24)) ?_ ?_
     ·skip
      refine zah rfl ?_
      refine zah rfl ?_
      (first | refine zaA (d := 64) rfl (fun g64 => ?_) (fun g64 => ?_) | skip)
      all_goals try (exfalso; exact cnA g64)
      all_goals (try replace g64 := yad g64)
      all_goals
       refine yaf ?_
       first
       |refine yGT (fun K hK r => ?_)
        refine yai ?_
        refine hK _ _ ?_; clear hK K
       |refine yGF ?_
        refine yaj ?_
       first
       |refine yGT (fun K hK r => ?_)
        refine yam ?_
        refine hK _ _ ?_; clear hK K
       |refine yGF ?_
        refine yaj ?_
       first
       |refine yGT (fun K hK r => ?_)
        refine yai ?_
        refine hK _ _ ?_; clear hK K
       |refine yGF ?_
        refine yaj ?_
       (first | refine zaA (d := 67) rfl (fun g67 => ?_) (fun g67 => ?_) | skip)
       all_goals try (exfalso; exact cnA g67)
       all_goals (try replace g67 := yad g67)
       all_goals
        refine yaf ?_
        first
        |refine yGT (fun K hK r => ?_)
         refine ybT ?_
         refine hK _ _ ?_; clear hK K
        |refine yGF ?_
         refine yaj ?_
        first
        |refine yGT (fun K hK r => ?_)
         refine yap ?_
         refine zae Try.underlying3 rfl hbA ldA ?_
         refine yaf ?_
         refine hK _ _ ?_; clear hK K
        |refine yGF ?_
         refine yaj ?_
        first
        |refine yGT (fun K hK r => ?_)
         refine ybT ?_
         refine hK _ _ ?_; clear hK K
        |refine yGF ?_
         refine yaj ?_
        first
        |refine yGT (fun K hK r => ?_)
         refine yap ?_
         refine zae Try.underlying3 rfl hbA ldA ?_
         refine yaf ?_
         refine hK _ _ ?_; clear hK K
        |refine yGF ?_
         refine yaj ?_
        first
        |refine yGT (fun K hK r => ?_)
         refine yaZ ?_
         refine hK _ _ ?_; clear hK K
        |refine yGF ?_
         refine yaj ?_
        first
        |refine yGT (fun K hK r => ?_)
         refine yal ?_
         refine hK _ _ ?_; clear hK K
        |refine yGF ?_
         refine yaj ?_
        refine zab (fun K hK r => ?_)
        refine yal ?_
        refine hK _ _ ?_; clear hK K
        refine zad ?_
        all_goals
         refine ⟨_, rfl, ⟨rfl, rfl, rfl, rfl, rfl, rfl, ?_, trivial⟩, rfl⟩
         show some (Value.bool _) = some (Value.bool _)
         congr 2
         first
         |(rw [g64]; rfl)
         |(rw [g64, g67]; rfl)
         |(simp only [Bool.not_eq_eq_eq_not, Bool.not_true, Bool.not_false] at g67; rw [g64, g67]; rfl)
         |(rw [g64]; simp_all; done)
     rintro e_ H_ ⟨pk, hpk, he, hH_⟩
     have hH_ := hH_.symm; subst hH_
     refine yab ?_
     refine hK15 _ _ ?_; try clear hK15 K15
     refine CW_env he.sub ?_; clear he e_
     refine zar (fun r => rfl) (fun c74 => ?_) (fun c74 => ?_)
     ·first
      |(exfalso; exact cnA c74; done)
      |skip
       skip
       refine zac (fun K16 hK16 => ?_)
       refine zaa ?_
       refine zab (fun K hK r => ?_)
       refine yap ?_
       first | refine zax Try.underlying24 rfl sz24 hbA bdA ?_ | refine zaq Try.underlying24 rfl sz24 hbA bdA ?_
       refine ybg ?_
       refine yaf ?_
       refine hK _ _ ?_; clear hK K
       refine zaI rfl (zas) (fun K hK r => ?_)
       refine yaD ?_
       first | refine zak sz24 bdA hbA bdA plA (by decide) ?_ | refine zal sz24 bdA hbA bdA plA (by decide) ?_
       refine yaf ?_
       refine hK _ _ ?_; clear hK K
       refine zaj rfl ?_
       refine zad ?_
       refine yab ?_
       refine hK16 _ _ ?_; try clear hK16 K16
       refine zaz ?_
       refine yab ?_
       obtain ⟨hb1, hb2, hb3⟩ := hbest
       have hgen : ∀ L, (opM L).isSome = true → (opMv L).gen ≠ 0 := fun L h => by have := (opM_Ok h).1.g.1; omega
       have hev' : ev = true ↔ (opM (s.rd 0 (0 : Nat)).1.b).isSome = true ∧ (opMv (s.rd 0 (0 : Nat)).1.b).gen % 2 = 0 := by rw [hev, Bool.and_eq_true, decide_eq_true_eq]
       have hod' : od = true ↔ (opM (s.rd 0 (1 : Nat)).1.b).isSome = true ∧ (opMv (s.rd 0 (1 : Nat)).1.b).gen % 2 = 1 := by rw [hod, Bool.and_eq_true, decide_eq_true_eq]
       rw [hpk, Bool.and_eq_true, Bool.or_eq_true, Bool.not_eq_true', decide_eq_true_eq] at c74
       have hA' := hev'.1 c74.1
       have hld : s.loadM = (opMv (s.rd 0 (0 : Nat)).1.b, none) := loadM_best hz2 hgs (hb1 hA' (fun h => by
        rcases c74.2 with h2 | h2
        ·have := hod'.2 ⟨h.1, h.2.1⟩
         rw [this] at h2; cases h2
        ·exact h.2.2 h2)) (hgen _ hA'.1)
       rw [hld]
       refine ⟨[_, _], ⟨⟨_, rfl, zaC Try.underlying24 rfl sz24 hbA bdA⟩, rfl, trivial⟩, _, Le.refl _, lhA, .slice a41 (opMv (s.rd 0 (0 : Nat)).1.b).hd.length c41, rs41, ?_, ((ho41b.make hb10).upd n412), fun r hr => zag lhA (hr41 r hr)⟩
       rfl
     ·first
      |(exfalso; exact cnA c74; done)
      |skip
       skip
       refine zau ?_
       refine yab ?_
       refine hK14 _ _ ?_; try clear hK14 K14
       refine zac (fun K17 hK17 => ?_)
       refine zac (fun K18 hK18 => ?_)
       refine zaa ?_
       refine zah rfl ?_
       refine zad ?_
       refine yab ?_
       refine hK18 _ _ ?_; try clear hK18 K18
       refine zar (fun r => rfl) (fun c76 => ?_) (fun c76 => ?_)
       ·first
        |(exfalso; exact cnA c76; done)
        |skip
         skip
         refine zac (fun K19 hK19 => ?_)
         refine zaa ?_
         refine zab (fun K hK r => ?_)
         refine yap ?_
         first | refine zax Try.underlying24 rfl sz24 hbA bdA ?_ | refine zaq Try.underlying24 rfl sz24 hbA bdA ?_
         refine ybg ?_
         refine yaf ?_
         refine hK _ _ ?_; clear hK K
         refine zaI rfl (zas) (fun K hK r => ?_)
         refine yaD ?_
         first | refine zak sz24 bdA hbA bdA plA (by decide) ?_ | refine zal sz24 bdA hbA bdA plA (by decide) ?_
         refine yaf ?_
         refine hK _ _ ?_; clear hK K
         refine zaj rfl ?_
         refine zad ?_
         refine yab ?_
         refine hK19 _ _ ?_; try clear hK19 K19
         refine zaz ?_
         refine yab ?_
         obtain ⟨hb1, hb2, hb3⟩ := hbest
         have hgen : ∀ L, (opM L).isSome = true → (opMv L).gen ≠ 0 := fun L h => by have := (opM_Ok h).1.g.1; omega
         have hev' : ev = true ↔ (opM (s.rd 0 (0 : Nat)).1.b).isSome = true ∧ (opMv (s.rd 0 (0 : Nat)).1.b).gen % 2 = 0 := by rw [hev, Bool.and_eq_true, decide_eq_true_eq]
         have hod' : od = true ↔ (opM (s.rd 0 (1 : Nat)).1.b).isSome = true ∧ (opMv (s.rd 0 (1 : Nat)).1.b).gen % 2 = 1 := by rw [hod, Bool.and_eq_true, decide_eq_true_eq]
         have hna : ¬ ((opM (s.rd 0 (0 : Nat)).1.b).isSome = true ∧ (opMv (s.rd 0 (0 : Nat)).1.b).gen % 2 = 0 ∧ ¬ ((opM (s.rd 0 (1 : Nat)).1.b).isSome = true ∧ (opMv (s.rd 0 (1 : Nat)).1.b).gen % 2 = 1 ∧ ¬ (opMv (s.rd 0 (1 : Nat)).1.b).gen < (opMv (s.rd 0 (0 : Nat)).1.b).gen)) := by
          rintro ⟨h1, h2, h3⟩
          have e1 := hev'.2 ⟨h1, h2⟩
          rw [hpk, e1] at c74
          cases hb : od with
          |false => rw [hb] at c74; cases c74
          |true =>
           have hb' := hod'.1 hb
           have h4 : (opMv (s.rd 0 (1 : Nat)).1.b).gen < (opMv (s.rd 0 (0 : Nat)).1.b).gen := Classical.byContradiction (fun h => h3 ⟨hb'.1, hb'.2, h⟩)
           rw [hb, decide_eq_true h4] at c74
           cases c74
         have hB' := hod'.1 c76
         have hld : s.loadM = (opMv (s.rd 0 (1 : Nat)).1.b, none) := loadM_best hz2 hgs (hb2 hna hB') (hgen _ hB'.1)
         rw [hld]
         refine ⟨[_, _], ⟨⟨_, rfl, zaC Try.underlying24 rfl sz24 hbA bdA⟩, rfl, trivial⟩, _, Le.refl _, lhA, .slice a46 (opMv (s.rd 0 (1 : Nat)).1.b).hd.length c46, rs46, ?_, ((ho46.make hb10).upd n462), fun r hr => zag lH46x (hr46 r hr)⟩
         rfl
       ·first
        |(exfalso; exact cnA c76; done)
        |skip
         skip
         refine zau ?_
         refine yab ?_
         refine hK17 _ _ ?_; try clear hK17 K17
         refine zac (fun K20 hK20 => ?_)
         refine zaa ?_
         refine zab (fun K hK r => ?_)
         refine ycj ?_
         refine ybe ?_
         refine yaf ?_
         refine hK _ _ ?_; clear hK K
         refine zaI rfl (zas) (fun K hK r => ?_)
         refine yaD ?_
         first | refine zak sz24 bdA hbA bdA plA (by decide) ?_ | refine zal sz24 bdA hbA bdA plA (by decide) ?_
         refine yaf ?_
         refine hK _ _ ?_; clear hK K
         refine zaj rfl ?_
         refine zad ?_
         refine yab ?_
         refine hK20 _ _ ?_; try clear hK20 K20
         refine zaz ?_
         refine yab ?_
         obtain ⟨hb1, hb2, hb3⟩ := hbest
         have hgen : ∀ L, (opM L).isSome = true → (opMv L).gen ≠ 0 := fun L h => by have := (opM_Ok h).1.g.1; omega
         have hev' : ev = true ↔ (opM (s.rd 0 (0 : Nat)).1.b).isSome = true ∧ (opMv (s.rd 0 (0 : Nat)).1.b).gen % 2 = 0 := by rw [hev, Bool.and_eq_true, decide_eq_true_eq]
         have hod' : od = true ↔ (opM (s.rd 0 (1 : Nat)).1.b).isSome = true ∧ (opMv (s.rd 0 (1 : Nat)).1.b).gen % 2 = 1 := by rw [hod, Bool.and_eq_true, decide_eq_true_eq]
         have hna : ¬ ((opM (s.rd 0 (0 : Nat)).1.b).isSome = true ∧ (opMv (s.rd 0 (0 : Nat)).1.b).gen % 2 = 0 ∧ ¬ ((opM (s.rd 0 (1 : Nat)).1.b).isSome = true ∧ (opMv (s.rd 0 (1 : Nat)).1.b).gen % 2 = 1 ∧ ¬ (opMv (s.rd 0 (1 : Nat)).1.b).gen < (opMv (s.rd 0 (0 : Nat)).1.b).gen)) := by
          rintro ⟨h1, h2, h3⟩
          have e1 := hev'.2 ⟨h1, h2⟩
          rw [hpk, e1] at c74
          cases hb : od with
          |false => rw [hb] at c74; cases c74
          |true =>
           have hb' := hod'.1 hb
           have h4 : (opMv (s.rd 0 (1 : Nat)).1.b).gen < (opMv (s.rd 0 (0 : Nat)).1.b).gen := Classical.byContradiction (fun h => h3 ⟨hb'.1, hb'.2, h⟩)
           rw [hb, decide_eq_true h4] at c74
           cases c74
         have hnb : ¬ ((opM (s.rd 0 (1 : Nat)).1.b).isSome = true ∧ (opMv (s.rd 0 (1 : Nat)).1.b).gen % 2 = 1) := fun h => by
          rw [hod'.2 h] at c76
          cases c76
         have hnaa : ¬ ((opM (s.rd 0 (0 : Nat)).1.b).isSome = true ∧ (opMv (s.rd 0 (0 : Nat)).1.b).gen % 2 = 0) := fun h => hna ⟨h.1, h.2, fun hh => hnb ⟨hh.1, hh.2.1⟩⟩
         have hld : s.loadM = (zM, some 9) := loadM_none hz2 hgs (hb3 hnaa hnb)
         rw [hld]
         refine ⟨[_, _], ⟨⟨_, rfl, zaC Try.underlying24 rfl sz24 hbA bdA⟩, rfl, trivial⟩, _, Le.refl _, lhA, .slice none 0 0, none, ?_, OwnS.nil _ _ _, fun r hr => by cases hr⟩
         rfl
end Go.Proofs.Ytigofhhonnbkmaa.HL
end
