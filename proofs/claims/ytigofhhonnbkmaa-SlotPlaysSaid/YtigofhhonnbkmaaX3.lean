/- Parts of the proof, one behind the other: V40, V41, V42, V43, V44, V45, MdAp, Md15, V50, V51, V52, V53, V11, V12. -/
import Derived.KernelRfl
import Derived.Test.YtigofhhonnbkmaaX2
set_option linter.unusedSimpArgs false
set_option linter.unusedVariables false
section
namespace Go.Proofs.Ytigofhhonnbkmaa.HL
open Go Go.Proofs
set_option linter.unusedSimpArgs false
set_option linter.unusedVariables false
attribute [local irreducible] Lt Lq CW OW TW CallH
def WR (H : Hp) (p : Nat) (l : List Int) (S : Nat → Prop) : Prop := ∃ v rs, H p = some (.cells #[v] 82) ∧ OwnS H 5 1 v l.length (u8s l) rs ∧ rs ≠ some p ∧ S = fun b => b = p ∨ rs = some b
theorem WR.known {H : Hp} {p : Nat} {l : List Int} {S : Nat → Prop} (h : WR H p l S) : ∀ b, S b → H b ≠ none := by
  obtain ⟨v, rs, h1, h2, h3, rfl⟩ := h
  rintro b (rfl | hb)
  · rw [h1]; simp
  · exact h2.known b hb
theorem WR.stay {H H' : Hp} {p : Nat} {l : List Int} {S : Nat → Prop} (h : WR H p l S) (k : ∀ b o, S b → H b = some o → H' b = some o) : WR H' p l S := by
  obtain ⟨v, rs, h1, h2, h3, rfl⟩ := h
  exact ⟨v, rs, k _ _ (.inl rfl) h1, h2.stay fun b o hb => k b o (.inr hb), h3, rfl⟩
theorem WR.new {H : Hp} {p : Nat} {l : List Int} {S : Nat → Prop} (h : WR H p l S) {b : Nat} {o : Obj} (hb : H b = none) : WR (H.upd b o) p l S :=
  h.stay fun x o' _ hx => by rw [zap]; exact hx; intro e; subst e; rw [hx] at hb; cases hb
theorem WR.fresh {H : Hp} {p : Nat} {v : Value} (hv : v = .slice none 0 0) (h : H p = some (.cells #[v] 82)) : WR H p [] (fun b => b = p) := by
  subst hv
  exact ⟨_, none, h, OwnS.nil _ _ _, by simp, by funext b; simp⟩
theorem WR.at {H : Hp} {p : Nat} {l : List Int} {S : Nat → Prop} (h : WR H p l S) : S p := by
  obtain ⟨v, rs, h1, h2, h3, rfl⟩ := h
  exact .inl rfl
theorem ybi {p q : Prop} (h : q) (e : p = q := by simp only [zao, fa82_0, zaH, Nat.reduceAdd, Nat.zero_add, eX, ↓reduceIte, Nat.reduceEqDiff, Int.reduceToNat]; exact rfl) : p := e.mpr h
set_option maxRecDepth 100000 in
set_option maxHeartbeats 1000000 in
theorem add_ok (H : Hp) (q : Nat) (l x : List Int) (S : Nat → Prop) (hw : WR H q l S) (v : Value) (hx : Holds H 1 v x.length (u8s x)) (hl : l.length + x.length ≤ 10000000) : CallH Try.prog 67 #[.pointer (some ⟨q, 0, none⟩), v] H (fun _ H' => ∃ S', WR H' q (l ++ x) S' ∧ Frm H S H' S') := by
 refine zam (l := [_, _]) (rl := []) (n := 15) Try.func67 rfl rfl rfl rfl rfl ?_
 refine yaa ?_
 obtain ⟨vw, rs, hq, how, hne, rfl⟩ := hw
 refine zac (fun K1 hK1 => ?_)
 refine zaa ?_
 refine zah rfl ?_
 refine zab (fun K hK r => ?_)
 refine yan ?_
 rw [e_neq _ _ _ _ (by simp)]
 rw [zaM]
 first | rw [q_ptr_nil _ _ _ Try.underlying79] | rw [q_nil_ptr _ _ _ Try.underlying79]
 refine yaf ?_
 refine hK _ _ ?_; clear hK K
 refine zad ?_
 refine yab ?_
 refine hK1 _ _ ?_; try clear hK1 K1
 refine zar (fun r => rfl) (fun c5 => ?_) (fun c5 => ?_)
 ·first
  |(exfalso; exact cnA c5; done)
  |skip
   (try replace c5 := yad c5)
   refine zaa ?_
   refine zah rfl ?_
   refine zah rfl ?_
   refine zab (fun K hK r => ?_)
   rw [zav _ _ rfl]
   refine yaj ?_
   refine hK _ _ ?_; clear hK K
   refine zab (fun K hK r => ?_)
   refine ybi ?_
   refine hK _ _ ?_; clear hK K
   refine zab (fun K hK r => ?_)
   refine yap ?_
   refine zae Try.underlying80 rfl hbA ldA ?_
   refine yaf ?_
   refine hK _ _ ?_; clear hK K
   refine zah rfl ?_
   refine zab (fun K hK r => ?_)
   refine yaV ?_
   refine Lt_append Try.underlying80 Try.underlying80 (by simp) sz5 by5 (by decide) zr5 rfl _ (n := l.length) (m := x.length) how (fun K => len_holds hx K) (fun K => first_slice hx K) (by simp) (PlainL.ints _ _) (by omega) ?_
   intro v12 H12 rs12 hg12 ho12 hr12
   have k12_q := hg12.known q _ hq hne
   obtain ⟨a12, c12, rfl⟩ := ho12.holds.form
   refine hK _ _ ?_; clear hK K
   refine zab (fun K hK r => ?_)
   rw [zav _ _ rfl]
   refine yaj ?_
   refine hK _ _ ?_; clear hK K
   refine zab (fun K hK r => ?_)
   refine ybi ?_
   refine hK _ _ ?_; clear hK K
   refine zaI rfl (zas) (fun K hK r => ?_)
   refine yaD ?_
   refine zaE sz80 hbA bdA plA fzA ?_
   refine yaE ?_
   refine yaf ?_
   refine hK _ _ ?_; clear hK K
   refine zad ?_
   refine yab ?_
   have hne12 : rs12 ≠ some q := fun e => by
    rcases hr12 _ e with h | h
    ·exact hne h
    ·rw [hq] at h; cases h
   refine ⟨[], trivial, _, Le.refl _, fun b => b = q ∨ rs12 = some b, ⟨_, rs12, zan _ _ _, ?_, hne12, rfl⟩, ?_⟩
   ·have h := ho12.upd (o := .cells #[.slice a12 (l.length + x.length) c12] 82) hne12
    rw [List.length_append, u8s, List.map_append]; exact h
   ·refine ⟨fun b o hb hn => ?_, fun b hb => ?_⟩
    ·rw [zap _ _ (fun e => hn (.inl e))]; exact hg12.known b o hb (fun e => hn (.inr e))
    ·rcases hb with rfl | hb
     ·exact .inl (.inl rfl)
     ·rcases hr12 _ hb with h | h
      ·exact .inl (.inr h)
      ·exact .inr h
 ·first
  |(exfalso; exact cnA c5; done)
  |skip
   (try replace c5 := yad c5)
   refine zau ?_
   refine yab ?_
   have hne12 : rs12 ≠ some q := fun e => by
    rcases hr12 _ e with h | h
    ·exact hne h
    ·rw [hq] at h; cases h
   refine ⟨[], trivial, _, Le.refl _, fun b => b = q ∨ rs12 = some b, ⟨_, rs12, zan _ _ _, ?_, hne12, rfl⟩, ?_⟩
   ·have h := ho12.upd (o := .cells #[.slice a12 (l.length + x.length) c12] 82) hne12
    rw [List.length_append, u8s, List.map_append]; exact h
   ·refine ⟨fun b o hb hn => ?_, fun b hb => ?_⟩
    ·rw [zap _ _ (fun e => hn (.inl e))]; exact hg12.known b o hb (fun e => hn (.inr e))
    ·rcases hb with rfl | hb
     ·exact .inl (.inl rfl)
     ·rcases hr12 _ hb with h | h
      ·exact .inl (.inr h)
      ·exact .inr h
theorem c8 (n : Int) (h : n < 256) (h0 : 0 ≤ n) : IntKind.u8.wrap n = n := by rw [w_u8]; omega
theorem ybj {p q : Prop} (h : q) (e : p = q := by simp (disch := (first | omega | decide)) only [x_convert, c_int _ _ _ _ Try.underlying84 Try.underlying5, wrap_i64, wrap_u64, wrap_u32, wrap_u8, eX, ↓reduceIte, Nat.reduceEqDiff, Int.reduceToNat]; exact rfl) : p := e.mpr h
theorem ybk {p q : Prop} (h : q) (e : p = q := by simp only [zaF _ bd67, List.map_toArray, List.map_cons, List.map_nil, eX, ↓reduceIte, Nat.reduceEqDiff, Int.reduceToNat]; exact rfl) : p := e.mpr h
set_option maxRecDepth 100000 in
set_option maxHeartbeats 1000000 in
theorem wCount_ok (H : Hp) (q : Nat) (l : List Int) (S : Nat → Prop) (hw : WR H q l S) (n : Nat) (hn : n < 18446744073709551616) (hl : l.length ≤ 9000000) : CallH Try.prog 34 #[.pointer (some ⟨q, 0, none⟩), .int .u64 n] H (fun _ H' => ∃ S', WR H' q (l ++ cnt n) S' ∧ Frm H S H' S') := by
 refine zam (l := [_, _]) (rl := []) (n := 19) Try.func34 rfl rfl rfl rfl rfl ?_
 refine yaa ?_
 refine zac (fun K1 hK1 => ?_)
 refine zaB ?_
 refine CW_loop (fun m e H_ => ∃ (k : Nat) (a : List Int) (S1 : Nat → Prop), m = k ∧ k ≤ n ∧ cnt n = a ++ cnt k ∧ a.length ≤ 10 ∧ WR H_ q (l ++ a) S1 ∧ Frm H S H_ S1 ∧ Env.has [(0, .pointer (some ⟨q, 0, none⟩)), (1, .int .u64 k)] e) (n) ?_ ?_
 ·skip
  exact ⟨n, [], S, rfl, Nat.le_refl _, rfl, by simp, by simpa using hw, Frm.refl _ _, rfl, rfl, trivial⟩
 intro m_ e_ H_ hI_
 obtain ⟨k, a, S1, rfl, hk, hc, ha, hw, hf, he⟩ := hI_
 have hl10 := cnt_len10 hn
 rw [hc, List.length_append] at hl10
 refine CW_env he.sub ?_; clear he e_
 refine zac (fun K2 hK2 => ?_)
 refine zac (fun K3 hK3 => ?_)
 refine zaa ?_
 refine zah rfl ?_
 refine zab (fun K hK r => ?_)
 refine yav ?_
 refine hK _ _ ?_; clear hK K
 refine zad ?_
 refine yab ?_
 refine hK3 _ _ ?_; try clear hK3 K3
 refine zar (fun r => rfl) (fun c5 => ?_) (fun c5 => ?_)
 ·first
  |(exfalso; exact cnA c5; done)
  |skip
   (try replace c5 := yad c5)
   have c5 : ¬ m_ < 128 := by omega
   refine zau ?_
   refine yab ?_
   refine hK2 _ _ ?_; try clear hK2 K2
   refine zac (fun K4 hK4 => ?_)
   refine zaB ?_
   refine zaa ?_
   refine zah rfl ?_
   refine zah rfl ?_
   refine zab (fun K hK r => ?_)
   refine ybj ?_
   skip
   refine hK _ _ ?_; clear hK K
   refine zab (fun K hK r => ?_)
   refine yaS ?_
   rw [or128]
   refine hK _ _ ?_; clear hK K
   refine zab (fun K hK r => ?_)
   refine yaT ?_
   refine zaJ (vs := [_]) Try.underlying80 sz5 zr5 rfl bsA (by first | decide | (simp; done)) ?_
   refine yaU ?_
   intro b12 hb12
   refine yaf ?_
   refine hK _ _ ?_; clear hK K
   refine zab (fun K hK r => ?_)
   refine ybk ?_
   have hwn := fun o => hw.new (o := o) hb12
   have hfn := fun o => hf.new (o := o) hb12
   refine (add_ok _ q (l ++ a) [((m_ % 128 + 128 : Nat) : Int)] _ (hwn _) _ ⟨rfl, .inr ⟨b12, 0, _, _, _, _, rfl, zan _ _ _, by simp, by simp⟩⟩ (by first | omega | (simp; omega))).mono ?_
   rintro v13 H13 ⟨S13, hw13, hf13⟩
   have hf13 := (hfn _).trans hf13
   refine yaf ?_
   refine hK _ _ ?_; clear hK K
   refine zad ?_
   refine yab ?_
   refine hK4 _ _ ?_; try clear hK4 K4
   refine zaa ?_
   refine zah rfl ?_
   refine zab (fun K hK r => ?_)
   simp (disch := (first | omega | decide)) only [x_bin, g_int, b_shr, wrap_i64, wrap_u64, wrap_u32, wrap_u8, eX, ↓reduceIte, Nat.reduceEqDiff, Int.reduceToNat]
   rw [shr7]
   refine hK _ _ ?_; clear hK K
   refine zaj rfl ?_
   refine zad ?_
   refine yab ?_
   refine ⟨m_ / 128, by omega, m_ / 128, a ++ [((m_ % 128 + 128 : Nat) : Int)], S13, rfl, by omega, ?_, ?_, ?_, hf13, rfl, ?_, trivial⟩
   ·rw [hc, cnt_ge c5]; simp
   ·rw [cnt_ge c5] at hl10; simp at hl10 ⊢; omega
   ·rw [← List.append_assoc]; exact hw13
   ·show some (Value.int _ _) = some (Value.int _ _)
    congr 2
 ·first
  |(exfalso; exact cnA c5; done)
  |skip
   (try replace c5 := yad c5)
   have c5 : m_ < 128 := by omega
   refine CW_exit ?_
   refine yab ?_
   refine hK1 _ _ ?_; try clear hK1 K1
   refine zaa ?_
   refine zah rfl ?_
   refine zah rfl ?_
   refine zab (fun K hK r => ?_)
   refine ybj ?_
   refine hK _ _ ?_; clear hK K
   refine zab (fun K hK r => ?_)
   refine yaT ?_
   refine zaJ (vs := [_]) Try.underlying80 sz5 zr5 rfl bsA (by first | decide | (simp; done)) ?_
   refine yaU ?_
   intro b17 hb17
   refine yaf ?_
   refine hK _ _ ?_; clear hK K
   refine zab (fun K hK r => ?_)
   refine ybk ?_
   have hwn := fun o => hw.new (o := o) hb17
   have hfn := fun o => hf.new (o := o) hb17
   refine (add_ok _ q (l ++ a) [((m_ : Nat) : Int)] _ (hwn _) _ ⟨rfl, .inr ⟨b17, 0, _, _, _, _, rfl, zan _ _ _, by simp, by simp⟩⟩ (by first | omega | (simp; omega))).mono ?_
   rintro v18 H18 ⟨S18, hw18, hf18⟩
   have hf18 := (hfn _).trans hf18
   refine yaf ?_
   refine hK _ _ ?_; clear hK K
   refine zad ?_
   refine yab ?_
   refine ⟨[], trivial, _, Le.refl _, S18, ?_, hf18⟩
   rw [hc, cnt_lt c5, ← List.append_assoc]; exact hw18
end Go.Proofs.Ytigofhhonnbkmaa.HL
end
section
namespace Go.Proofs.Ytigofhhonnbkmaa.HL
open Go Go.Proofs
set_option linter.unusedSimpArgs false
set_option linter.unusedVariables false
attribute [local irreducible] Lt Lq CW OW TW CallH
set_option maxRecDepth 100000 in
set_option maxHeartbeats 1000000 in
theorem wByte_ok (H : Hp) (q : Nat) (l : List Int) (S : Nat → Prop) (hw : WR H q l S) (n : Int) (hl : l.length ≤ 9000000) : CallH Try.prog 35 #[.pointer (some ⟨q, 0, none⟩), .int .u8 n] H (fun _ H' => ∃ S', WR H' q (l ++ [n]) S' ∧ Frm H S H' S') := by
 refine zam (l := [_, _]) (rl := []) (n := 8) Try.func35 rfl rfl rfl rfl rfl ?_
 refine yaa ?_
 have hf := Frm.refl H S
 refine zaa ?_
 refine zah rfl ?_
 refine zah rfl ?_
 refine zab (fun K hK r => ?_)
 refine yaT ?_
 refine zaJ (vs := [_]) Try.underlying80 sz5 zr5 rfl bsA (by first | decide | (simp; done)) ?_
 refine yaU ?_
 intro b6 hb6
 refine yaf ?_
 refine hK _ _ ?_; clear hK K
 refine zab (fun K hK r => ?_)
 refine ybk ?_
 have hwn := fun o => hw.new (o := o) hb6
 have hfn := fun o => hf.new (o := o) hb6
 refine (add_ok _ q (l) [n] _ (hwn _) _ ⟨rfl, .inr ⟨b6, 0, _, _, _, _, rfl, zan _ _ _, by simp, by simp⟩⟩ (by first | omega | (simp; omega))).mono ?_
 rintro v7 H7 ⟨S7, hw7, hf7⟩
 have hf7 := (hfn _).trans hf7
 refine yaf ?_
 refine hK _ _ ?_; clear hK K
 refine zad ?_
 refine yab ?_
 exact ⟨[], trivial, _, Le.refl _, S7, hw7, hf7⟩
set_option maxRecDepth 100000 in
set_option maxHeartbeats 1000000 in
theorem clone_ok (H : Hp) (v : Value) (l : List Int) (hv : Holds H 1 v l.length (u8s l)) (hl : l.length ≤ 10000000) : CallH Try.prog 69 #[v] H (fun v' H' => Le H H' ∧ ∃ rs, OwnS H' 5 1 v' l.length (u8s l) rs ∧ ∀ r, rs = some r → H r = none) := by
 refine zam (l := [_]) (rl := [.tmp 2]) (n := 8) Try.func69 rfl rfl rfl rfl rfl ?_
 refine yaa ?_
 obtain ⟨a, cap, rfl⟩ := hv.form
 refine zac (fun K1 hK1 => ?_)
 refine zaa ?_
 refine zaj rfl ?_
 refine zad ?_
 refine yab ?_
 refine hK1 _ _ ?_; try clear hK1 K1
 refine zac (fun K2 hK2 => ?_)
 refine zac (fun K3 hK3 => ?_)
 refine zaa ?_
 refine zah rfl ?_
 refine zab (fun K hK r => ?_)
 refine yan ?_
 rw [e_eql _ _ _ _ (by simp)]
 rw [zaM, q_slice_nil _ _ _ Try.underlying80]
 refine yaf ?_
 refine hK _ _ ?_; clear hK K
 refine zad ?_
 refine yab ?_
 refine hK3 _ _ ?_; try clear hK3 K3
 refine zar (fun r => rfl) (fun c4 => ?_) (fun c4 => ?_)
 ·first
  |(exfalso; exact cnA c4; done)
  |skip
   (try replace c4 := yad c4)
   refine zac (fun K4 hK4 => ?_)
   refine zaa ?_
   refine zaj rfl ?_
   refine zad ?_
   refine yab ?_
   refine hK4 _ _ ?_; try clear hK4 K4
   refine zaz ?_
   refine yab ?_
   have ha : a = none := by cases a with
    |none => rfl
    |some A => simp at c4
   subst ha
   have h0 : l = [] := by
    obtain ⟨h1, ⟨_, _, h2, h3⟩ | ⟨b, o, c, _, _, _, h2, _⟩⟩ := hv
    ·exact List.eq_nil_of_length_eq_zero h3
    ·cases h2
   subst h0
   exact ⟨[_], ⟨rfl, trivial⟩, _, Le.refl _, Le.refl _, none, OwnS.nil _ _ _, fun r hr => by cases hr⟩
 ·first
  |(exfalso; exact cnA c4; done)
  |skip
   (try replace c4 := yad c4)
   refine zau ?_
   refine yab ?_
   refine hK2 _ _ ?_; try clear hK2 K2
   refine zac (fun K5 hK5 => ?_)
   refine zaa ?_
   refine zab (fun K hK r => ?_)
   refine yaT ?_
   refine zaJ (vs := []) Try.underlying80 sz5 zr5 rfl bsA (by first | decide | (simp; done)) ?_
   refine yaU ?_
   intro b5 hb5
   have f5_H : H b5 = none := zag lhA hb5
   refine yaf ?_
   refine hK _ _ ?_; clear hK K
   refine zah rfl ?_
   refine zab (fun K hK r => ?_)
   refine yaV ?_
   refine Lt_appendNew Try.underlying80 sz5 by5 (by decide) zr5 rfl _ hbA (hv.le lhA) (PlainL.ints _ _) (by omega) ?_
   intro v7 H7 rs7 hg7 ho7 hr7
   have lH7_H : Le H H7 := hg7.le (H0 := H) lhA (fun r hr => by cases hr; exact f5_H)
   refine hK _ _ ?_; clear hK K
   refine zaj rfl ?_
   refine zad ?_
   refine yab ?_
   refine hK5 _ _ ?_; try clear hK5 K5
   refine zaz ?_
   refine yab ?_
   exact ⟨[_], ⟨rfl, trivial⟩, _, Le.refl _, lH7_H, rs7, ho7, fun r hr => by
    rcases hr7 r hr with h | h
    ·subst h; exact f5_H
    ·exact zag lhA h⟩
set_option maxRecDepth 100000 in
set_option maxHeartbeats 1000000 in
theorem out_ok (H : Hp) (q : Nat) (l : List Int) (S : Nat → Prop) (hw : WR H q l S) (hl : l.length ≤ 10000000) : CallH Try.prog 37 #[.pointer (some ⟨q, 0, none⟩)] H (fun v' H' => Le H H' ∧ ∃ rs, OwnS H' 5 1 v' l.length (u8s l) rs ∧ ∀ r, rs = some r → H r = none) := by
 refine zam (l := [_]) (rl := [.tmp 2]) (n := 10) Try.func37 rfl rfl rfl rfl rfl ?_
 refine yaa ?_
 obtain ⟨vw, rs, hq, how, hne, rfl⟩ := hw
 refine zac (fun K1 hK1 => ?_)
 refine zaa ?_
 refine zaj rfl ?_
 refine zad ?_
 refine yab ?_
 refine hK1 _ _ ?_; try clear hK1 K1
 refine zac (fun K2 hK2 => ?_)
 refine zac (fun K3 hK3 => ?_)
 refine zaa ?_
 refine zah rfl ?_
 refine zab (fun K hK r => ?_)
 refine yan ?_
 rw [e_eql _ _ _ _ (by simp)]
 rw [zaM]
 first | rw [q_ptr_nil _ _ _ Try.underlying79] | rw [q_nil_ptr _ _ _ Try.underlying79]
 refine yaf ?_
 refine hK _ _ ?_; clear hK K
 refine zad ?_
 refine yab ?_
 refine hK3 _ _ ?_; try clear hK3 K3
 refine zar (fun r => rfl) (fun c4 => ?_) (fun c4 => ?_)
 ·first
  |(exfalso; exact cnA c4; done)
  |skip
   (try replace c4 := yad c4)
   refine zac (fun K4 hK4 => ?_)
   refine zaa ?_
   refine zaj rfl ?_
   refine zad ?_
   refine yab ?_
   refine hK4 _ _ ?_; try clear hK4 K4
   refine zaz ?_
   refine yab ?_
   exfalso; simp_all
 ·first
  |(exfalso; exact cnA c4; done)
  |skip
   (try replace c4 := yad c4)
   refine zau ?_
   refine yab ?_
   refine hK2 _ _ ?_; try clear hK2 K2
   refine zac (fun K5 hK5 => ?_)
   refine zaa ?_
   refine zah rfl ?_
   refine zab (fun K hK r => ?_)
   rw [zav _ _ rfl]
   refine yaj ?_
   refine hK _ _ ?_; clear hK K
   refine zab (fun K hK r => ?_)
   refine ybi ?_
   refine hK _ _ ?_; clear hK K
   refine zab (fun K hK r => ?_)
   refine yap ?_
   refine zae Try.underlying80 rfl hbA ldA ?_
   refine yaf ?_
   refine hK _ _ ?_; clear hK K
   refine zab (fun K hK r => ?_)
   refine ybf ?_
   refine (clone_ok _ vw l how.holds hl).mono ?_
   rintro v9 H9 ⟨hl9, rs9, ho9, hr9⟩
   refine yaf ?_
   refine hK _ _ ?_; clear hK K
   refine zaj rfl ?_
   refine zad ?_
   refine yab ?_
   refine hK5 _ _ ?_; try clear hK5 K5
   refine zaz ?_
   refine yab ?_
   exact ⟨[_], ⟨rfl, trivial⟩, _, Le.refl _, hl9, rs9, ho9, hr9⟩
end Go.Proofs.Ytigofhhonnbkmaa.HL
end
section
namespace Go.Proofs.Ytigofhhonnbkmaa.HL
open Go Go.Proofs
set_option linter.unusedSimpArgs false
set_option linter.unusedVariables false
attribute [local irreducible] Lt Lq CW OW TW CallH
theorem Holds.upd_no {H : Hp} {v : Value} {n : Nat} {k : IntKind} {l : List Int} (h : Holds H 1 v n (l.map (Value.int k ·))) {b : Nat} {c : Array Value} {T : TypeId} {f : Nat × Nat} (hb : H b = some (.cells c T f)) (hc : ∀ (i : Nat) (x : Int), c[i]? ≠ some (.int k x)) (o : Obj) : Holds (H.upd b o) 1 v n (l.map (Value.int k ·)) := by
  obtain ⟨h1, h2 | ⟨r, o', cap, c', E, f', rfl, h3, h4, h5⟩⟩ := h
  · exact ⟨h1, .inl h2⟩
  · by_cases hn : n = 0
    · subst hn; exact ⟨h1, .inl ⟨_, _, rfl, rfl⟩⟩
    · refine ⟨h1, .inr ⟨r, o', cap, c', E, f', rfl, ?_, h4, h5⟩⟩
      rw [zap]
      · exact h3
      · intro e; subst e
        rw [hb] at h3; cases h3
        have h6 := congrArg (fun z => z[0]?) h5
        simp only [Array.toList_extract, List.extract_eq_take_drop] at h6
        rw [List.getElem?_take_of_lt (by omega), List.getElem?_drop, List.getElem?_map] at h6
        cases hl : l[0]? with
        | none => rw [List.getElem?_eq_none_iff] at hl; simp at h1; omega
        | some z => rw [hl] at h6; simp only [Option.map_some, Nat.add_zero, Array.getElem?_toList] at h6; exact hc _ _ h6
theorem addr_block (A : Addr) (n : Nat) : (A.add n).block = A.block := by
  unfold Addr.add; first | rfl | (split <;> rfl) | (cases A; split <;> rfl)
def RD (H : Hp) (p : Nat) (a : Option Addr) (cap : Nat) (l : List Int) (bad : Bool) : Prop := H p = some (.cells #[.slice a l.length cap, .bool bad] 153) ∧ l.length ≤ cap ∧ Holds H 1 (.slice a l.length cap) l.length (u8s l) ∧ (bad = true → l = [])
abbrev rst (H : Hp) (p : Nat) (a : Option Addr) (n cap : Nat) (bad : Bool) : Hp := H.upd p (.cells #[.slice a n cap, .bool bad] 153)
theorem two_no {x y : Value} (hx : ∀ k z, x ≠ .int k z) (hy : ∀ k z, y ≠ .int k z) {k : IntKind} : ∀ (i : Nat) (z : Int), (#[x, y] : Array Value)[i]? ≠ some (.int k z)
  | 0, z => by simpa using hx k z
  | 1, z => by simpa using hy k z
  | i + 2, z => by simp
theorem Holds.rst {H : Hp} {v : Value} {n : Nat} {l : List Int} {p : Nat} {a : Option Addr} {m cap : Nat} {bad : Bool} (h : Holds H 1 v n (u8s l)) (hp : H p = some (.cells #[.slice a m cap, .bool bad] 153)) (o : Obj) : Holds (H.upd p o) 1 v n (u8s l) :=
  Holds.upd_no h hp (two_no (by simp) (by simp)) o
theorem RD.bad (H : Hp) (p : Nat) : RD (rst H p none 0 0 true) p none 0 [] true := ⟨zan _ _ _, Nat.le_refl _, ⟨rfl, .inl ⟨_, _, rfl, rfl⟩⟩, fun _ => rfl⟩
theorem RD.nil {H : Hp} {p : Nat} {a : Option Addr} {cap : Nat} {l : List Int} (h : RD H p a cap l true) : l = [] := h.2.2.2 rfl
theorem ybl {p q : Prop} (h : q) (e : p = q := by simp only [zao, fa153_0, zaH, Nat.reduceAdd, Nat.zero_add, eX, ↓reduceIte, Nat.reduceEqDiff, Int.reduceToNat]; exact rfl) : p := e.mpr h
theorem ybm {p q : Prop} (h : q) (e : p = q := by simp only [zao, fa153_1, zaH, Nat.reduceAdd, Nat.zero_add, eX, ↓reduceIte, Nat.reduceEqDiff, Int.reduceToNat]; exact rfl) : p := e.mpr h
set_option maxRecDepth 100000 in
set_option maxHeartbeats 1000000 in
theorem fail_ok (H : Hp) (p : Nat) (x : Value) (b : Bool) (hp : H p = some (.cells #[x, .bool b] 153)) : CallH Try.prog 79 #[.pointer (some ⟨p, 0, none⟩)] H (fun _ H' => H' = rst H p none 0 0 true) := by
 refine zam (l := [_]) (rl := []) (n := 10) Try.func79 rfl rfl rfl rfl rfl ?_
 refine yaa ?_
 refine zac (fun K1 hK1 => ?_)
 refine zaa ?_
 refine zah rfl ?_
 refine zab (fun K hK r => ?_)
 refine yan ?_
 rw [e_neq _ _ _ _ (by simp)]
 rw [zaM]
 first | rw [q_ptr_nil _ _ _ Try.underlying96] | rw [q_nil_ptr _ _ _ Try.underlying96]
 refine yaf ?_
 refine hK _ _ ?_; clear hK K
 refine zad ?_
 refine yab ?_
 refine hK1 _ _ ?_; try clear hK1 K1
 refine zar (fun r => rfl) (fun c3 => ?_) (fun c3 => ?_)
 ·first
  |(exfalso; exact cnA c3; done)
  |skip
   (try replace c3 := yad c3)
   refine zaa ?_
   refine zah rfl ?_
   refine zah rfl ?_
   refine zab (fun K hK r => ?_)
   rw [zav _ _ rfl]
   refine yaj ?_
   refine hK _ _ ?_; clear hK K
   refine zab (fun K hK r => ?_)
   refine ybl ?_
   refine hK _ _ ?_; clear hK K
   refine zaI rfl (zas) (fun K hK r => ?_)
   refine yaD ?_
   refine zaE sz80 hbA bdA plA fzA ?_
   refine yaE ?_
   refine yaf ?_
   refine hK _ _ ?_; clear hK K
   refine zab (fun K hK r => ?_)
   rw [zav _ _ rfl]
   refine yaj ?_
   refine hK _ _ ?_; clear hK K
   refine zab (fun K hK r => ?_)
   refine ybm ?_
   refine hK _ _ ?_; clear hK K
   refine zaI rfl (zas) (fun K hK r => ?_)
   refine yaD ?_
   refine zaE sz4 hbA bdA plA fzA ?_
   refine yaE ?_
   refine yaf ?_
   refine hK _ _ ?_; clear hK K
   refine zad ?_
   refine yab ?_
   exact ⟨[], trivial, _, Le.refl _, rfl⟩
 ·first
  |(exfalso; exact cnA c3; done)
  |skip
   (try replace c3 := yad c3)
   refine zau ?_
   refine yab ?_
   exact ⟨[], trivial, _, Le.refl _, rfl⟩
theorem ybn {p q : Prop} (h : q) (e : p = q := by simp (disch := (first | omega | decide)) only [x_convert, c_int _ _ _ _ Try.underlying3 Try.underlying84, wrap_i64, wrap_u64, wrap_u32, wrap_u8, eX, ↓reduceIte, Nat.reduceEqDiff, Int.reduceToNat]; exact rfl) : p := e.mpr h
theorem ybo {p q : Prop} (h : q) (e : p = q := by simp only [zaF _ bd79, List.map_toArray, List.map_cons, List.map_nil, eX, ↓reduceIte, Nat.reduceEqDiff, Int.reduceToNat]; exact rfl) : p := e.mpr h
set_option maxRecDepth 100000 in
set_option maxHeartbeats 1000000 in
theorem take_bad (H : Hp) (p : Nat) (a : Option Addr) (cap : Nat) (l : List Int) (hr : RD H p a cap l true) (n : Nat) : CallH Try.prog 78 #[.pointer (some ⟨p, 0, none⟩), .int .u64 n] H (fun v H' => v = .tuple #[.slice none 0 0, .bool false] ∧ H' = H) := by
 refine zam (l := [_, _]) (rl := [.tmp 4, .tmp 5]) (n := 42) Try.func78 rfl rfl rfl rfl rfl ?_
 refine yaa ?_
 obtain ⟨hp, hcap, hh, hbad⟩ := hr
 refine zac (fun K1 hK1 => ?_)
 refine zaa ?_
 refine zaj rfl ?_
 refine zaj rfl ?_
 refine zad ?_
 refine yab ?_
 refine hK1 _ _ ?_; try clear hK1 K1
 refine zac (fun K2 hK2 => ?_)
 refine zac (fun K3 hK3 => ?_)
 refine zaa ?_
 refine zah rfl ?_
 refine zab (fun K hK r => ?_)
 refine yan ?_
 rw [e_eql _ _ _ _ (by simp)]
 rw [zaM]
 first | rw [q_ptr_nil _ _ _ Try.underlying96] | rw [q_nil_ptr _ _ _ Try.underlying96]
 refine yaf ?_
 refine hK _ _ ?_; clear hK K
 refine zah rfl ?_
 (first | refine zaA (d := 9) rfl (fun g9 => ?_) (fun g9 => ?_) | skip)
 all_goals try (exfalso; exact cnA g9)
 all_goals (try replace g9 := yad g9)
 all_goals
  refine yaf ?_
  first
  |refine yGT (fun K hK r => ?_)
   refine yai ?_
   refine hK _ _ ?_; clear hK K
  |refine yGF ?_
   refine yaj ?_
  first
  |refine yGT (fun K hK r => ?_)
   rw [zav _ _ rfl]
   refine yaj ?_
   refine hK _ _ ?_; clear hK K
  |refine yGF ?_
   refine yaj ?_
  first
  |refine yGT (fun K hK r => ?_)
   refine ybm ?_
   refine hK _ _ ?_; clear hK K
  |refine yGF ?_
   refine yaj ?_
  first
  |refine yGT (fun K hK r => ?_)
   refine yap ?_
   refine zae Try.underlying4 rfl hbA ldA ?_
   refine yaf ?_
   refine hK _ _ ?_; clear hK K
  |refine yGF ?_
   refine yaj ?_
  refine zab (fun K hK r => ?_)
  refine yal ?_
  refine hK _ _ ?_; clear hK K
  refine zad ?_
  refine yab ?_
  refine hK3 _ _ ?_; try clear hK3 K3
  refine zar (fun r => rfl) (fun c14 => ?_) (fun c14 => ?_)
  ·first
   |(exfalso; exact cnA c14; done)
   |skip
    (try replace c14 := yad c14)
    refine zac (fun K4 hK4 => ?_)
    refine zaa ?_
    refine zaj rfl ?_
    refine zaj rfl ?_
    refine zad ?_
    refine yab ?_
    refine hK4 _ _ ?_; try clear hK4 K4
    refine zaz ?_
    refine yab ?_
    exact ⟨[_, _], ⟨rfl, rfl, trivial⟩, _, Le.refl _, rfl, rfl⟩
  ·first
   |(exfalso; exact cnA c14; done)
   |skip
    (try replace c14 := yad c14)
    refine zau ?_
    refine yab ?_
    refine hK2 _ _ ?_; try clear hK2 K2
    refine zac (fun K5 hK5 => ?_)
    refine zac (fun K6 hK6 => ?_)
    refine zaa ?_
    refine zah rfl ?_
    refine zah rfl ?_
    refine zab (fun K hK r => ?_)
    rw [zav _ _ rfl]
    refine yaj ?_
    refine hK _ _ ?_; clear hK K
    refine zab (fun K hK r => ?_)
    refine ybl ?_
    refine hK _ _ ?_; clear hK K
    refine zab (fun K hK r => ?_)
    refine yap ?_
    refine zae Try.underlying80 rfl hbA ldA ?_
    refine yaf ?_
    refine hK _ _ ?_; clear hK K
    refine zab (fun K hK r => ?_)
    refine yaO ?_
    refine hK _ _ ?_; clear hK K
    refine zab (fun K hK r => ?_)
    refine ybn ?_
    refine hK _ _ ?_; clear hK K
    refine zab (fun K hK r => ?_)
    refine yaZ ?_
    refine hK _ _ ?_; clear hK K
    refine zad ?_
    refine yab ?_
    refine hK6 _ _ ?_; try clear hK6 K6
    refine zar (fun r => rfl) (fun c22 => ?_) (fun c22 => ?_)
    ·first
     |(exfalso; exact cnA c22; done)
     |skip
      (try replace c22 := yad c22)
      refine zac (fun K7 hK7 => ?_)
      refine zaa ?_
      refine zah rfl ?_
      refine zab (fun K hK r => ?_)
      refine ybo ?_
      refine (fail_ok _ p _ _ hp).mono ?_
      rintro v24 H24 rfl
      refine yaf ?_
      refine hK _ _ ?_; clear hK K
      refine zad ?_
      refine yab ?_
      refine hK7 _ _ ?_; try clear hK7 K7
      refine zac (fun K8 hK8 => ?_)
      refine zaa ?_
      refine zaj rfl ?_
      refine zaj rfl ?_
      refine zad ?_
      refine yab ?_
      refine hK8 _ _ ?_; try clear hK8 K8
      refine zaz ?_
      refine yab ?_
      exfalso; simp_all
    ·first
     |(exfalso; exact cnA c22; done)
     |skip
      (try replace c22 := yad c22)
      refine zau ?_
      refine yab ?_
      refine hK5 _ _ ?_; try clear hK5 K5
      refine zac (fun K9 hK9 => ?_)
      refine zaa ?_
      refine zah rfl ?_
      refine zab (fun K hK r => ?_)
      rw [zav _ _ rfl]
      refine yaj ?_
      refine hK _ _ ?_; clear hK K
      refine zab (fun K hK r => ?_)
      refine ybl ?_
      refine hK _ _ ?_; clear hK K
      refine zab (fun K hK r => ?_)
      refine yap ?_
      refine zae Try.underlying80 rfl hbA ldA ?_
      refine yaf ?_
      refine hK _ _ ?_; clear hK K
      refine zah rfl ?_
      refine zah rfl ?_
      refine zab (fun K hK r => ?_)
      refine yaM ?_
      refine Lt_sliceS Try.underlying80 sz5 (bound_some ixA) (bound_some ixA) bound_none bxA bxA bxA (by simp) ?_
      refine yaN ?_
      refine yaf ?_
      refine hK _ _ ?_; clear hK K
      refine zaj rfl ?_
      refine zad ?_
      refine yab ?_
      refine hK9 _ _ ?_; try clear hK9 K9
      refine zac (fun K10 hK10 => ?_)
      refine zaa ?_
      refine zah rfl ?_
      refine zah rfl ?_
      refine zab (fun K hK r => ?_)
      rw [zav _ _ rfl]
      refine yaj ?_
      refine hK _ _ ?_; clear hK K
      refine zab (fun K hK r => ?_)
      refine ybl ?_
      refine hK _ _ ?_; clear hK K
      refine zab (fun K hK r => ?_)
      refine yap ?_
      refine zae Try.underlying80 rfl hbA ldA ?_
      refine yaf ?_
      refine hK _ _ ?_; clear hK K
      refine zah rfl ?_
      refine zab (fun K hK r => ?_)
      refine yaM ?_
      refine Lt_sliceS Try.underlying80 sz5 bound_none bound_none (bound_some ixA) bxA bxA bxA (by simp) ?_
      refine yaN ?_
      refine yaf ?_
      refine hK _ _ ?_; clear hK K
      refine zab (fun K hK r => ?_)
      rw [zav _ _ rfl]
      refine yaj ?_
      refine hK _ _ ?_; clear hK K
      refine zab (fun K hK r => ?_)
      refine ybl ?_
      refine hK _ _ ?_; clear hK K
      refine zaI rfl (zas) (fun K hK r => ?_)
      refine yaD ?_
      refine zaE sz80 hbA bdA plA fzA ?_
      refine yaE ?_
      refine yaf ?_
      refine hK _ _ ?_; clear hK K
      refine zad ?_
      refine yab ?_
      refine hK10 _ _ ?_; try clear hK10 K10
      refine zac (fun K11 hK11 => ?_)
      refine zaa ?_
      refine zah rfl ?_
      refine zaj rfl ?_
      refine zaj rfl ?_
      refine zad ?_
      refine yab ?_
      refine hK11 _ _ ?_; try clear hK11 K11
      refine zaz ?_
      refine yab ?_
      exfalso; simp_all
set_option maxRecDepth 100000 in
set_option maxHeartbeats 1000000 in
theorem take_few (H : Hp) (p : Nat) (a : Option Addr) (cap : Nat) (l : List Int) (hr : RD H p a cap l false) (n : Nat) (hn : l.length < n) (hl : l.length ≤ 10000000) : CallH Try.prog 78 #[.pointer (some ⟨p, 0, none⟩), .int .u64 n] H (fun v H' => v = .tuple #[.slice none 0 0, .bool false] ∧ H' = rst H p none 0 0 true) := by
 refine zam (l := [_, _]) (rl := [.tmp 4, .tmp 5]) (n := 42) Try.func78 rfl rfl rfl rfl rfl ?_
 refine yaa ?_
 obtain ⟨hp, hcap, hh, hbad⟩ := hr
 refine zac (fun K1 hK1 => ?_)
 refine zaa ?_
 refine zaj rfl ?_
 refine zaj rfl ?_
 refine zad ?_
 refine yab ?_
 refine hK1 _ _ ?_; try clear hK1 K1
 refine zac (fun K2 hK2 => ?_)
 refine zac (fun K3 hK3 => ?_)
 refine zaa ?_
 refine zah rfl ?_
 refine zab (fun K hK r => ?_)
 refine yan ?_
 rw [e_eql _ _ _ _ (by simp)]
 rw [zaM]
 first | rw [q_ptr_nil _ _ _ Try.underlying96] | rw [q_nil_ptr _ _ _ Try.underlying96]
 refine yaf ?_
 refine hK _ _ ?_; clear hK K
 refine zah rfl ?_
 (first | refine zaA (d := 9) rfl (fun g9 => ?_) (fun g9 => ?_) | skip)
 all_goals try (exfalso; exact cnA g9)
 all_goals (try replace g9 := yad g9)
 all_goals
  refine yaf ?_
  first
  |refine yGT (fun K hK r => ?_)
   refine yai ?_
   refine hK _ _ ?_; clear hK K
  |refine yGF ?_
   refine yaj ?_
  first
  |refine yGT (fun K hK r => ?_)
   rw [zav _ _ rfl]
   refine yaj ?_
   refine hK _ _ ?_; clear hK K
  |refine yGF ?_
   refine yaj ?_
  first
  |refine yGT (fun K hK r => ?_)
   refine ybm ?_
   refine hK _ _ ?_; clear hK K
  |refine yGF ?_
   refine yaj ?_
  first
  |refine yGT (fun K hK r => ?_)
   refine yap ?_
   refine zae Try.underlying4 rfl hbA ldA ?_
   refine yaf ?_
   refine hK _ _ ?_; clear hK K
  |refine yGF ?_
   refine yaj ?_
  refine zab (fun K hK r => ?_)
  refine yal ?_
  refine hK _ _ ?_; clear hK K
  refine zad ?_
  refine yab ?_
  refine hK3 _ _ ?_; try clear hK3 K3
  refine zar (fun r => rfl) (fun c14 => ?_) (fun c14 => ?_)
  ·first
   |(exfalso; exact cnA c14; done)
   |skip
    (try replace c14 := yad c14)
    refine zac (fun K4 hK4 => ?_)
    refine zaa ?_
    refine zaj rfl ?_
    refine zaj rfl ?_
    refine zad ?_
    refine yab ?_
    refine hK4 _ _ ?_; try clear hK4 K4
    refine zaz ?_
    refine yab ?_
    exfalso; simp_all
  ·first
   |(exfalso; exact cnA c14; done)
   |skip
    (try replace c14 := yad c14)
    refine zau ?_
    refine yab ?_
    refine hK2 _ _ ?_; try clear hK2 K2
    refine zac (fun K5 hK5 => ?_)
    refine zac (fun K6 hK6 => ?_)
    refine zaa ?_
    refine zah rfl ?_
    refine zah rfl ?_
    refine zab (fun K hK r => ?_)
    rw [zav _ _ rfl]
    refine yaj ?_
    refine hK _ _ ?_; clear hK K
    refine zab (fun K hK r => ?_)
    refine ybl ?_
    refine hK _ _ ?_; clear hK K
    refine zab (fun K hK r => ?_)
    refine yap ?_
    refine zae Try.underlying80 rfl hbA ldA ?_
    refine yaf ?_
    refine hK _ _ ?_; clear hK K
    refine zab (fun K hK r => ?_)
    refine yaO ?_
    refine hK _ _ ?_; clear hK K
    refine zab (fun K hK r => ?_)
    refine ybn ?_
    refine hK _ _ ?_; clear hK K
    refine zab (fun K hK r => ?_)
    refine yaZ ?_
    refine hK _ _ ?_; clear hK K
    refine zad ?_
    refine yab ?_
    refine hK6 _ _ ?_; try clear hK6 K6
    refine zar (fun r => rfl) (fun c22 => ?_) (fun c22 => ?_)
    ·first
     |(exfalso; exact cnA c22; done)
     |skip
      (try replace c22 := yad c22)
      refine zac (fun K7 hK7 => ?_)
      refine zaa ?_
      refine zah rfl ?_
      refine zab (fun K hK r => ?_)
      refine ybo ?_
      refine (fail_ok _ p _ _ hp).mono ?_
      rintro v24 H24 rfl
      refine yaf ?_
      refine hK _ _ ?_; clear hK K
      refine zad ?_
      refine yab ?_
      refine hK7 _ _ ?_; try clear hK7 K7
      refine zac (fun K8 hK8 => ?_)
      refine zaa ?_
      refine zaj rfl ?_
      refine zaj rfl ?_
      refine zad ?_
      refine yab ?_
      refine hK8 _ _ ?_; try clear hK8 K8
      refine zaz ?_
      refine yab ?_
      exact ⟨[_, _], ⟨rfl, rfl, trivial⟩, _, Le.refl _, rfl, rfl⟩
    ·first
     |(exfalso; exact cnA c22; done)
     |skip
      (try replace c22 := yad c22)
      refine zau ?_
      refine yab ?_
      refine hK5 _ _ ?_; try clear hK5 K5
      refine zac (fun K9 hK9 => ?_)
      refine zaa ?_
      refine zah rfl ?_
      refine zab (fun K hK r => ?_)
      rw [zav _ _ rfl]
      refine yaj ?_
      refine hK _ _ ?_; clear hK K
      refine zab (fun K hK r => ?_)
      refine ybl ?_
      refine hK _ _ ?_; clear hK K
      refine zab (fun K hK r => ?_)
      refine yap ?_
      refine zae Try.underlying80 rfl hbA ldA ?_
      refine yaf ?_
      refine hK _ _ ?_; clear hK K
      refine zah rfl ?_
      refine zah rfl ?_
      refine zab (fun K hK r => ?_)
      refine yaM ?_
      refine Lt_sliceS Try.underlying80 sz5 (bound_some ixA) (bound_some ixA) bound_none bxA bxA bxA (by simp) ?_
      refine yaN ?_
      refine yaf ?_
      refine hK _ _ ?_; clear hK K
      refine zaj rfl ?_
      refine zad ?_
      refine yab ?_
      refine hK9 _ _ ?_; try clear hK9 K9
      refine zac (fun K10 hK10 => ?_)
      refine zaa ?_
      refine zah rfl ?_
      refine zah rfl ?_
      refine zab (fun K hK r => ?_)
      rw [zav _ _ rfl]
      refine yaj ?_
      refine hK _ _ ?_; clear hK K
      refine zab (fun K hK r => ?_)
      refine ybl ?_
      refine hK _ _ ?_; clear hK K
      refine zab (fun K hK r => ?_)
      refine yap ?_
      refine zae Try.underlying80 rfl hbA ldA ?_
      refine yaf ?_
      refine hK _ _ ?_; clear hK K
      refine zah rfl ?_
      refine zab (fun K hK r => ?_)
      refine yaM ?_
      refine Lt_sliceS Try.underlying80 sz5 bound_none bound_none (bound_some ixA) bxA bxA bxA (by simp) ?_
      refine yaN ?_
      refine yaf ?_
      refine hK _ _ ?_; clear hK K
      refine zab (fun K hK r => ?_)
      rw [zav _ _ rfl]
      refine yaj ?_
      refine hK _ _ ?_; clear hK K
      refine zab (fun K hK r => ?_)
      refine ybl ?_
      refine hK _ _ ?_; clear hK K
      refine zaI rfl (zas) (fun K hK r => ?_)
      refine yaD ?_
      refine zaE sz80 hbA bdA plA fzA ?_
      refine yaE ?_
      refine yaf ?_
      refine hK _ _ ?_; clear hK K
      refine zad ?_
      refine yab ?_
      refine hK10 _ _ ?_; try clear hK10 K10
      refine zac (fun K11 hK11 => ?_)
      refine zaa ?_
      refine zah rfl ?_
      refine zaj rfl ?_
      refine zaj rfl ?_
      refine zad ?_
      refine yab ?_
      refine hK11 _ _ ?_; try clear hK11 K11
      refine zaz ?_
      refine yab ?_
      exfalso; first | omega | simp_all
theorem hold_take {H : Hp} {a : Option Addr} {cap n : Nat} {l : List Int} (h : Holds H 1 (.slice a l.length cap) l.length (u8s l)) (hn : n ≤ l.length) : Holds H 1 (.slice (if n = 0 then a else a.map (·.add 0)) n n) n (u8s (l.take n)) := by
  have hs := Holds.slice (l := 0) (h := n) (m := n) h (by omega) hn (Nat.le_refl _)
  have e : (List.drop (0 * 1) (u8s l)).take ((n - 0) * 1) = u8s (l.take n) := by simp only [Nat.zero_mul, List.drop_zero, Nat.mul_one, Nat.sub_zero, List.map_take]
  rw [e] at hs; exact hs
theorem hold_drop {H : Hp} {a : Option Addr} {cap n : Nat} {l : List Int} (h : Holds H 1 (.slice a l.length cap) l.length (u8s l)) (hn : n ≤ l.length) (hc : l.length ≤ cap) : Holds H 1 (.slice (if cap = n then a else a.map (·.add n)) (l.length - n) (cap - n)) (l.length - n) (u8s (l.drop n)) := by
  have hs := Holds.slice (l := n) (h := l.length) (m := cap) h hn (Nat.le_refl _) hc
  have e : (List.drop (n * 1) (u8s l)).take ((l.length - n) * 1) = u8s (l.drop n) := by
    rw [Nat.mul_one, Nat.mul_one, List.take_of_length_le (by simp)]; simp only [List.map_drop]
  rw [e] at hs; simp only [Nat.mul_one] at hs; exact hs
theorem ybp {p q : Prop} (h : q) (e : p = q := by first | (simp only [Int.toNat_natCast]; exact rfl) | exact rfl) : p := e.mpr h
set_option maxRecDepth 100000 in
set_option maxHeartbeats 1000000 in
theorem take_ok (H : Hp) (p : Nat) (a : Option Addr) (cap : Nat) (l : List Int) (hr : RD H p a cap l false) (n : Nat) (hn : n ≤ l.length) (hl : l.length ≤ 10000000) : CallH Try.prog 78 #[.pointer (some ⟨p, 0, none⟩), .int .u64 n] H (fun v H' => ∃ a0 a1, v = .tuple #[.slice a0 n n, .bool true] ∧ H' = rst H p a1 (l.length - n) (cap - n) false ∧ RD H' p a1 (cap - n) (l.drop n) false ∧ Holds H' 1 (.slice a0 n n) n (u8s (l.take n)) ∧ (∀ B o, a = some ⟨B, o, none⟩ → a0 = some ⟨B, o, none⟩ ∧ (n < l.length → a1 = some ⟨B, o + n, none⟩)) ∧ (∀ A, a1 = some A → ∃ A0, a = some A0 ∧ A0.block = A.block)) := by
 refine zam (l := [_, _]) (rl := [.tmp 4, .tmp 5]) (n := 42) Try.func78 rfl rfl rfl rfl rfl ?_
 refine yaa ?_
 obtain ⟨hp, hcap, hh, hbad⟩ := hr
 have ht := hold_take hh hn
 have hd := hold_drop hh hn hcap
 refine zac (fun K1 hK1 => ?_)
 refine zaa ?_
 refine zaj rfl ?_
 refine zaj rfl ?_
 refine zad ?_
 refine yab ?_
 refine hK1 _ _ ?_; try clear hK1 K1
 refine zac (fun K2 hK2 => ?_)
 refine zac (fun K3 hK3 => ?_)
 refine zaa ?_
 refine zah rfl ?_
 refine zab (fun K hK r => ?_)
 refine yan ?_
 rw [e_eql _ _ _ _ (by simp)]
 rw [zaM]
 first | rw [q_ptr_nil _ _ _ Try.underlying96] | rw [q_nil_ptr _ _ _ Try.underlying96]
 refine yaf ?_
 refine hK _ _ ?_; clear hK K
 refine zah rfl ?_
 (first | refine zaA (d := 9) rfl (fun g9 => ?_) (fun g9 => ?_) | skip)
 all_goals try (exfalso; exact cnA g9)
 all_goals (try replace g9 := yad g9)
 all_goals
  refine yaf ?_
  first
  |refine yGT (fun K hK r => ?_)
   refine yai ?_
   refine hK _ _ ?_; clear hK K
  |refine yGF ?_
   refine yaj ?_
  first
  |refine yGT (fun K hK r => ?_)
   rw [zav _ _ rfl]
   refine yaj ?_
   refine hK _ _ ?_; clear hK K
  |refine yGF ?_
   refine yaj ?_
  first
  |refine yGT (fun K hK r => ?_)
   refine ybm ?_
   refine hK _ _ ?_; clear hK K
  |refine yGF ?_
   refine yaj ?_
  first
  |refine yGT (fun K hK r => ?_)
   refine yap ?_
   refine zae Try.underlying4 rfl hbA ldA ?_
   refine yaf ?_
   refine hK _ _ ?_; clear hK K
  |refine yGF ?_
   refine yaj ?_
  refine zab (fun K hK r => ?_)
  refine yal ?_
  refine hK _ _ ?_; clear hK K
  refine zad ?_
  refine yab ?_
  refine hK3 _ _ ?_; try clear hK3 K3
  refine zar (fun r => rfl) (fun c14 => ?_) (fun c14 => ?_)
  ·first
   |(exfalso; exact cnA c14; done)
   |skip
    (try replace c14 := yad c14)
    refine zac (fun K4 hK4 => ?_)
    refine zaa ?_
    refine zaj rfl ?_
    refine zaj rfl ?_
    refine zad ?_
    refine yab ?_
    refine hK4 _ _ ?_; try clear hK4 K4
    refine zaz ?_
    refine yab ?_
    exfalso; simp_all
  ·first
   |(exfalso; exact cnA c14; done)
   |skip
    (try replace c14 := yad c14)
    refine zau ?_
    refine yab ?_
    refine hK2 _ _ ?_; try clear hK2 K2
    refine zac (fun K5 hK5 => ?_)
    refine zac (fun K6 hK6 => ?_)
    refine zaa ?_
    refine zah rfl ?_
    refine zah rfl ?_
    refine zab (fun K hK r => ?_)
    rw [zav _ _ rfl]
    refine yaj ?_
    refine hK _ _ ?_; clear hK K
    refine zab (fun K hK r => ?_)
    refine ybl ?_
    refine hK _ _ ?_; clear hK K
    refine zab (fun K hK r => ?_)
    refine yap ?_
    refine zae Try.underlying80 rfl hbA ldA ?_
    refine yaf ?_
    refine hK _ _ ?_; clear hK K
    refine zab (fun K hK r => ?_)
    refine yaO ?_
    refine hK _ _ ?_; clear hK K
    refine zab (fun K hK r => ?_)
    refine ybn ?_
    refine hK _ _ ?_; clear hK K
    refine zab (fun K hK r => ?_)
    refine yaZ ?_
    refine hK _ _ ?_; clear hK K
    refine zad ?_
    refine yab ?_
    refine hK6 _ _ ?_; try clear hK6 K6
    refine zar (fun r => rfl) (fun c22 => ?_) (fun c22 => ?_)
    ·first
     |(exfalso; exact cnA c22; done)
     |skip
      (try replace c22 := yad c22)
      refine zac (fun K7 hK7 => ?_)
      refine zaa ?_
      refine zah rfl ?_
      refine zab (fun K hK r => ?_)
      refine ybo ?_
      refine (fail_ok _ p _ _ hp).mono ?_
      rintro v24 H24 rfl
      refine yaf ?_
      refine hK _ _ ?_; clear hK K
      refine zad ?_
      refine yab ?_
      refine hK7 _ _ ?_; try clear hK7 K7
      refine zac (fun K8 hK8 => ?_)
      refine zaa ?_
      refine zaj rfl ?_
      refine zaj rfl ?_
      refine zad ?_
      refine yab ?_
      refine hK8 _ _ ?_; try clear hK8 K8
      refine zaz ?_
      refine yab ?_
      exfalso; first | omega | simp_all
    ·first
     |(exfalso; exact cnA c22; done)
     |skip
      (try replace c22 := yad c22)
      refine zau ?_
      refine yab ?_
      refine hK5 _ _ ?_; try clear hK5 K5
      refine zac (fun K9 hK9 => ?_)
      refine zaa ?_
      refine zah rfl ?_
      refine zab (fun K hK r => ?_)
      rw [zav _ _ rfl]
      refine yaj ?_
      refine hK _ _ ?_; clear hK K
      refine zab (fun K hK r => ?_)
      refine ybl ?_
      refine hK _ _ ?_; clear hK K
      refine zab (fun K hK r => ?_)
      refine yap ?_
      refine zae Try.underlying80 rfl hbA ldA ?_
      refine yaf ?_
      refine hK _ _ ?_; clear hK K
      refine zah rfl ?_
      refine zah rfl ?_
      refine zab (fun K hK r => ?_)
      refine yaM ?_
      refine Lt_sliceS Try.underlying80 sz5 (bound_some ixA) (bound_some ixA) bound_none bxA bxA bxA (by simp) ?_
      refine yaN ?_
      refine ybp ?_
      refine yaf ?_
      refine hK _ _ ?_; clear hK K
      refine zaj rfl ?_
      refine zad ?_
      refine yab ?_
      refine hK9 _ _ ?_; try clear hK9 K9
      refine zac (fun K10 hK10 => ?_)
      refine zaa ?_
      refine zah rfl ?_
      refine zah rfl ?_
      refine zab (fun K hK r => ?_)
      rw [zav _ _ rfl]
      refine yaj ?_
      refine hK _ _ ?_; clear hK K
      refine zab (fun K hK r => ?_)
      refine ybl ?_
      refine hK _ _ ?_; clear hK K
      refine zab (fun K hK r => ?_)
      refine yap ?_
      refine zae Try.underlying80 rfl hbA ldA ?_
      refine yaf ?_
      refine hK _ _ ?_; clear hK K
      refine zah rfl ?_
      refine zab (fun K hK r => ?_)
      refine yaM ?_
      refine Lt_sliceS Try.underlying80 sz5 bound_none bound_none (bound_some ixA) bxA bxA bxA (by simp) ?_
      refine yaN ?_
      refine ybp ?_
      refine yaf ?_
      refine hK _ _ ?_; clear hK K
      refine zab (fun K hK r => ?_)
      rw [zav _ _ rfl]
      refine yaj ?_
      refine hK _ _ ?_; clear hK K
      refine zab (fun K hK r => ?_)
      refine ybl ?_
      refine hK _ _ ?_; clear hK K
      refine zaI rfl (zas) (fun K hK r => ?_)
      refine yaD ?_
      refine zaE sz80 hbA bdA plA fzA ?_
      refine yaE ?_
      refine yaf ?_
      refine hK _ _ ?_; clear hK K
      refine zad ?_
      refine yab ?_
      refine hK10 _ _ ?_; try clear hK10 K10
      refine zac (fun K11 hK11 => ?_)
      refine zaa ?_
      refine zah rfl ?_
      refine zaj rfl ?_
      refine zaj rfl ?_
      refine zad ?_
      refine yab ?_
      refine hK11 _ _ ?_; try clear hK11 K11
      refine zaz ?_
      refine yab ?_
      refine ⟨[_, _], ⟨rfl, rfl, trivial⟩, _, Le.refl _, _, _, rfl, rfl, ⟨?_, by simp; omega, ?_, fun h => by cases h⟩, ht.rst hp _, fun B o e => ?_, fun A e => ?_⟩
      ·rw [zan, List.length_drop]
      ·rw [List.length_drop]; exact hd.rst hp _
      ·subst e
       refine ⟨?_, fun h => ?_⟩
       ·split <;> simp [zaH]
       ·rw [if_neg (by omega)]; simp [zaH]
      ·split at e
       ·exact ⟨A, e, rfl⟩
       ·simp only [Option.map_eq_some_iff] at e
        obtain ⟨A0, h1, rfl⟩ := e
        exact ⟨A0, h1, (addr_block A0 n).symm⟩
end Go.Proofs.Ytigofhhonnbkmaa.HL
end
section
namespace Go.Proofs.Ytigofhhonnbkmaa.HL
open Go Go.Proofs
set_option linter.unusedSimpArgs false
set_option linter.unusedVariables false
attribute [local irreducible] Lt Lq CW OW TW CallH
def rcN (r : Option (Nat × List Int)) : Nat := match r with | some (u, _) => u | none => 0
def rcL (r : Option (Nat × List Int)) : List Int := match r with | some (_, l) => l | none => []
theorem shl_acc {p : List Int} {c : Int} (h0 : 0 ≤ c) (h1 : c ≤ 255) (hl : p.length ≤ 9) (hc : p.length = 9 → c ≤ 1) : IntKind.u64.wrap (BitVec.ofInt IntKind.u64.bits (valL p : Int) ||| BitVec.ofInt IntKind.u64.bits (IntKind.u64.wrap ((c % 128) * 2 ^ (min ((7 * (p.length : Int)).toNat) IntKind.u64.bits)))).toNat = (valL (p ++ [c]) : Int) ∧ valL (p ++ [c]) < 18446744073709551616 := by
  have e1 : (7 * (p.length : Int)).toNat = 7 * p.length := by omega
  have e2 : min (7 * p.length) IntKind.u64.bits = 7 * p.length := Nat.min_eq_left (by show 7 * p.length ≤ 64; omega)
  have e3 : (128 : Nat) ^ p.length = 2 ^ (7 * p.length) := by rw [Nat.pow_mul]
  have hv := valL_lt p
  have hstep := valL_step (p := p) h0
  have hc2 : c.toNat % 128 < 128 := by omega
  have hle : 2 ^ (7 * p.length) ≤ 2 ^ 63 := Nat.pow_le_pow_right (by omega) (by omega)
  have hprod : (c.toNat % 128) * 2 ^ (7 * p.length) + 2 ^ (7 * p.length) ≤ 18446744073709551616 := by
    by_cases h9 : p.length = 9
    · have := hc h9
      have h1 : c.toNat % 128 ≤ 1 := by omega
      have := Nat.mul_le_mul_right (2 ^ (7 * p.length)) h1
      omega
    · have h56 : 2 ^ (7 * p.length) ≤ 2 ^ 56 := Nat.pow_le_pow_right (by omega) (by omega)
      have := Nat.mul_le_mul_right (2 ^ (7 * p.length)) (show c.toNat % 128 + 1 ≤ 128 by omega)
      rw [Nat.add_mul, Nat.one_mul] at this
      omega
  rw [e3] at hv hstep
  have ec : c % 128 = ((c.toNat % 128 : Nat) : Int) := by omega
  have ep : (2 : Int) ^ (7 * p.length) = ((2 ^ (7 * p.length) : Nat) : Int) := by simp
  have hs : ((c.toNat % 128 : Nat) : Int) * 2 ^ (7 * p.length) < 18446744073709551616 := by
    rw [ep, ← Int.natCast_mul]; omega
  refine ⟨?_, by rw [hstep]; omega⟩
  rw [e1, e2, ec, shl_fits (by omega) hs, hstep]
  have hor := or_add (x := ((c.toNat % 128 : Nat) : Int)) (y := (valL p : Int)) (s := 7 * p.length) (by omega) (by omega) hs (by omega) (by rw [ep]; omega)
  rw [BitVec.or_comm, hor, ep, Int.natCast_add, Int.natCast_mul]; omega
theorem ybq {p q : Prop} (h : q) (e : p = q := by simp only [x_bin, g_int, b_and, eX, ↓reduceIte, Nat.reduceEqDiff, Int.reduceToNat]; exact rfl) : p := e.mpr h
theorem ybr {p q : Prop} (h : q) (e : p = q := by simp (disch := (first | omega | decide)) only [x_convert, c_int _ _ _ _ Try.underlying5 Try.underlying84, wrap_i64, wrap_u64, wrap_u32, wrap_u8, eX, ↓reduceIte, Nat.reduceEqDiff, Int.reduceToNat]; exact rfl) : p := e.mpr h
set_option maxRecDepth 100000 in
set_option maxHeartbeats 1000000 in
theorem rCount_bad (H : Hp) (p : Nat) (a : Option Addr) (cap : Nat) (l : List Int) (hr : RD H p a cap l true) : CallH Try.prog 72 #[.pointer (some ⟨p, 0, none⟩)] H (fun v H' => v = .int .u64 0 ∧ H' = H) := by
 refine zam (l := [_]) (rl := [.tmp 2]) (n := 49) Try.func72 rfl rfl rfl rfl rfl ?_
 refine yaa ?_
 refine zac (fun K1 hK1 => ?_)
 refine zaa ?_
 refine zaj rfl ?_
 refine zad ?_
 refine yab ?_
 refine hK1 _ _ ?_; try clear hK1 K1
 refine zac (fun K2 hK2 => ?_)
 refine zaa ?_
 refine zaj rfl ?_
 refine zad ?_
 refine yab ?_
 refine hK2 _ _ ?_; try clear hK2 K2
 refine zac (fun K3 hK3 => ?_)
 refine zac (fun K4 hK4 => ?_)
 refine zaa ?_
 refine zah rfl ?_
 refine zad ?_
 refine yab ?_
 refine hK4 _ _ ?_; try clear hK4 K4
 refine zaB ?_
 refine CW_loop (fun m e H_ => m = 0 ∧ Env.has [(0, .pointer (some ⟨p, 0, none⟩)), (8, .int .i64 0)] e ∧ H_ = H) (0) ?_ ?_
 ·skip
  exact ⟨rfl, ⟨rfl, rfl, trivial⟩, rfl⟩
 intro m_ e_ H_ hI_
 obtain ⟨rfl, he, hH_⟩ := hI_
 subst hH_
 refine CW_env he.sub ?_; clear he e_
 refine zac (fun K5 hK5 => ?_)
 refine zaa ?_
 refine zab (fun K hK r => ?_)
 refine yac ?_
 refine hK _ _ ?_; clear hK K
 refine zad ?_
 refine yab ?_
 refine hK5 _ _ ?_; try clear hK5 K5
 refine zac (fun K6 hK6 => ?_)
 refine zar (fun r => rfl) (fun c9 => ?_) (fun c9 => ?_)
 ·first
  |(exfalso; exact cnA c9; done)
  |skip
   (try replace c9 := yad c9)
   refine zau ?_
   refine yab ?_
   refine hK6 _ _ ?_; try clear hK6 K6
   refine zac (fun K7 hK7 => ?_)
   refine zaB ?_
   refine zac (fun K8 hK8 => ?_)
   refine zaa ?_
   refine zah rfl ?_
   refine zaj rfl ?_
   refine zad ?_
   refine yab ?_
   refine hK8 _ _ ?_; try clear hK8 K8
   refine zac (fun K9 hK9 => ?_)
   refine zaa ?_
   refine zah rfl ?_
   refine zab (fun K hK r => ?_)
   simp only [zaF _ bd78, List.map_toArray, List.map_cons, List.map_nil, eX, ↓reduceIte, Nat.reduceEqDiff, Int.reduceToNat]
   refine (take_bad _ p a cap l hr 1).mono ?_
   rintro v H' ⟨rfl, rfl⟩
   refine yaf ?_
   refine hK _ _ ?_; clear hK K
   refine zah rfl ?_
   refine zab (fun K hK r => ?_)
   refine yah ?_
   refine hK _ _ ?_; clear hK K
   refine zab (fun K hK r => ?_)
   refine yah ?_
   refine hK _ _ ?_; clear hK K
   refine zaj rfl ?_
   refine zaj rfl ?_
   refine zad ?_
   refine yab ?_
   refine hK9 _ _ ?_; try clear hK9 K9
   refine zac (fun K10 hK10 => ?_)
   refine zac (fun K11 hK11 => ?_)
   refine zaa ?_
   refine zah rfl ?_
   refine zab (fun K hK r => ?_)
   refine yam ?_
   refine hK _ _ ?_; clear hK K
   refine zad ?_
   refine yab ?_
   refine hK11 _ _ ?_; try clear hK11 K11
   refine zar (fun r => rfl) (fun c17 => ?_) (fun c17 => ?_)
   ·first
    |(exfalso; exact cnA c17; done)
    |skip
     (try replace c17 := yad c17)
     refine zac (fun K12 hK12 => ?_)
     refine zaa ?_
     refine zaj rfl ?_
     refine zad ?_
     refine yab ?_
     refine hK12 _ _ ?_; try clear hK12 K12
     refine zaz ?_
     refine yab ?_
     exact ⟨[_], ⟨rfl, trivial⟩, _, Le.refl _, rfl, rfl⟩
   ·first
    |(exfalso; exact cnA c17; done)
    |skip
     (try replace c17 := yad c17)
     refine zau ?_
     refine yab ?_
     refine hK10 _ _ ?_; try clear hK10 K10
     refine zac (fun K13 hK13 => ?_)
     refine zaa ?_
     refine zah rfl ?_
     refine zab (fun K hK r => ?_)
     refine yaw ?_
     refine Lt_indexS Try.underlying80 sz5 ixA ixA ?_
     refine yax ?_
     refine yaf ?_
     refine hK _ _ ?_; clear hK K
     refine zab (fun K hK r => ?_)
     refine yap ?_
     refine zae Try.underlying5 rfl hbA ldA ?_
     refine yaf ?_
     refine hK _ _ ?_; clear hK K
     refine zaj rfl ?_
     refine zad ?_
     refine yab ?_
     refine hK13 _ _ ?_; try clear hK13 K13
     refine zac (fun K14 hK14 => ?_)
     refine zac (fun K15 hK15 => ?_)
     refine zaa ?_
     refine zah rfl ?_
     refine zab (fun K hK r => ?_)
     refine yas ?_
     refine hK _ _ ?_; clear hK K
     refine zah rfl ?_
     (first | refine zaA (d := 23) rfl (fun g23 => ?_) (fun g23 => ?_) | skip)
     all_goals try (exfalso; exact cnA g23)
     all_goals (try replace g23 := yad g23)
     all_goals
      refine yaf ?_
      first
      |refine yGT (fun K hK r => ?_)
       refine yai ?_
       refine hK _ _ ?_; clear hK K
      |refine yGF ?_
       refine yaj ?_
      first
      |refine yGT (fun K hK r => ?_)
       refine yaZ ?_
       refine hK _ _ ?_; clear hK K
      |refine yGF ?_
       refine yaj ?_
      refine zab (fun K hK r => ?_)
      refine yal ?_
      refine hK _ _ ?_; clear hK K
      refine zah rfl ?_
      (first | refine zaA (d := 27) rfl (fun g27 => ?_) (fun g27 => ?_) | skip)
      all_goals try (exfalso; exact cnA g27)
      all_goals (try replace g27 := yad g27)
      all_goals
       refine yaf ?_
       first
       |refine yGT (fun K hK r => ?_)
        refine yai ?_
        refine hK _ _ ?_; clear hK K
       |refine yGF ?_
        refine yaj ?_
       first
       |refine yGT (fun K hK r => ?_)
        refine yaZ ?_
        refine hK _ _ ?_; clear hK K
       |refine yGF ?_
        refine yaj ?_
       first
       |refine yGT (fun K hK r => ?_)
        refine yai ?_
        refine hK _ _ ?_; clear hK K
       |refine yGF ?_
        refine yaj ?_
       (first | refine zaA (d := 30) rfl (fun g30 => ?_) (fun g30 => ?_) | skip)
       all_goals try (exfalso; exact cnA g30)
       all_goals (try replace g30 := yad g30)
       all_goals
        refine yaf ?_
        first
        |refine yGT (fun K hK r => ?_)
         refine yai ?_
         refine hK _ _ ?_; clear hK K
        |refine yGF ?_
         refine yaj ?_
        first
        |refine yGT (fun K hK r => ?_)
         refine yas ?_
         refine hK _ _ ?_; clear hK K
        |refine yGF ?_
         refine yaj ?_
        first
        |refine yGT (fun K hK r => ?_)
         refine yal ?_
         refine hK _ _ ?_; clear hK K
        |refine yGF ?_
         refine yaj ?_
        refine zab (fun K hK r => ?_)
        refine yal ?_
        refine hK _ _ ?_; clear hK K
        refine zad ?_
        refine yab ?_
        refine hK15 _ _ ?_; try clear hK15 K15
        refine zar (fun r => rfl) (fun c34 => ?_) (fun c34 => ?_)
        ·first
         |(exfalso; exact cnA c34; done)
         |skip
          (try replace c34 := yad c34)
          refine CW_exit ?_
          refine yab ?_
          refine hK3 _ _ ?_; try clear hK3 K3
          refine zac (fun K16 hK16 => ?_)
          refine zaa ?_
          refine zah rfl ?_
          refine zab (fun K hK r => ?_)
          refine ybo ?_
          refine (fail_ok _ p _ _ hr.1).mono ?_
          rintro v48 H48 rfl
          refine yaf ?_
          refine hK _ _ ?_; clear hK K
          refine zad ?_
          refine yab ?_
          refine hK16 _ _ ?_; try clear hK16 K16
          refine zac (fun K17 hK17 => ?_)
          refine zaa ?_
          refine zaj rfl ?_
          refine zad ?_
          refine yab ?_
          refine hK17 _ _ ?_; try clear hK17 K17
          refine zaz ?_
          refine yab ?_
          exfalso; simp_all
        ·first
         |(exfalso; exact cnA c34; done)
         |skip
          (try replace c34 := yad c34)
          refine zau ?_
          refine yab ?_
          refine hK14 _ _ ?_; try clear hK14 K14
          refine zac (fun K18 hK18 => ?_)
          refine zaa ?_
          refine zah rfl ?_
          refine zah rfl ?_
          refine zab (fun K hK r => ?_)
          refine ybq ?_
          refine hK _ _ ?_; clear hK K
          refine zab (fun K hK r => ?_)
          refine ybr ?_
          refine hK _ _ ?_; clear hK K
          refine zah rfl ?_
          refine zab (fun K hK r => ?_)
          refine yaQ ?_
          refine hK _ _ ?_; clear hK K
          refine zab (fun K hK r => ?_)
          refine yaR ?_
          refine hK _ _ ?_; clear hK K
          refine zab (fun K hK r => ?_)
          refine yaS ?_
          refine hK _ _ ?_; clear hK K
          refine zaj rfl ?_
          refine zad ?_
          refine yab ?_
          refine hK18 _ _ ?_; try clear hK18 K18
          refine zac (fun K19 hK19 => ?_)
          refine zaa ?_
          refine zah rfl ?_
          refine zab (fun K hK r => ?_)
          refine yac ?_
          refine hK _ _ ?_; clear hK K
          refine zad ?_
          refine yab ?_
          refine hK19 _ _ ?_; try clear hK19 K19
          refine zar (fun r => rfl) (fun c44 => ?_) (fun c44 => ?_)
          ·first
           |(exfalso; exact cnA c44; done)
           |skip
            (try replace c44 := yad c44)
            refine zac (fun K20 hK20 => ?_)
            refine zaa ?_
            refine zah rfl ?_
            refine zaj rfl ?_
            refine zad ?_
            refine yab ?_
            refine hK20 _ _ ?_; try clear hK20 K20
            refine zaz ?_
            refine yab ?_
            exfalso; simp_all
          ·first
           |(exfalso; exact cnA c44; done)
           |skip
            (try replace c44 := yad c44)
            refine zau ?_
            refine yab ?_
            refine hK7 _ _ ?_; try clear hK7 K7
            refine zaa ?_
            refine zab (fun K hK r => ?_)
            refine yaq ?_
            refine hK _ _ ?_; clear hK K
            refine zah rfl ?_
            refine zad ?_
            refine yab ?_
            exfalso; simp_all
 ·first
  |(exfalso; exact cnA c9; done)
  |skip
   (try replace c9 := yad c9)
   refine CW_exit ?_
   refine yab ?_
   refine hK3 _ _ ?_; try clear hK3 K3
   refine zac (fun K21 hK21 => ?_)
   refine zaa ?_
   refine zah rfl ?_
   refine zab (fun K hK r => ?_)
   refine ybo ?_
   refine (fail_ok _ p _ _ hr.1).mono ?_
   rintro v48 H48 rfl
   refine yaf ?_
   refine hK _ _ ?_; clear hK K
   refine zad ?_
   refine yab ?_
   refine hK21 _ _ ?_; try clear hK21 K21
   refine zac (fun K22 hK22 => ?_)
   refine zaa ?_
   refine zaj rfl ?_
   refine zad ?_
   refine yab ?_
   refine hK22 _ _ ?_; try clear hK22 K22
   refine zaz ?_
   refine yab ?_
   exfalso; simp_all
end Go.Proofs.Ytigofhhonnbkmaa.HL
end
section
namespace Go.Proofs.Ytigofhhonnbkmaa.HL
open Go Go.Proofs
set_option linter.unusedSimpArgs false
set_option linter.unusedVariables false
attribute [local irreducible] Lt Lq CW OW TW CallH
theorem upd_id {H : Hp} {b : Nat} {o : Obj} (h : H b = some o) : H.upd b o = H := by
  funext x; by_cases e : x = b
  · subst e; rw [zan, h]
  · rw [zap _ _ e]
def SameB (a a' : Option Addr) : Prop := ∀ A, a' = some A → ∃ A0, a = some A0 ∧ A0.block = A.block
theorem SameB.refl (a : Option Addr) : SameB a a := fun A h => ⟨A, h, rfl⟩
theorem SameB.none (a : Option Addr) : SameB a none := fun A h => by cases h
theorem SameB.trans {a b c : Option Addr} (h : SameB a b) (k : SameB b c) : SameB a c := fun A e => by
  obtain ⟨B, h1, h2⟩ := k A e
  obtain ⟨C, h3, h4⟩ := h B h1
  exact ⟨C, h3, h4.trans h2⟩
theorem take_all (H : Hp) (p : Nat) (a : Option Addr) (cap : Nat) (l : List Int) (hr : RD H p a cap l false) (n : Nat) (hl : l.length ≤ 10000000) : CallH Try.prog 78 #[.pointer (some ⟨p, 0, none⟩), .int .u64 n] H (fun v H' => ∃ w ok, v = .tuple #[w, .bool ok] ∧ (ok = false → l.length < n ∧ w = .slice none 0 0 ∧ H' = rst H p none 0 0 true) ∧ (ok = true → n ≤ l.length ∧ ∃ a0 a1, w = .slice a0 n n ∧ H' = rst H p a1 (l.length - n) (cap - n) false ∧ RD H' p a1 (cap - n) (l.drop n) false ∧ Holds H' 1 (.slice a0 n n) n (u8s (l.take n)) ∧ (∀ B o, a = some ⟨B, o, none⟩ → a0 = some ⟨B, o, none⟩ ∧ (n < l.length → a1 = some ⟨B, o + n, none⟩)) ∧ SameB a a1)) := by
  by_cases hn : n ≤ l.length
  · refine (take_ok H p a cap l hr n hn hl).mono ?_
    rintro v H' ⟨a0, a1, rfl, h⟩
    exact ⟨_, true, rfl, (fun h => by cases h), fun _ => ⟨hn, a0, a1, rfl, h⟩⟩
  · refine (take_few H p a cap l hr n (by omega) hl).mono ?_
    rintro v H' ⟨rfl, rfl⟩
    exact ⟨_, false, rfl, (fun _ => ⟨by omega, rfl, rfl⟩), (fun h => by cases h)⟩
set_option maxRecDepth 100000 in
set_option maxHeartbeats 4000000 in
theorem rCount_ok (H : Hp) (p : Nat) (a : Option Addr) (cap : Nat) (l : List Int) (hr : RD H p a cap l false) (hB : ByteL l) (hl : l.length ≤ 10000000) : CallH Try.prog 72 #[.pointer (some ⟨p, 0, none⟩)] H (fun v H' => ∃ res, RC l res ∧ v = .int .u64 (rcN res) ∧ ∃ a' cap', RD H' p a' cap' (rcL res) res.isNone ∧ (∃ o, H' = H.upd p o) ∧ SameB a a') := by
 refine zam (l := [_]) (rl := [.tmp 2]) (n := 49) Try.func72 rfl rfl rfl rfl rfl ?_
 refine yaa ?_
 refine zac (fun K1 hK1 => ?_)
 refine zaa ?_
 refine zaj rfl ?_
 refine zad ?_
 refine yab ?_
 refine hK1 _ _ ?_; try clear hK1 K1
 refine zac (fun K2 hK2 => ?_)
 refine zaa ?_
 refine zaj rfl ?_
 refine zad ?_
 refine yab ?_
 refine hK2 _ _ ?_; try clear hK2 K2
 refine zac (fun K3 hK3 => ?_)
 refine zac (fun K4 hK4 => ?_)
 refine zaa ?_
 refine zah rfl ?_
 refine zad ?_
 refine yab ?_
 refine hK4 _ _ ?_; try clear hK4 K4
 refine zaB ?_
 refine CW_loop (fun m e H_ => ∃ (s rest : List Int) (a1 : Option Addr) (cap1 : Nat), m = 10 - s.length ∧ l = s ++ rest ∧ Big1 s ∧ s.length ≤ 9 ∧ RD H_ p a1 cap1 rest false ∧ (∃ o, H_ = H.upd p o) ∧ SameB a a1 ∧ Env.has [(0, .pointer (some ⟨p, 0, none⟩)), (3, .int .u64 (valL s)), (8, .int .i64 s.length)] e) (10) ?_ ?_
 ·skip
  exact ⟨[], l, a, cap, rfl, rfl, Big1.nil, by simp, hr, ⟨_, (upd_id hr.1).symm⟩, SameB.refl _, rfl, rfl, rfl, trivial⟩
 intro m_ e_ H_ hI_
 obtain ⟨s, rest, a1, cap1, rfl, rfl, hs, hs9, hr1, ⟨o1, rfl⟩, hsb, he⟩ := hI_
 refine CW_env he.sub ?_; clear he e_
 have hlr : rest.length ≤ 10000000 := by simp at hl; omega
 refine zac (fun K5 hK5 => ?_)
 refine zaa ?_
 refine zab (fun K hK r => ?_)
 refine yac ?_
 refine hK _ _ ?_; clear hK K
 refine zad ?_
 refine yab ?_
 refine hK5 _ _ ?_; try clear hK5 K5
 refine zac (fun K6 hK6 => ?_)
 refine zar (fun r => rfl) (fun c9 => ?_) (fun c9 => ?_)
 ·first
  |(exfalso; exact cnA c9; done)
  |skip
   (try replace c9 := yad c9)
   refine zau ?_
   refine yab ?_
   refine hK6 _ _ ?_; try clear hK6 K6
   refine zac (fun K7 hK7 => ?_)
   refine zaB ?_
   refine zac (fun K8 hK8 => ?_)
   refine zaa ?_
   refine zah rfl ?_
   refine zaj rfl ?_
   refine zad ?_
   refine yab ?_
   refine hK8 _ _ ?_; try clear hK8 K8
   refine zac (fun K9 hK9 => ?_)
   refine zaa ?_
   refine zah rfl ?_
   refine zab (fun K hK r => ?_)
   simp only [zaF _ bd78, List.map_toArray, List.map_cons, List.map_nil, eX, ↓reduceIte, Nat.reduceEqDiff, Int.reduceToNat]
   refine (take_all _ p a1 cap1 rest hr1 1 hlr).mono ?_
   rintro v13 H13 ⟨w13, ok, rfl, hno, hyes⟩
   refine yaf ?_
   refine hK _ _ ?_; clear hK K
   refine zah rfl ?_
   refine zab (fun K hK r => ?_)
   refine yah ?_
   refine hK _ _ ?_; clear hK K
   refine zab (fun K hK r => ?_)
   refine yah ?_
   refine hK _ _ ?_; clear hK K
   refine zaj rfl ?_
   refine zaj rfl ?_
   refine zad ?_
   refine yab ?_
   refine hK9 _ _ ?_; try clear hK9 K9
   refine zac (fun K10 hK10 => ?_)
   refine zac (fun K11 hK11 => ?_)
   refine zaa ?_
   refine zah rfl ?_
   refine zab (fun K hK r => ?_)
   refine yam ?_
   refine hK _ _ ?_; clear hK K
   refine zad ?_
   refine yab ?_
   refine hK11 _ _ ?_; try clear hK11 K11
   refine zar (fun r => rfl) (fun c17 => ?_) (fun c17 => ?_)
   ·first
    |(exfalso; exact cnA c17; done)
    |skip
     (try replace c17 := yad c17)
     obtain ⟨hfew, rfl, hH13⟩ := hno (by first | assumption | simp_all)
     subst hH13
     have hre : rest = [] := List.eq_nil_of_length_eq_zero (by omega)
     subst hre
     refine zac (fun K12 hK12 => ?_)
     refine zaa ?_
     refine zaj rfl ?_
     refine zad ?_
     refine yab ?_
     refine hK12 _ _ ?_; try clear hK12 K12
     refine zaz ?_
     refine yab ?_
     exact ⟨[_], ⟨rfl, trivial⟩, _, Le.refl _, none, by rw [List.append_nil]; exact RC_end hs, rfl, none, 0, RD.bad _ _, ⟨_, (by first | rfl | exact upd_upd _ _ _ _)⟩, SameB.none _⟩
   ·first
    |(exfalso; exact cnA c17; done)
    |skip
     (try replace c17 := yad c17)
     obtain ⟨hge, a0, a13, rfl, hH13, hr13, hx13, hpos, hsb13⟩ := hyes (by first | assumption | simp_all)
     obtain ⟨c, t, rfl⟩ : ∃ c t, rest = c :: t := by
      cases rest with
      |nil => simp at hge
      |cons c t => exact ⟨c, t, rfl⟩
     simp only [List.drop_succ_cons, List.drop_zero, List.take_succ_cons, List.take_zero] at hr13 hx13
     have hcB : 0 ≤ c ∧ c ≤ 255 := by have := hB c (by simp); omega
     have hc255 := hcB.2
     obtain ⟨bI, oI, qI, TI, FI, rfl, hbI, hsI, atI⟩ := hx13.at (by omega)
     refine zau ?_
     refine yab ?_
     refine hK10 _ _ ?_; try clear hK10 K10
     refine zac (fun K13 hK13 => ?_)
     refine zaa ?_
     refine zah rfl ?_
     refine zab (fun K hK r => ?_)
     refine yaw ?_
     refine Lt_indexS Try.underlying80 sz5 ixA ixA ?_
     refine yax ?_
     refine yaf ?_
     refine hK _ _ ?_; clear hK K
     refine zab (fun K hK r => ?_)
     refine yap ?_
     refine zae Try.underlying5 rfl hbI (v := .int .u8 c) (by have := atI 0 (by simp); simpa using this) ?_
     refine hK _ _ ?_; clear hK K
     refine zaj rfl ?_
     refine zad ?_
     refine yab ?_
     refine hK13 _ _ ?_; try clear hK13 K13
     refine zac (fun K14 hK14 => ?_)
     refine zac (fun K15 hK15 => ?_)
     refine zaa ?_
     refine zah rfl ?_
     refine zab (fun K hK r => ?_)
     refine yas ?_
     refine hK _ _ ?_; clear hK K
     refine zah rfl ?_
     (first | refine zaA (d := 23) rfl (fun g23 => ?_) (fun g23 => ?_) | skip)
     all_goals try (exfalso; exact cnA g23)
     all_goals (try replace g23 := yad g23)
     all_goals
      refine yaf ?_
      first
      |refine yGT (fun K hK r => ?_)
       refine yai ?_
       refine hK _ _ ?_; clear hK K
      |refine yGF ?_
       refine yaj ?_
      first
      |refine yGT (fun K hK r => ?_)
       refine yaZ ?_
       refine hK _ _ ?_; clear hK K
      |refine yGF ?_
       refine yaj ?_
      refine zab (fun K hK r => ?_)
      refine yal ?_
      refine hK _ _ ?_; clear hK K
      refine zah rfl ?_
      (first | refine zaA (d := 27) rfl (fun g27 => ?_) (fun g27 => ?_) | skip)
      all_goals try (exfalso; exact cnA g27)
      all_goals (try replace g27 := yad g27)
      all_goals
       refine yaf ?_
       first
       |refine yGT (fun K hK r => ?_)
        refine yai ?_
        refine hK _ _ ?_; clear hK K
       |refine yGF ?_
        refine yaj ?_
       first
       |refine yGT (fun K hK r => ?_)
        refine yaZ ?_
        refine hK _ _ ?_; clear hK K
       |refine yGF ?_
        refine yaj ?_
       first
       |refine yGT (fun K hK r => ?_)
        refine yai ?_
        refine hK _ _ ?_; clear hK K
       |refine yGF ?_
        refine yaj ?_
       (first | refine zaA (d := 30) rfl (fun g30 => ?_) (fun g30 => ?_) | skip)
       all_goals try (exfalso; exact cnA g30)
       all_goals (try replace g30 := yad g30)
       all_goals
        refine yaf ?_
        first
        |refine yGT (fun K hK r => ?_)
         refine yai ?_
         refine hK _ _ ?_; clear hK K
        |refine yGF ?_
         refine yaj ?_
        first
        |refine yGT (fun K hK r => ?_)
         refine yas ?_
         refine hK _ _ ?_; clear hK K
        |refine yGF ?_
         refine yaj ?_
        first
        |refine yGT (fun K hK r => ?_)
         refine yal ?_
         refine hK _ _ ?_; clear hK K
        |refine yGF ?_
         refine yaj ?_
        refine zab (fun K hK r => ?_)
        refine yal ?_
        refine hK _ _ ?_; clear hK K
        refine zad ?_
        refine yab ?_
        refine hK15 _ _ ?_; try clear hK15 K15
        refine zar (fun r => rfl) (fun c34 => ?_) (fun c34 => ?_)
        ·first
         |(exfalso; exact cnA c34; done)
         |skip
          have hnone : RC (s ++ c :: t) none := by
           by_cases h9 : s.length = 9 ∧ 1 < c
           ·exact RC_over hs h9.1 h9.2 hc255
           ·have h0 : 0 < s.length ∧ c = 0 := by (try replace c34 := yad c34); first | omega | (simp_all; done) | (simp_all; omega)
            rw [h0.2]
            exact RC_zero hs (fun e => by rw [e] at h0; simp at h0)
          refine CW_exit ?_
          refine yab ?_
          refine hK3 _ _ ?_; try clear hK3 K3
          refine zac (fun K16 hK16 => ?_)
          refine zaa ?_
          refine zah rfl ?_
          refine zab (fun K hK r => ?_)
          refine ybo ?_
          refine (fail_ok _ p _ _ hr13.1).mono ?_
          rintro v48 H48 rfl
          rw [hH13]
          refine yaf ?_
          refine hK _ _ ?_; clear hK K
          refine zad ?_
          refine yab ?_
          refine hK16 _ _ ?_; try clear hK16 K16
          refine zac (fun K17 hK17 => ?_)
          refine zaa ?_
          refine zaj rfl ?_
          refine zad ?_
          refine yab ?_
          refine hK17 _ _ ?_; try clear hK17 K17
          refine zaz ?_
          refine yab ?_
          exact ⟨[_], ⟨rfl, trivial⟩, _, Le.refl _, none, hnone, rfl, none, 0, RD.bad _ _, ⟨_, (by first | rfl | exact upd_upd _ _ _ _)⟩, SameB.none _⟩
        ·first
         |(exfalso; exact cnA c34; done)
         |skip
          have hgo : (s.length = 9 → c ≤ 1) ∧ (0 < s.length → c ≠ 0) := by (try replace c34 := yad c34); first | omega | (simp_all; done) | (simp_all; omega)
          have hacc := shl_acc (p := s) hcB.1 hcB.2 hs9 hgo.1
          refine zau ?_
          refine yab ?_
          refine hK14 _ _ ?_; try clear hK14 K14
          refine zac (fun K18 hK18 => ?_)
          refine zaa ?_
          refine zah rfl ?_
          refine zah rfl ?_
          refine zab (fun K hK r => ?_)
          refine ybq ?_
          rw [and127 hcB.1 hcB.2]
          refine hK _ _ ?_; clear hK K
          refine zab (fun K hK r => ?_)
          refine ybr ?_
          refine hK _ _ ?_; clear hK K
          refine zah rfl ?_
          refine zab (fun K hK r => ?_)
          refine yaQ ?_
          refine hK _ _ ?_; clear hK K
          refine zab (fun K hK r => ?_)
          refine yaR ?_
          refine hK _ _ ?_; clear hK K
          refine zab (fun K hK r => ?_)
          refine yaS ?_
          rw [hacc.1]
          refine hK _ _ ?_; clear hK K
          refine zaj rfl ?_
          refine zad ?_
          refine yab ?_
          refine hK18 _ _ ?_; try clear hK18 K18
          refine zac (fun K19 hK19 => ?_)
          refine zaa ?_
          refine zah rfl ?_
          refine zab (fun K hK r => ?_)
          refine yac ?_
          refine hK _ _ ?_; clear hK K
          refine zad ?_
          refine yab ?_
          refine hK19 _ _ ?_; try clear hK19 K19
          refine zar (fun r => rfl) (fun c44 => ?_) (fun c44 => ?_)
          ·first
           |(exfalso; exact cnA c44; done)
           |skip
            (try replace c44 := yad c44)
            refine zac (fun K20 hK20 => ?_)
            refine zaa ?_
            refine zah rfl ?_
            refine zaj rfl ?_
            refine zad ?_
            refine yab ?_
            refine hK20 _ _ ?_; try clear hK20 K20
            refine zaz ?_
            refine yab ?_
            have hlt : c < 128 := by first | assumption | omega
            exact ⟨[_], ⟨rfl, trivial⟩, _, Le.refl _, some (valL (s ++ [c]), t), RC_good hs hcB.1 hlt (by
             by_cases h0 : s = []
             ·exact .inl h0
             ·exact .inr (hgo.2 (len_pos h0))) hacc.2, rfl, _, _, hr13, ⟨_, hH13.trans (upd_upd _ _ _ _)⟩, hsb.trans hsb13⟩
          ·first
           |(exfalso; exact cnA c44; done)
           |skip
            (try replace c44 := yad c44)
            refine zau ?_
            refine yab ?_
            refine hK7 _ _ ?_; try clear hK7 K7
            refine zaa ?_
            refine zab (fun K hK r => ?_)
            refine yaq ?_
            refine hK _ _ ?_; clear hK K
            refine zah rfl ?_
            refine zad ?_
            refine yab ?_
            refine ⟨10 - (s.length + 1), by omega, s ++ [c], t, a13, _, by simp, by simp, hs.snoc (by omega) hc255, ?_, hr13, ⟨_, hH13.trans (upd_upd _ _ _ _)⟩, hsb.trans hsb13, rfl, rfl, ?_, trivial⟩
            ·simp; omega
            ·show some (Value.int _ _) = some (Value.int _ _)
             simp
 ·first
  |(exfalso; exact cnA c9; done)
  |skip
   (try replace c9 := yad c9)
   exfalso; omega
   refine CW_exit ?_
   refine yab ?_
   refine hK3 _ _ ?_; try clear hK3 K3
   refine zac (fun K21 hK21 => ?_)
   refine zaa ?_
   refine zah rfl ?_
   refine zab (fun K hK r => ?_)
   refine ybo ?_
   refine (fail_ok _ p _ _ hr13.1).mono ?_
   rintro v48 H48 rfl
   rw [hH13]
   refine yaf ?_
   refine hK _ _ ?_; clear hK K
   refine zad ?_
   refine yab ?_
   refine hK21 _ _ ?_; try clear hK21 K21
   refine zac (fun K22 hK22 => ?_)
   refine zaa ?_
   refine zaj rfl ?_
   refine zad ?_
   refine yab ?_
   refine hK22 _ _ ?_; try clear hK22 K22
   refine zaz ?_
   refine yab ?_
   exfalso; omega
end Go.Proofs.Ytigofhhonnbkmaa.HL
end
section
namespace Go.Proofs.Ytigofhhonnbkmaa.HL
open Go Go.Proofs
set_option linter.unusedSimpArgs false
set_option linter.unusedVariables false
attribute [local irreducible] Lt Lq CW OW TW CallH
def RCb (bad : Bool) (l : List Int) (r : Option (Nat × List Int)) : Prop := (bad = true → r = none) ∧ (bad = false → RC l r)
theorem RCb.lt {bad : Bool} {l : List Int} {r : Option (Nat × List Int)} (h : RCb bad l r) : rcN r < 18446744073709551616 := by
  cases bad with
  | true => rw [h.1 rfl]; decide
  | false =>
    have := h.2 rfl
    cases r with
    | none => decide
    | some x => exact this.2
theorem rCount_all (H : Hp) (p : Nat) (a : Option Addr) (cap : Nat) (l : List Int) (bad : Bool) (hr : RD H p a cap l bad) (hB : ByteL l) (hl : l.length ≤ 10000000) : CallH Try.prog 72 #[.pointer (some ⟨p, 0, none⟩)] H (fun v H' => ∃ res, RCb bad l res ∧ v = .int .u64 (rcN res) ∧ ∃ a' cap', RD H' p a' cap' (rcL res) res.isNone ∧ (∃ o, H' = H.upd p o) ∧ SameB a a') := by
  cases bad with
  | true =>
    obtain rfl := hr.nil
    refine (rCount_bad H p a cap [] hr).mono ?_
    rintro v H' ⟨rfl, rfl⟩
    exact ⟨none, ⟨fun _ => rfl, fun h => by cases h⟩, rfl, a, cap, hr, ⟨_, (upd_id hr.1).symm⟩, SameB.refl _⟩
  | false =>
    refine (rCount_ok H p a cap l hr hB hl).mono ?_
    rintro v H' ⟨res, h1, h2, h3⟩
    exact ⟨res, ⟨(fun h => by cases h), fun _ => h1⟩, h2, h3⟩
theorem OwnS.addr {H : Hp} {E : TypeId} {w n cap m : Nat} {a : Option Addr} {cs : List Value} {rs : Option Nat} (h : OwnS H E w (.slice a m cap) n cs rs) : ∀ A, a = some A → rs = some A.block ∧ A = ⟨A.block, 0, none⟩ := by
  obtain ⟨_, ⟨h2, _, _⟩ | ⟨r, cap', c, h3, _, _, _, _, h8⟩⟩ := h
  · injection h2 with e1 e2 e3; subst e1; intro A hA; cases hA
  · injection h3 with e1 e2 e3; subst e1; intro A hA; cases hA; exact ⟨h8, rfl⟩
def endE (bad : Bool) (l : List Int) : Option Int := if bad = true ∨ l ≠ [] then some 2 else none
set_option maxRecDepth 100000 in
set_option maxHeartbeats 1000000 in
theorem rLeft_ok (H : Hp) (p : Nat) (a : Option Addr) (cap : Nat) (l : List Int) (bad : Bool) (hr : RD H p a cap l bad) : CallH Try.prog 45 #[.pointer (some ⟨p, 0, none⟩)] H (fun v H' => v = .int .i64 l.length ∧ H' = H) := by
 refine zam (l := [_]) (rl := [.tmp 2]) (n := 10) Try.func45 rfl rfl rfl rfl rfl ?_
 refine yaa ?_
 obtain ⟨hp, hcap, hh, hbad⟩ := hr
 refine zac (fun K1 hK1 => ?_)
 refine zaa ?_
 refine zaj rfl ?_
 refine zad ?_
 refine yab ?_
 refine hK1 _ _ ?_; try clear hK1 K1
 refine zac (fun K2 hK2 => ?_)
 refine zac (fun K3 hK3 => ?_)
 refine zaa ?_
 refine zah rfl ?_
 refine zab (fun K hK r => ?_)
 refine yan ?_
 rw [e_eql _ _ _ _ (by simp)]
 rw [zaM]
 first | rw [q_ptr_nil _ _ _ Try.underlying96] | rw [q_nil_ptr _ _ _ Try.underlying96]
 refine yaf ?_
 refine hK _ _ ?_; clear hK K
 refine zad ?_
 refine yab ?_
 refine hK3 _ _ ?_; try clear hK3 K3
 refine zar (fun r => rfl) (fun c4 => ?_) (fun c4 => ?_)
 ·first
  |(exfalso; exact cnA c4; done)
  |skip
   (try replace c4 := yad c4)
   refine zac (fun K4 hK4 => ?_)
   refine zaa ?_
   refine zaj rfl ?_
   refine zad ?_
   refine yab ?_
   refine hK4 _ _ ?_; try clear hK4 K4
   refine zaz ?_
   refine yab ?_
   exfalso; simp_all
 ·first
  |(exfalso; exact cnA c4; done)
  |skip
   (try replace c4 := yad c4)
   refine zau ?_
   refine yab ?_
   refine hK2 _ _ ?_; try clear hK2 K2
   refine zac (fun K5 hK5 => ?_)
   refine zaa ?_
   refine zah rfl ?_
   refine zab (fun K hK r => ?_)
   rw [zav _ _ rfl]
   refine yaj ?_
   refine hK _ _ ?_; clear hK K
   refine zab (fun K hK r => ?_)
   refine ybl ?_
   refine hK _ _ ?_; clear hK K
   refine zab (fun K hK r => ?_)
   refine yap ?_
   refine zae Try.underlying80 rfl hbA ldA ?_
   refine yaf ?_
   refine hK _ _ ?_; clear hK K
   refine zab (fun K hK r => ?_)
   refine yaO ?_
   refine hK _ _ ?_; clear hK K
   refine zaj rfl ?_
   refine zad ?_
   refine yab ?_
   refine hK5 _ _ ?_; try clear hK5 K5
   refine zaz ?_
   refine yab ?_
   exact ⟨[_], ⟨rfl, trivial⟩, _, Le.refl _, rfl, rfl⟩
set_option maxRecDepth 100000 in
set_option maxHeartbeats 1000000 in
theorem newReader_ok (H : Hp) (v : Value) (l : List Int) (hv : Holds H 1 v l.length (u8s l)) (hl : l.length ≤ 10000000) : CallH Try.prog 43 #[v] H (fun v' H' => Le H H' ∧ ∃ p a cap, v' = .pointer (some ⟨p, 0, none⟩) ∧ H p = none ∧ RD H' p a cap l false ∧ ∀ A, a = some A → H A.block = none ∧ A.block ≠ p ∧ ∃ c, H' A.block = some (.cells c 5) ∧ A = ⟨A.block, 0, none⟩) := by
 refine zam (l := [_]) (rl := [.tmp 2]) (n := 7) Try.func43 rfl rfl rfl rfl rfl ?_
 refine yaa ?_
 refine zac (fun K1 hK1 => ?_)
 refine zaa ?_
 refine zaj rfl ?_
 refine zad ?_
 refine yab ?_
 refine hK1 _ _ ?_; try clear hK1 K1
 refine zac (fun K2 hK2 => ?_)
 refine zaa ?_
 refine zah rfl ?_
 refine zab (fun K hK r => ?_)
 refine ybf ?_
 refine (clone_ok _ v l hv hl).mono ?_
 rintro v4 H4 ⟨hl4, rs4, ho4, hr4⟩
 have lH4_H : Le H H4 := hl4
 obtain ⟨a4, c4, rfl, hc4⟩ := ho4.capOk
 have ha4 := ho4.addr
 refine yaf ?_
 refine hK _ _ ?_; clear hK K
 refine zab (fun K hK r => ?_)
 simp only [x_build, bp153, List.map_toArray, List.map_cons, List.map_nil, eX, ↓reduceIte, Nat.reduceEqDiff, Int.reduceToNat]
 rw [fill_one rfl clA bdA]
 refine ybe ?_
 refine yaf ?_
 refine hK _ _ ?_; clear hK K
 refine zab (fun K hK r => ?_)
 refine yaW ?_
 intro b6 hb6
 have f6_H : H b6 = none := zag lhA hb6
 refine yaf ?_
 refine hK _ _ ?_; clear hK K
 refine zaj rfl ?_
 refine zad ?_
 refine yab ?_
 refine hK2 _ _ ?_; try clear hK2 K2
 refine zaz ?_
 refine yab ?_
 refine ⟨[_], ⟨rfl, trivial⟩, _, Le.refl _, lhA, b6, a4, c4, rfl, f6_H, ⟨zan _ _ _, hc4, ho4.holds.le (le_upd _ _ _ hb6), fun h => by cases h⟩, fun A hA => ?_⟩
 obtain ⟨h1, h2⟩ := ha4 A hA
 have hk := ho4.known _ h1
 have hne : A.block ≠ b6 := fun e => by rw [e, hb6] at hk; exact hk rfl
 have hc9 : ∃ c, H4 A.block = some (.cells c 5) := by
  obtain ⟨_, ⟨_, _, h9⟩ | ⟨r, cap', c, _, h4, _, _, _, h8⟩⟩ := ho4
  ·rw [h9] at h1; cases h1
  ·rw [h8] at h1; cases h1
   exact ⟨c, h4⟩
 obtain ⟨c9, h9⟩ := hc9
 exact ⟨hr4 _ h1, hne, c9, (zap _ _ hne).trans h9, h2⟩
end Go.Proofs.Ytigofhhonnbkmaa.HL
end
section
namespace Go.Proofs.Ytigofhhonnbkmaa.HL
open Go
set_option linter.unusedSimpArgs false
structure Rw where
  a : Option Addr
  n : Nat
  cap : Nat
  rs : Option Nat
deriving Inhabited
abbrev Rw.v (r : Rw) : Value := .slice r.a r.n r.cap
abbrev rvs (L : List Rw) : List Value := L.map Rw.v
def mkB (i t : Nat) : Int := IntKind.u8.wrap (31 * (i : Int) + 3 * (t : Int) + 1)
def mks (i n : Nat) : List Int := (List.range n).map (mkB i)
theorem mks_len (i n : Nat) : (mks i n).length = n := by simp [mks]
theorem mks_succ (i n : Nat) : mks i (n + 1) = mks i n ++ [mkB i n] := by simp [mks, List.range_succ]
theorem mks_get (i n t : Nat) (h : t < n) : (mks i n).getD t 0 = mkB i t := by
  simp [mks, List.getD_eq_getElem?_getD, List.getElem?_map, List.getElem?_range h]
theorem mks_take (i : Nat) {n m : Nat} (h : m ≤ n) : (mks i n).take m = mks i m := by
  simp [mks, ← List.map_take, List.take_range, Nat.min_eq_left h]
abbrev rw_ (L : List Rw) (i : Nat) : Rw := L.getD i default
def RowsC (E : TypeId) (H : Hp) (L : List Rw) (C : Nat → List Int) : Prop := ∀ i, i < L.length → OwnS H E 1 (rw_ L i).v (rw_ L i).n (u8s (C i)) (rw_ L i).rs
def RDis (L : List Rw) : Prop := ∀ i j, i < L.length → j < L.length → i ≠ j → ∀ r, (rw_ L i).rs = some r → (rw_ L j).rs ≠ some r
def rown (L : List Rw) (b : Nat) : Prop := ∃ i, i < L.length ∧ (rw_ L i).rs = some b
def MC (L : List Rw) (C : Nat → List Int) (k j : Nat) : Prop := ∀ i t, i < L.length → t < (rw_ L i).n → (i < k ∨ (i = k ∧ t < j)) → (C i).getD t 0 = mkB i t
theorem OwnS.len8 {H : Hp} {E : TypeId} {v : Value} {n : Nat} {l : List Int} {rs : Option Nat} (h : OwnS H E 1 v n (u8s l) rs) : l.length = n := by have := h.1; simp at this; omega
theorem RowsC.row {E : TypeId} {H : Hp} {L : List Rw} {C : Nat → List Int} (h : RowsC E H L C) {k : Nat} (hk : k < L.length) (hn : 0 < (rw_ L k).n) :
    ∃ r c, (rw_ L k).a = some ⟨r, 0, none⟩ ∧ (rw_ L k).rs = some r ∧ H r = some (.cells c E) ∧ (rw_ L k).n ≤ c.size ∧ (c.extract 0 (rw_ L k).n).toList = u8s (C k) := by
  obtain ⟨_, ⟨_, h0, _⟩ | ⟨r, cap, c, e1, e2, e3, e4, e5, e6⟩⟩ := h k hk
  · omega
  · injection e1 with e1 _ e7
    exact ⟨r, c, e1, e6, e2, by omega, by simpa using e5⟩
theorem RowsC.set {E : TypeId} {H : Hp} {L : List Rw} {C : Nat → List Int} (h : RowsC E H L C) (hd : RDis L) {k t : Nat} (hk : k < L.length) (ht : t < (rw_ L k).n) (x : Int) {r : Nat} {c : Array Value}
    (ha : (rw_ L k).a = some ⟨r, 0, none⟩) (hr : (rw_ L k).rs = some r) (hc : H r = some (.cells c E)) : RowsC E (H.upd r (.cells (c.setIfInBounds t (.int .u8 x)) E)) L (fun i => if i = k then (C k).set t x else C i) := by
  intro i hi
  by_cases e : i = k
  · subst e
    simp only [if_true]
    have h1 := h i hi
    rw [hr] at h1 ⊢
    have h2 : (rw_ L i).v = .slice (some ⟨r, 0, none⟩) (rw_ L i).n (rw_ L i).cap := by simp only [Rw.v, ha]
    rw [h2] at h1 ⊢
    exact h1.set hc t ht x
  · simp only [if_neg e]
    exact (h i hi).upd (hd k i hk hi (Ne.symm e) r hr)
theorem MC.set {L : List Rw} {C : Nat → List Int} {k j : Nat} (h : MC L C k j) (hj : j < (C k).length) : MC L (fun i => if i = k then (C k).set j (mkB k j) else C i) k (j + 1) := by
  intro i t hi ht hc
  by_cases e : i = k
  · subst e
    simp only [if_true]
    by_cases e2 : t = j
    · subst e2
      simp [List.getD_eq_getElem?_getD, List.getElem?_set_self hj]
    · have := h i t hi ht (by omega)
      rw [← this]
      simp [List.getD_eq_getElem?_getD, List.getElem?_set_ne (Ne.symm e2)]
  · simp only [if_neg e]
    exact h i t hi ht (by omega)
theorem MC.next {L : List Rw} {C : Nat → List Int} {k : Nat} (h : MC L C k (rw_ L k).n) : MC L C (k + 1) 0 := by
  intro i t hi ht hc
  refine h i t hi ht ?_
  rcases hc with hc | hc
  · by_cases e : i = k
    · subst e; exact .inr ⟨rfl, ht⟩
    · exact .inl (by omega)
  · omega
theorem MC.all {E : TypeId} {H : Hp} {L : List Rw} {C : Nat → List Int} (h : RowsC E H L C) (hm : MC L C L.length 0) : RowsC E H L (fun i => mks i (rw_ L i).n) := by
  intro i hi
  have h1 := h i hi
  have e : C i = mks i (rw_ L i).n := by
    apply List.ext_getElem?
    intro t
    by_cases ht : t < (rw_ L i).n
    · have h2 := hm i t hi ht (.inl hi)
      have h3 : t < (C i).length := by rw [h1.len8]; exact ht
      have h4 : t < (mks i (rw_ L i).n).length := by rw [mks_len]; exact ht
      have h5 := mks_get i (rw_ L i).n t ht
      rw [List.getElem?_eq_getElem h3, List.getElem?_eq_getElem h4]
      have g : ∀ (l : List Int) (h : t < l.length), l.getD t 0 = l[t] := fun l h => by simp [List.getD_eq_getElem?_getD, List.getElem?_eq_getElem h]
      rw [g _ h3] at h2
      rw [g _ h4] at h5
      rw [h2, h5]
    · rw [List.getElem?_eq_none (by rw [h1.len8]; omega), List.getElem?_eq_none (by rw [mks_len]; omega)]
  simp only [← e]; exact h1
abbrev mksOf (X : List Rw) : Nat → List Int := fun i => mks i (rw_ X i).n
theorem rw_set {X : List Rw} {k : Nat} {y : Rw} (hk : k < X.length) (i : Nat) : rw_ (X.set k y) i = if i = k then y else rw_ X i := by
  by_cases e : i = k
  · subst e; simp [List.getD_eq_getElem?_getD, List.getElem?_set_self hk]
  · rw [if_neg e]; simp [List.getD_eq_getElem?_getD, List.getElem?_set_ne (Ne.symm e)]
theorem Holds.le' {H H' : Hp} {w n cap : Nat} {a : Option Addr} {cs : List Value} (h : Holds H w (.slice a n cap) n cs) (k : ∀ A o, a = some A → H A.block = some o → H' A.block = some o) : Holds H' w (.slice a n cap) n cs := by
  obtain ⟨h1, h2 | ⟨b, o, cap', c, T, f, e, h4, h5⟩⟩ := h
  · exact ⟨h1, .inl h2⟩
  · cases e
    exact ⟨h1, .inr ⟨b, o, _, c, T, f, rfl, k _ _ rfl h4, h5⟩⟩
def gext (k t i : Nat) : Nat := if i < k then 10 else if i = k then t else 0
structure GI (E : TypeId) (H0 H : Hp) (L X : List Rw) (k t : Nat) : Prop where
  len : X.length = L.length
  rows : RowsC E H X (mksOf X)
  dis : RDis X
  ns : ∀ i, i < L.length → (rw_ X i).n = (rw_ L i).n + gext k t i
  old : ∀ i, i < L.length → Holds H 1 (rw_ L i).v (rw_ L i).n (u8s (mks i (rw_ L i).n))
  eq : ∀ i, i < L.length → gext k t i = 0 → rw_ X i = rw_ L i
  fresh : ∀ i, i < L.length → ∀ r, (rw_ X i).rs = some r → (rw_ L i).rs = some r ∨ H0 r = none
  frame : ∀ b o, H0 b = some o → ¬ rown L b → H b = some o
  kn : ∀ b, H b = none → H0 b = none
theorem Grow.none {H H' : Hp} {rs : Option Nat} (h : Grow H rs H') : ∀ b, H' b = none → H b = none := by
  intro b hb
  rcases h with rfl | ⟨r, o, _, rfl⟩
  · exact hb
  · by_cases e : b = r
    · subst e; rw [zan] at hb; cases hb
    · rwa [zap _ _ e] at hb
theorem Holds.pref {H : Hp} {E : TypeId} {v : Value} {n m : Nat} {i : Nat} {r : Nat} {cap : Nat} (h : OwnS H E 1 v n (u8s (mks i n)) (some r)) (hm : m ≤ n) : Holds H 1 (.slice (some ⟨r, 0, none⟩) m cap) m (u8s (mks i m)) := by
  obtain ⟨_, ⟨_, _, h0⟩ | ⟨r', cap', c, e1, e2, e3, e4, e5, e6⟩⟩ := h
  · cases h0
  · cases e6
    refine ⟨by simp [mks_len], .inr ⟨r, 0, cap, c, E, _, rfl, e2, by omega, ?_⟩⟩
    have : (c.extract 0 m).toList = (u8s (mks i n)).take m := by
      rw [← e5]; simp [Array.toList_extract, List.extract_eq_take_drop, List.take_take, Nat.min_eq_left hm]
    simp only [Nat.zero_add, Nat.mul_one]
    rw [this, u8s, ← List.map_take, mks_take i hm]
theorem GI.grow {E : TypeId} {H0 H H' : Hp} {L X : List Rw} {k t : Nat} (g : GI E H0 H L X k t) (hk : k < L.length) (hL : ∀ i, i < L.length → (rw_ L i).n = 0 ∨ ∃ r, (rw_ L i).a = some ⟨r, 0, none⟩ ∧ (rw_ L i).rs = some r)
    (hdL : RDis L) (hkn : ∀ i, i < L.length → ∀ r, (rw_ L i).rs = some r → H0 r ≠ none) {a' : Option Addr} {cap' : Nat} {rs' : Option Nat} (hg : Grow H (rw_ X k).rs H') (ho : OwnS H' E 1 (.slice a' ((rw_ X k).n + 1) cap') ((rw_ X k).n + 1) (u8s (mks k (rw_ X k).n) ++ [.int .u8 (mkB k (rw_ X k).n)]) rs')
    (hr : ∀ r, rs' = some r → (rw_ X k).rs = some r ∨ H r = none) : GI E H0 H' L (X.set k ⟨a', (rw_ X k).n + 1, cap', rs'⟩) k (t + 1) := by
  have hkx : k < X.length := by rw [g.len]; exact hk
  have ho' : OwnS H' E 1 (.slice a' ((rw_ X k).n + 1) cap') ((rw_ X k).n + 1) (u8s (mks k ((rw_ X k).n + 1))) rs' := by
    rw [mks_succ, u8s, List.map_append]; exact ho
  -- blocks of other rows stand
  have stay : ∀ i, i < L.length → i ≠ k → ∀ b o, (rw_ X i).rs = some b → H b = some o → H' b = some o := fun i hi hik b o hb hbo =>
    hg.known b o hbo (fun e => g.dis k i hkx (by rw [g.len]; exact hi) (Ne.symm hik) b e hb)
  refine ⟨by simp [g.len], ?_, ?_, ?_, ?_, ?_, ?_, ?_, fun b hb => g.kn b (hg.none b hb)⟩
  · intro i hi
    have hi' : i < L.length := by simp [g.len] at hi; exact hi
    simp only [mksOf, rw_set hkx]
    by_cases e : i = k
    · subst e; simp only [if_true]; exact ho'
    · simp only [if_neg e]; exact (g.rows i (by rw [g.len]; exact hi')).stay (stay i hi' e)
  · intro i j hi hj hij r
    have hi' : i < L.length := by simp [g.len] at hi; exact hi
    have hj' : j < L.length := by simp [g.len] at hj; exact hj
    rw [rw_set hkx, rw_set hkx]
    by_cases e : i = k
    · subst e
      rw [if_pos rfl, if_neg (Ne.symm hij)]
      intro h1 h2
      rcases hr r h1 with h3 | h3
      · exact g.dis i j hkx (by rw [g.len]; exact hj') hij r h3 h2
      · exact (g.rows j (by rw [g.len]; exact hj')).known r h2 h3
    · rw [if_neg e]
      by_cases e2 : j = k
      · subst e2
        rw [if_pos rfl]
        intro h1 h2
        rcases hr r h2 with h3 | h3
        · exact g.dis i j (by rw [g.len]; exact hi') hkx hij r h1 h3
        · exact (g.rows i (by rw [g.len]; exact hi')).known r h1 h3
      · rw [if_neg e2]
        exact g.dis i j (by rw [g.len]; exact hi') (by rw [g.len]; exact hj') hij r
  · intro i hi
    rw [rw_set hkx]
    by_cases e : i = k
    · subst e; rw [if_pos rfl]
      have := g.ns i hi
      simp only [gext, Nat.lt_irrefl, if_false, if_true] at this ⊢; omega
    · rw [if_neg e]
      have := g.ns i hi
      simp only [gext, e, if_false] at this ⊢; exact this
  · intro i hi
    have hold := g.old i hi
    rcases hL i hi with h0 | ⟨r, ha, hrs⟩
    · have e0 : mks i (rw_ L i).n = [] := by rw [h0]; rfl
      refine ⟨by rw [e0, h0]; rfl, .inl ⟨(rw_ L i).a, (rw_ L i).cap, ?_, h0⟩⟩
      rw [Rw.v, h0]
    · by_cases e : i = k
      · subst e
        by_cases e2 : rs' = some r
        · rw [e2] at ho'
          have hle : (rw_ L i).n ≤ (rw_ X i).n + 1 := by have := g.ns i hi; omega
          have := Holds.pref (cap := (rw_ L i).cap) ho' hle
          rw [Rw.v, ha]; exact this
        · rw [Rw.v] at hold ⊢
          refine hold.le' ?_
          intro A o hA hAo
          rw [ha] at hA; cases hA
          rcases hg with rfl | ⟨r2, o2, h2, rfl⟩
          · exact hAo
          · rw [zap _ _ ?_]; exact hAo
            intro e3
            simp only at e3
            subst e3
            -- the block that was changed is r: so it is the new slice's
            obtain ⟨_, ⟨_, h5, _⟩ | ⟨r4, _, _, _, h6, _, _, _, h7⟩⟩ := ho'
            · omega
            · rcases hr r4 h7 with h8 | h8
              · rcases h2 with h2 | h2
                · rw [h2] at h8; cases h8; exact e2 h7
                · rw [h2] at hAo; cases hAo
              · by_cases e5 : r4 = r
                · subst e5; exact e2 h7
                · rw [zap _ _ e5, h8] at h6; cases h6
      · rw [Rw.v] at hold ⊢
        refine hold.le' ?_
        intro A o hA hAo
        rw [ha] at hA; cases hA
        refine hg.known _ _ hAo (fun e2 => ?_)
        rcases g.fresh k hk r e2 with h3 | h3
        · exact hdL k i hk hi (Ne.symm e) r h3 hrs
        · exact hkn i hi r hrs h3
  · intro i hi h0
    rw [rw_set hkx]
    by_cases e : i = k
    · subst e; simp [gext] at h0
    · rw [if_neg e]
      refine g.eq i hi ?_
      simpa [gext, e] using h0
  · intro i hi r
    rw [rw_set hkx]
    by_cases e : i = k
    · subst e; rw [if_pos rfl]
      intro h1
      rcases hr r h1 with h3 | h3
      · exact g.fresh i hi r h3
      · exact .inr (g.kn r h3)
    · rw [if_neg e]; exact g.fresh i hi r
  · intro b o hb hn
    refine hg.known b o (g.frame b o hb hn) (fun e => ?_)
    rcases g.fresh k hk b e with h3 | h3
    · exact hn ⟨k, hk, h3⟩
    · rw [hb] at h3; cases h3
theorem GI.next {E : TypeId} {H0 H : Hp} {L X : List Rw} {k : Nat} (g : GI E H0 H L X k 10) : GI E H0 H L X (k + 1) 0 := by
  have e : ∀ i, gext (k + 1) 0 i = gext k 10 i := fun i => by
    unfold gext
    by_cases h : i < k
    · rw [if_pos h, if_pos (by omega)]
    · by_cases h2 : i = k
      · rw [if_pos (by omega), if_neg h, if_pos h2]
      · rw [if_neg (by omega), if_neg h, if_neg h2]; simp
  exact ⟨g.len, g.rows, g.dis, fun i hi => by rw [e]; exact g.ns i hi, g.old, fun i hi h => g.eq i hi (by rw [← e]; exact h), g.fresh, g.frame, g.kn⟩
theorem GI.keep {E : TypeId} {H0 H H' : Hp} {L X : List Rw} {k t : Nat} (g : GI E H0 H L X k t) (hs : ∀ b o, H b = some o → (rown L b ∨ rown X b ∨ H0 b ≠ none) → H' b = some o)
    (hL : ∀ i, i < L.length → (rw_ L i).n = 0 ∨ ∃ r, (rw_ L i).a = some ⟨r, 0, none⟩ ∧ (rw_ L i).rs = some r) (hk : ∀ b, H' b = none → H b = none) : GI E H0 H' L X k t := by
  refine ⟨g.len, fun i hi => (g.rows i hi).stay (fun b o hb ho => hs b o ho (.inr (.inl ⟨i, hi, hb⟩))), g.dis, g.ns, fun i hi => ?_, g.eq, g.fresh, fun b o hb hn => hs b o (g.frame b o hb hn) (.inr (.inr (by rw [hb]; simp))), fun b hb => g.kn b (hk b hb)⟩
  rcases hL i hi with h0 | ⟨r, ha, hrs⟩
  · have e0 : mks i (rw_ L i).n = [] := by rw [h0]; rfl
    refine ⟨by rw [e0, h0]; rfl, .inl ⟨(rw_ L i).a, (rw_ L i).cap, ?_, h0⟩⟩
    rw [Rw.v, h0]
  · have hold := g.old i hi
    rw [Rw.v] at hold ⊢
    refine hold.le' ?_
    intro A o hA hAo
    rw [ha] at hA; cases hA
    exact hs _ _ hAo (.inl ⟨i, hi, hrs⟩)
theorem GI.start {E : TypeId} {H0 H : Hp} {L : List Rw} (h : RowsC E H L (mksOf L)) (hd : RDis L) (hf : ∀ b o, H0 b = some o → ¬ rown L b → H b = some o) : GI E H0 H L L 0 0 := by
  have hkn : ∀ b, H b = none → H0 b = none := fun b hb => by
    cases ho : H0 b with
    | none => rfl
    | some o =>
      by_cases e : rown L b
      · obtain ⟨i, hi, h1⟩ := e
        exact absurd hb ((h i hi).known b h1)
      · rw [hf b o ho e] at hb; cases hb
  refine ⟨rfl, h, hd, fun i _ => by simp [gext], fun i hi => (h i hi).holds, fun _ _ _ => rfl, fun i _ r hr => .inl hr, hf, hkn⟩
theorem upd_none {H : Hp} {x b : Nat} {o : Obj} (h : H.upd x o b = none) : H b = none := by
  by_cases e : b = x
  · subst e; rw [zan] at h; cases h
  · rwa [zap _ _ e] at h
theorem GI.new {E : TypeId} {H0 H : Hp} {L X : List Rw} {k t : Nat} (g : GI E H0 H L X k t) (hL : ∀ i, i < L.length → (rw_ L i).n = 0 ∨ ∃ r, (rw_ L i).a = some ⟨r, 0, none⟩ ∧ (rw_ L i).rs = some r) {b : Nat} (hb : H b = none) (o : Obj) : GI E H0 (H.upd b o) L X k t :=
  g.keep (fun x o' hx _ => (zap _ _ (zaf hx hb)).trans hx) hL (fun _ h => upd_none h)
theorem RowsC.form {E : TypeId} {H : Hp} {L : List Rw} {C : Nat → List Int} (h : RowsC E H L C) : ∀ i, i < L.length → (rw_ L i).n = 0 ∨ ∃ r, (rw_ L i).a = some ⟨r, 0, none⟩ ∧ (rw_ L i).rs = some r := by
  intro i hi
  by_cases e : (rw_ L i).n = 0
  · exact .inl e
  · obtain ⟨r, c, h1, h2, _⟩ := h.row hi (by omega)
    exact .inr ⟨r, h1, h2⟩
theorem zaK {P : Program} {H : Hp} {t e : TypeId} (hu : P.underlying t = some (.slice e)) {m : Nat} (hs : szOf P e = some m) {a : Option Addr} {b o n cap : Nat} (ha : a = some ⟨b, o, none⟩) {k : IntKind} {i : Int} (h0 : 0 ≤ i) (h1 : i < n) {K : Value → Hp → Prop}
    (h : K (.pointer (some ⟨b, o + i.toNat * m, none⟩)) H) : Lt P (Instr.indexAt t (.slice a n cap) (.int k i)) H K := by
  subst ha
  refine Lt_indexS hu hs h0 h1 ?_
  rw [zaH]; exact h
end Go.Proofs.Ytigofhhonnbkmaa.HL
end
section
namespace Go.Proofs.Ytigofhhonnbkmaa.HL
open Go
set_option linter.unusedSimpArgs false
set_option linter.unusedVariables false
structure Mf where
  gen : Int
  ep : Int
  ba : Int
  ar : Int
  ln : Int
  hd : List Int
deriving DecidableEq, Inhabited
def cnts (l : List Int) : List Int := l.flatMap fun x => cnt x.toNat
def Mf.five (m : Mf) : List Int := [m.ep, m.ba, m.ar, m.ln, (m.hd.length : Int)]
def Mf.nums (m : Mf) : List Int := m.five ++ m.hd
def Mf.by_ (m : Mf) : List Int := cnts m.nums ++ [77]
def wi (n a b : Int) : Bool := decide (a ≤ n ∧ n ≤ b)
def hdOk (x : Int) : Bool := wi x 0 4294967294
def Mf.good (m : Mf) : Bool := wi m.gen 1 17179869183 && wi m.ep 1 65535 && wi m.ba 0 281474976710655 && wi m.ar 0 1 && wi m.ln 0 1048576 && wi m.hd.length 1 4 && m.hd.all hdOk
structure Mf.Ok (m : Mf) : Prop where
  g : 1 ≤ m.gen ∧ m.gen ≤ 17179869183
  e : 1 ≤ m.ep ∧ m.ep ≤ 65535
  b : 0 ≤ m.ba ∧ m.ba ≤ 281474976710655
  a : 0 ≤ m.ar ∧ m.ar ≤ 1
  l : 0 ≤ m.ln ∧ m.ln ≤ 1048576
  n : 1 ≤ m.hd.length ∧ m.hd.length ≤ 4
  h : ∀ x ∈ m.hd, 0 ≤ x ∧ x ≤ 4294967294
theorem wi_iff {n a b : Int} : wi n a b = true ↔ a ≤ n ∧ n ≤ b := by unfold wi; simp
theorem Mf.good_iff {m : Mf} : m.good = true ↔ m.Ok := by
  unfold Mf.good
  simp only [Bool.and_eq_true, wi_iff, List.all_eq_true, hdOk]
  constructor
  · rintro ⟨⟨⟨⟨⟨⟨h1, h2⟩, h3⟩, h4⟩, h5⟩, h6⟩, h7⟩
    exact ⟨h1, h2, h3, h4, h5, ⟨by omega, by omega⟩, h7⟩
  · rintro ⟨h1, h2, h3, h4, h5, h6, h7⟩
    exact ⟨⟨⟨⟨⟨⟨h1, h2⟩, h3⟩, h4⟩, h5⟩, by omega⟩, h7⟩
def Mf.bad (m : Mf) : Option Int := if m.good = true then none else some 2
def Mf.sealB (m : Mf) : List Int := if m.good = true then sealI m.gen 3 m.by_ else zeroS
theorem cnts_nil : cnts [] = [] := rfl
theorem cnts_cons (x : Int) (l : List Int) : cnts (x :: l) = cnt x.toNat ++ cnts l := by simp [cnts]
theorem cnts_app (l k : List Int) : cnts (l ++ k) = cnts l ++ cnts k := by simp [cnts]
theorem cnt_small : ∀ (k n : Nat), n < 128 ^ (k + 1) → (cnt n).length ≤ k + 1
  | 0, n, h => by rw [cnt_lt (by simpa using h)]; simp
  | k + 1, n, h => by
    by_cases hn : n < 128
    · rw [cnt_lt hn]; simp
    · rw [cnt_ge hn]
      have := cnt_small k (n / 128) (by rw [Nat.pow_succ] at h; omega)
      simp only [List.length_cons]; omega
theorem cnts_small : ∀ {l : List Int}, (∀ x ∈ l, 0 ≤ x ∧ x ≤ 4294967294) → (cnts l).length ≤ 5 * l.length
  | [], _ => by simp [cnts]
  | x :: l, h => by
    have ih := cnts_small (l := l) (fun y hy => h y (by simp [hy]))
    have hx := h x (by simp)
    have := cnt_small 4 x.toNat (by omega)
    rw [cnts_cons, List.length_append, List.length_cons]; omega
theorem cnts_byte (l : List Int) : ByteL (cnts l) := by
  intro x hx
  obtain ⟨y, _, hy⟩ := List.mem_flatMap.1 hx
  exact cnt_bytes _ x hy
theorem Mf.by_byte (m : Mf) : ByteL m.by_ := by
  intro x hx
  rcases List.mem_append.1 hx with h | h
  · exact cnts_byte _ x h
  · simp at h; omega
theorem Mf.by_eq (m : Mf) : m.by_ = cnt m.ep.toNat ++ (cnt m.ba.toNat ++ (cnt m.ar.toNat ++ (cnt m.ln.toNat ++ (cnt m.hd.length ++ (cnts m.hd ++ [77]))))) := by
  unfold Mf.by_ Mf.nums Mf.five
  simp only [List.cons_append, List.nil_append, cnts_cons, List.append_assoc, Int.toNat_natCast]
theorem Mf.Ok.len {m : Mf} (h : m.Ok) : m.by_.length ≤ 36 := by
  obtain ⟨hg, he, hb, ha, hl, hn, hh⟩ := h
  have h1 := cnt_small 2 m.ep.toNat (by omega)
  have h2 := cnt_small 6 m.ba.toNat (by omega)
  have h3 := cnt_small 0 m.ar.toNat (by omega)
  have h4 := cnt_small 2 m.ln.toNat (by omega)
  have h5 := cnt_small 0 m.hd.length (by omega)
  have h6 := cnts_small hh
  rw [m.by_eq]
  simp only [List.length_append, List.length_singleton]
  omega
theorem Mf.Ok.fine {m : Mf} (h : m.Ok) : badI m.gen 3 m.by_ = none := by
  have := h.len
  have := h.g
  unfold badI
  rw [if_neg (by omega), if_neg (by omega)]
theorem Mf.Ok.seal {m : Mf} (h : m.Ok) : m.sealB = sealL m.gen 3 m.by_ := by
  unfold Mf.sealB
  rw [if_pos (good_iff.2 h)]
  unfold sealI
  rw [h.fine]
theorem Mf.seal_len (m : Mf) : m.sealB.length = 64 := by
  unfold Mf.sealB
  split
  · exact sealI_len _ _ _
  · rfl
theorem zeroS_byte : ByteL zeroS := fun x hx => by
  have : x ∈ List.replicate 64 (0 : Int) := hx
  rw [List.mem_replicate] at this
  rw [this.2]; decide
theorem Mf.seal_byte (m : Mf) : ByteL m.sealB := by
  by_cases h : m.good = true
  · have h := good_iff.1 h
    rw [h.seal]
    exact sealL_byte m.by_byte h.fine
  · unfold Mf.sealB; rw [if_neg h]; exact zeroS_byte
theorem Mf.Ok.open {m : Mf} (h : m.Ok) : openI m.sealB = some (m.gen, 3, m.by_) := by
  rw [h.seal]; exact open_seal h.fine
theorem cnts_inj : ∀ {l k x y : List Int}, (∀ z ∈ l, 0 ≤ z) → (∀ z ∈ k, 0 ≤ z) → l.length = k.length → cnts l ++ x = cnts k ++ y → l = k ∧ x = y
  | [], [], _, _, _, _, _, h => ⟨rfl, by simpa [cnts] using h⟩
  | a :: l, b :: k, x, y, hl, hk, hn, h => by
    rw [cnts_cons, cnts_cons, List.append_assoc, List.append_assoc] at h
    obtain ⟨h1, h2⟩ := cnt_pref h
    obtain ⟨h3, h4⟩ := cnts_inj (l := l) (k := k) (fun z hz => hl z (by simp [hz])) (fun z hz => hk z (by simp [hz])) (by simpa using hn) h2
    have := hl a (by simp)
    have := hk b (by simp)
    exact ⟨by rw [h3, show a = b by omega], h4⟩
  | [], _ :: _, _, _, _, _, hn, _ => by simp at hn
  | _ :: _, [], _, _, _, _, hn, _ => by simp at hn
theorem Mf.by_inj {m n : Mf} (hm : m.Ok) (hn : n.Ok) (h : m.by_ = n.by_) : m.ep = n.ep ∧ m.ba = n.ba ∧ m.ar = n.ar ∧ m.ln = n.ln ∧ m.hd = n.hd := by
  rw [m.by_eq, n.by_eq] at h
  obtain ⟨h1, h⟩ := cnt_pref h
  obtain ⟨h2, h⟩ := cnt_pref h
  obtain ⟨h3, h⟩ := cnt_pref h
  obtain ⟨h4, h⟩ := cnt_pref h
  obtain ⟨h5, h⟩ := cnt_pref h
  obtain ⟨h6, _⟩ := cnts_inj (fun z hz => (hm.h z hz).1) (fun z hz => (hn.h z hz).1) h5 h
  have := hm.e; have := hm.b; have := hm.a; have := hm.l
  have := hn.e; have := hn.b; have := hn.a; have := hn.l
  exact ⟨by omega, by omega, by omega, by omega, h6⟩
theorem Mf.seal_inj {m n : Mf} (hm : m.Ok) (hn : n.Ok) (h : m.sealB = n.sealB) : m = n := by
  have h1 := hm.open
  rw [h, hn.open] at h1
  injection h1 with h1
  injection h1 with h2 h3
  injection h3 with h3 h4
  obtain ⟨e1, e2, e3, e4, e5⟩ := Mf.by_inj hm hn h4.symm
  cases m; cases n
  simp only at *
  subst e1 e2 e3 e4 e5 h2
  rfl
open Classical in
noncomputable def opM (L : List Int) : Option Mf := if h : ∃ m : Mf, m.Ok ∧ L = m.sealB then some h.choose else none
theorem opM_some {L : List Int} {m : Mf} (h : m.Ok) (e : L = m.sealB) : opM L = some m := by
  unfold opM
  have hx : ∃ m : Mf, m.Ok ∧ L = m.sealB := ⟨m, h, e⟩
  rw [dif_pos hx]
  exact congrArg some (Mf.seal_inj hx.choose_spec.1 h (hx.choose_spec.2.symm.trans e))
theorem opM_none {L : List Int} (h : ∀ m : Mf, m.Ok → L ≠ m.sealB) : opM L = none := by
  unfold opM
  rw [dif_neg]
  rintro ⟨m, h1, h2⟩
  exact h m h1 h2
theorem opM_of {L : List Int} {m : Mf} (h : opM L = some m) : m.Ok ∧ L = m.sealB := by
  unfold opM at h
  split at h
  · rename_i hx
    injection h with h
    rw [← h]
    exact hx.choose_spec
  · cases h
theorem opM_seal {m : Mf} (h : m.Ok) : opM m.sealB = some m := opM_some h rfl
noncomputable def opMv (L : List Int) : Mf := (opM L).getD default
noncomputable def opMe (L : List Int) : Option Int := if (opM L).isSome = true then none else some 9
theorem opM_Ok {L : List Int} (h : (opM L).isSome = true) : (opMv L).Ok ∧ L = (opMv L).sealB := by
  unfold opMv
  cases e : opM L with
  | none => rw [e] at h; cases h
  | some m => exact opM_of e
/-! ### readings -/
theorem and62 {u : Nat} (h : u < 18446744073709551616) : IntKind.i64.wrap (IntKind.u64.wrap (BitVec.ofInt IntKind.u64.bits (u : Int) &&& BitVec.ofInt IntKind.u64.bits 4611686018427387903).toNat) = ((u % 4611686018427387904 : Nat) : Int) := by
  show IntKind.i64.wrap (IntKind.u64.wrap (((BitVec.ofInt 64 (u : Int) &&& BitVec.ofInt 64 4611686018427387903).toNat : Nat) : Int)) = _
  have e1 : (BitVec.ofInt 64 (u : Int) &&& BitVec.ofInt 64 4611686018427387903).toNat = u % 4611686018427387904 := by
    rw [BitVec.toNat_and, BitVec.toNat_ofInt, BitVec.toNat_ofInt]
    have e2 : ((u : Int) % ((2 ^ 64 : Nat) : Int)).toNat = u := by omega
    have e3 : ((4611686018427387903 : Int) % ((2 ^ 64 : Nat) : Int)).toNat = 2 ^ 62 - 1 := by decide
    rw [e2, e3, Nat.and_two_pow_sub_one_eq_mod]
  rw [e1, w_u64, w_i64]; omega
def smN (r : Option (Nat × List Int)) : Int := match r with | some (u, _) => ((u % 4611686018427387904 : Nat) : Int) | none => 0
def cN (r : Option (Nat × List Int)) : Int := match r with | some (u, _) => if u > 1125899906842624 then -1 else (u : Int) | none => 0
end Go.Proofs.Ytigofhhonnbkmaa.HL
end
section
namespace Go.Proofs.Ytigofhhonnbkmaa.HL
open Go Go.Proofs
set_option linter.unusedSimpArgs false
set_option linter.unusedVariables false
attribute [local irreducible] Lt Lq CW OW TW CallH
set_option maxRecDepth 100000 in
set_option maxHeartbeats 1000000 in
theorem within_ok (H : Hp) (n a b : Int) : CallH Try.prog 39 #[.int .i64 n, .int .i64 a, .int .i64 b] H (fun v H' => v = .bool (wi n a b) ∧ H' = H) := by
 refine zam (l := [_, _, _]) (rl := [.tmp 6]) (n := 15) Try.func39 rfl rfl rfl rfl rfl ?_
 refine yaa ?_
 refine zac (fun K1 hK1 => ?_)
 refine zaa ?_
 refine zaj rfl ?_
 refine zad ?_
 refine yab ?_
 refine hK1 _ _ ?_; try clear hK1 K1
 refine zac (fun K2 hK2 => ?_)
 refine zaa ?_
 refine zah rfl ?_
 refine zah rfl ?_
 refine zab (fun K hK r => ?_)
 refine yav ?_
 refine hK _ _ ?_; clear hK K
 refine zah rfl ?_
 (first | refine zaA (d := 10) rfl (fun g10 => ?_) (fun g10 => ?_) | skip)
 all_goals try (exfalso; exact cnA g10)
 all_goals (try replace g10 := yad g10)
 all_goals
  refine yaf ?_
  first
  |refine yGT (fun K hK r => ?_)
   refine yai ?_
   refine hK _ _ ?_; clear hK K
  |refine yGF ?_
   refine yaj ?_
  first
  |refine yGT (fun K hK r => ?_)
   refine yai ?_
   refine hK _ _ ?_; clear hK K
  |refine yGF ?_
   refine yaj ?_
  first
  |refine yGT (fun K hK r => ?_)
   refine yaC ?_
   refine hK _ _ ?_; clear hK K
  |refine yGF ?_
   refine yaj ?_
  refine zab (fun K hK r => ?_)
  refine yal ?_
  refine hK _ _ ?_; clear hK K
  refine zaj rfl ?_
  refine zad ?_
  refine yab ?_
  refine hK2 _ _ ?_; try clear hK2 K2
  refine zaz ?_
  refine yab ?_
  refine ⟨[_], ⟨rfl, trivial⟩, _, Le.refl _, ?_, rfl⟩
  show Value.bool _ = Value.bool _
  congr 1
  unfold wi
  first
  |(simp only [decide_eq_decide]; omega)
  |(symm; rw [decide_eq_false_iff_not]; omega)
  |(simp only [Bool.false_eq, decide_eq_false_iff_not]; omega)
theorem ybs {p q : Prop} (h : q) (e : p = q := by simp only [zaF _ bd39, List.map_toArray, List.map_cons, List.map_nil, eX, ↓reduceIte, Nat.reduceEqDiff, Int.reduceToNat]; exact rfl) : p := e.mpr h
set_option maxRecDepth 100000 in
set_option maxHeartbeats 1000000 in
theorem far_ok (H : Hp) (n : Int) : CallH Try.prog 38 #[.int .i64 n] H (fun v H' => v = .bool (!hdOk n) ∧ H' = H) := by
 refine zam (l := [_]) (rl := [.tmp 2]) (n := 6) Try.func38 rfl rfl rfl rfl rfl ?_
 refine yaa ?_
 refine zac (fun K1 hK1 => ?_)
 refine zaa ?_
 refine zaj rfl ?_
 refine zad ?_
 refine yab ?_
 refine hK1 _ _ ?_; try clear hK1 K1
 refine zac (fun K2 hK2 => ?_)
 refine zaa ?_
 refine zah rfl ?_
 refine zab (fun K hK r => ?_)
 refine ybs ?_
 refine (within_ok _ n 0 4294967294).mono ?_
 rintro v H' ⟨rfl, rfl⟩
 refine yaf ?_
 refine hK _ _ ?_; clear hK K
 refine zab (fun K hK r => ?_)
 refine yam ?_
 refine hK _ _ ?_; clear hK K
 refine zaj rfl ?_
 refine zad ?_
 refine yab ?_
 refine hK2 _ _ ?_; try clear hK2 K2
 refine zaz ?_
 refine yab ?_
 refine ⟨[_], ⟨rfl, trivial⟩, _, Le.refl _, ?_, rfl⟩
 rfl
theorem ybt {p q : Prop} (h : q) (e : p = q := by simp only [x_builtin, l_len, List.map_toArray, List.map_cons, List.map_nil, i_len_slice _ _ Try.underlying22, eX, ↓reduceIte, Nat.reduceEqDiff, Int.reduceToNat]; exact rfl) : p := e.mpr h
theorem ybu {p q : Prop} (h : q) (e : p = q := by simp only [x_call, List.map_toArray, List.map_cons, List.map_nil, eX, ↓reduceIte, Nat.reduceEqDiff, Int.reduceToNat]; exact rfl) : p := e.mpr h
set_option maxRecDepth 100000 in
set_option maxHeartbeats 1000000 in
theorem indexI_ok (H : Hp) (a : Option Addr) (cap : Nat) (l : List Int) (hv : Holds H 1 (.slice a l.length cap) l.length (i64s l)) (gf : Fn) (ga gb : Array Value) (P : Int → Bool) (hP : ∀ k, ValH Try.prog (.func gf ga gb) #[.int .i64 k] H (fun v H' => v = .bool (P k) ∧ H' = H)) (hl : l.length ≤ 1000000) :
 CallH Try.prog 70 #[.slice a l.length cap, .func gf ga gb] H (fun v H' => H' = H ∧ ∃ ix : Int, v = .int .i64 ix ∧ ((0 ≤ ix ∧ l.any P = true) ∨ (ix = -1 ∧ l.any P = false))) := by
 refine zam (l := [_, _]) (rl := [.tmp 4]) (n := 19) Try.func70 rfl rfl rfl rfl rfl ?_
 refine yaa ?_
 refine zac (fun K1 hK1 => ?_)
 refine zaa ?_
 refine zaj rfl ?_
 refine zad ?_
 refine yab ?_
 refine hK1 _ _ ?_; try clear hK1 K1
 refine zac (fun K2 hK2 => ?_)
 refine zac (fun K3 hK3 => ?_)
 refine zaa ?_
 refine zah rfl ?_
 refine zab (fun K hK r => ?_)
 refine ybt ?_
 refine hK _ _ ?_; clear hK K
 refine zah rfl ?_
 refine zad ?_
 refine yab ?_
 refine hK3 _ _ ?_; try clear hK3 K3
 refine zaB ?_
 refine CW_loop (fun m e H_ => ∃ k : Nat, k ≤ l.length ∧ m = l.length - k ∧ (l.take k).any P = false ∧ H_ = H ∧ Env.has [(0, .slice a l.length cap), (1, .func gf ga gb), (7, .int .i64 l.length), (8, .int .i64 k)] e) (l.length) ?_ ?_
 ·skip
  exact ⟨0, by omega, by omega, by simp, rfl, rfl, rfl, rfl, rfl, trivial⟩
 intro m_ e_ H_ hI_
 obtain ⟨k, hk, rfl, hno, hH_, he⟩ := hI_
 have hH_ := hH_.symm; subst hH_
 refine CW_env he.sub ?_; clear he e_
 refine zac (fun K4 hK4 => ?_)
 refine zaa ?_
 refine zab (fun K hK r => ?_)
 refine yac ?_
 refine hK _ _ ?_; clear hK K
 refine zad ?_
 refine yab ?_
 refine hK4 _ _ ?_; try clear hK4 K4
 refine zac (fun K5 hK5 => ?_)
 refine zar (fun r => rfl) (fun c9 => ?_) (fun c9 => ?_)
 ·first
  |(exfalso; exact cnA c9; done)
  |skip
   (try replace c9 := yad c9)
   obtain ⟨bw, ow, qw, Tw, Fw, rfl, hbw, hsw, atw⟩ := hv.at (by omega)
   refine zau ?_
   refine yab ?_
   refine hK5 _ _ ?_; try clear hK5 K5
   refine zac (fun K6 hK6 => ?_)
   refine zaB ?_
   refine zac (fun K7 hK7 => ?_)
   refine zaa ?_
   refine zah rfl ?_
   refine zaj rfl ?_
   refine zad ?_
   refine yab ?_
   refine hK7 _ _ ?_; try clear hK7 K7
   refine zac (fun K8 hK8 => ?_)
   refine zaa ?_
   refine zah rfl ?_
   refine zah rfl ?_
   refine zah rfl ?_
   refine zab (fun K hK r => ?_)
   refine yaw ?_
   refine Lt_indexS Try.underlying22 sz3 ixA ixA ?_
   refine yax ?_
   refine yaf ?_
   refine hK _ _ ?_; clear hK K
   refine zab (fun K hK r => ?_)
   refine yap ?_
   refine zae Try.underlying3 rfl hbA (v := .int .i64 (l.getD k 0)) (by first | exact ints_at atw rfl _ (by omega) | (simp only [Int.toNat_natCast, Nat.mul_one]; exact ints_at atw rfl _ (by omega))) ?_
   refine hK _ _ ?_; clear hK K
   refine zab (fun K hK r => ?_)
   refine ybu ?_
   show ValH _ _ _ _ _
   refine (hP (l.getD k 0)).mono ?_
   rintro v H' ⟨rfl, hq⟩
   have hq := hq.symm
   subst hq
   refine yaf ?_
   refine hK _ _ ?_; clear hK K
   refine zad ?_
   refine yab ?_
   refine hK8 _ _ ?_; try clear hK8 K8
   refine zar (fun r => rfl) (fun c16 => ?_) (fun c16 => ?_)
   ·first
    |(exfalso; exact cnA c16; done)
    |skip
     (try replace c16 := yad c16)
     refine zac (fun K9 hK9 => ?_)
     refine zaa ?_
     refine zah rfl ?_
     refine zaj rfl ?_
     refine zad ?_
     refine yab ?_
     refine hK9 _ _ ?_; try clear hK9 K9
     refine zaz ?_
     refine yab ?_
     refine ⟨[_], ⟨rfl, trivial⟩, _, Le.refl _, rfl, _, rfl, .inl ⟨by omega, ?_⟩⟩
     rw [List.any_eq_true]
     refine ⟨l.getD k 0, ?_, c16⟩
     rw [List.getD_eq_getElem?_getD, List.getElem?_eq_getElem (by omega)]
     exact List.getElem_mem (by omega)
   ·first
    |(exfalso; exact cnA c16; done)
    |skip
     (try replace c16 := yad c16)
     refine zau ?_
     refine yab ?_
     refine hK6 _ _ ?_; try clear hK6 K6
     refine zaa ?_
     refine zab (fun K hK r => ?_)
     refine yaq ?_
     refine hK _ _ ?_; clear hK K
     refine zah rfl ?_
     refine zad ?_
     refine yab ?_
     refine ⟨l.length - (k + 1), by omega, k + 1, by omega, rfl, ?_, rfA, rfl, rfl, rfl, rfl, trivial⟩
     rw [take_snoc (by omega), List.any_append, hno]
     simp only [List.any_cons, List.any_nil, Bool.or_false, Bool.false_or]
     exact c16
 ·first
  |(exfalso; exact cnA c9; done)
  |skip
   (try replace c9 := yad c9)
   have hkn : k = l.length := by omega
   refine CW_exit ?_
   refine yab ?_
   refine hK2 _ _ ?_; try clear hK2 K2
   refine zac (fun K10 hK10 => ?_)
   refine zaa ?_
   refine zaj rfl ?_
   refine zad ?_
   refine yab ?_
   refine hK10 _ _ ?_; try clear hK10 K10
   refine zaz ?_
   refine yab ?_
   subst hkn
   rw [List.take_length] at hno
   exact ⟨[_], ⟨rfl, trivial⟩, _, Le.refl _, rfl, _, rfl, .inr ⟨rfl, hno⟩⟩
set_option maxRecDepth 100000 in
set_option maxHeartbeats 1000000 in
theorem contains_ok (H : Hp) (a : Option Addr) (cap : Nat) (l : List Int) (hv : Holds H 1 (.slice a l.length cap) l.length (i64s l)) (gf : Fn) (ga gb : Array Value) (P : Int → Bool) (hP : ∀ k, ValH Try.prog (.func gf ga gb) #[.int .i64 k] H (fun v H' => v = .bool (P k) ∧ H' = H)) (hl : l.length ≤ 1000000) :
 CallH Try.prog 40 #[.slice a l.length cap, .func gf ga gb] H (fun v H' => v = .bool (l.any P) ∧ H' = H) := by
 refine zam (l := [_, _]) (rl := [.tmp 4]) (n := 9) Try.func40 rfl rfl rfl rfl rfl ?_
 refine yaa ?_
 refine zac (fun K1 hK1 => ?_)
 refine zaa ?_
 refine zaj rfl ?_
 refine zad ?_
 refine yab ?_
 refine hK1 _ _ ?_; try clear hK1 K1
 refine zac (fun K2 hK2 => ?_)
 refine zaa ?_
 refine zah rfl ?_
 refine zah rfl ?_
 refine zab (fun K hK r => ?_)
 simp only [zaF _ bd70, List.map_toArray, List.map_cons, List.map_nil, eX, ↓reduceIte, Nat.reduceEqDiff, Int.reduceToNat]
 refine (indexI_ok _ a cap l hv gf ga gb P hP hl).mono ?_
 rintro v H' ⟨hq, ix, rfl, hix⟩
 have hq := hq.symm
 subst hq
 refine yaf ?_
 refine hK _ _ ?_; clear hK K
 refine zab (fun K hK r => ?_)
 refine yav ?_
 refine hK _ _ ?_; clear hK K
 refine zaj rfl ?_
 refine zad ?_
 refine yab ?_
 refine hK2 _ _ ?_; try clear hK2 K2
 refine zaz ?_
 refine yab ?_
 refine ⟨[_], ⟨rfl, trivial⟩, _, Le.refl _, ?_, rfl⟩
 show Value.bool _ = Value.bool _
 congr 1
 rcases hix with ⟨h1, h2⟩ | ⟨h1, h2⟩
 ·rw [h2]; simp; omega
 ·rw [h2]; simp; omega
theorem ybv {p q : Prop} (h : q) (e : p = q := by simp only [zao, fa27_0, zaH, Nat.reduceAdd, Nat.zero_add, eX, ↓reduceIte, Nat.reduceEqDiff, Int.reduceToNat]; exact rfl) : p := e.mpr h
theorem ybw {p q : Prop} (h : q) (e : p = q := by simp only [zao, fa27_1, zaH, Nat.reduceAdd, Nat.zero_add, eX, ↓reduceIte, Nat.reduceEqDiff, Int.reduceToNat]; exact rfl) : p := e.mpr h
theorem ybx {p q : Prop} (h : q) (e : p = q := by simp only [zao, fa27_2, zaH, Nat.reduceAdd, Nat.zero_add, eX, ↓reduceIte, Nat.reduceEqDiff, Int.reduceToNat]; exact rfl) : p := e.mpr h
theorem yby {p q : Prop} (h : q) (e : p = q := by simp only [zao, fa27_3, zaH, Nat.reduceAdd, Nat.zero_add, eX, ↓reduceIte, Nat.reduceEqDiff, Int.reduceToNat]; exact rfl) : p := e.mpr h
theorem ybz {p q : Prop} (h : q) (e : p = q := by simp only [zao, fa27_4, zaH, Nat.reduceAdd, Nat.zero_add, eX, ↓reduceIte, Nat.reduceEqDiff, Int.reduceToNat]; exact rfl) : p := e.mpr h
theorem ybA {p q : Prop} (h : q) (e : p = q := by simp only [zao, fa27_5, zaH, Nat.reduceAdd, Nat.zero_add, eX, ↓reduceIte, Nat.reduceEqDiff, Int.reduceToNat]; exact rfl) : p := e.mpr h
set_option maxRecDepth 100000 in
set_option maxHeartbeats 1000000 in
theorem good_ok (H : Hp) (m : Mf) (ma : Option Addr) (mc : Nat) (hm : Holds H 1 (.slice ma m.hd.length mc) m.hd.length (i64s m.hd)) (hml : m.hd.length ≤ 1000000) : CallH Try.prog 12 #[.agg #[.int .i64 m.gen, .int .i64 m.ep, .int .i64 m.ba, .int .i64 m.ar, .int .i64 m.ln, .slice ma m.hd.length mc]] H (fun v H' => v = .bool m.good ∧ H' = H) := by
 refine zam (l := [_]) (rl := [.tmp 2]) (n := 42) Try.func12 rfl rfl rfl rfl rfl ?_
 refine yaa ?_
 refine zac (fun K1 hK1 => ?_)
 refine zaa ?_
 refine zab (fun K hK r => ?_)
 refine yaW ?_
 intro b1 hb1
 have f1_H : H b1 = none := zag lhA hb1
 refine yaf ?_
 refine hK _ _ ?_; clear hK K
 refine zaj rfl ?_
 refine zad ?_
 refine yab ?_
 refine hK1 _ _ ?_; try clear hK1 K1
 refine zac (fun K2 hK2 => ?_)
 refine zaa ?_
 refine zab (fun K hK r => ?_)
 simp only [x_assign, eX, ↓reduceIte, Nat.reduceEqDiff, Int.reduceToNat]
 refine hK _ _ ?_; clear hK K
 refine zad ?_
 refine yab ?_
 refine hK2 _ _ ?_; try clear hK2 K2
 refine zac (fun K3 hK3 => ?_)
 refine zaa ?_
 refine zab (fun K hK r => ?_)
 refine ybv ?_
 refine hK _ _ ?_; clear hK K
 refine zab (fun K hK r => ?_)
 refine yap ?_
 refine zae Try.underlying3 rfl hbA ldA ?_
 refine yaf ?_
 refine hK _ _ ?_; clear hK K
 refine zab (fun K hK r => ?_)
 refine ybs ?_
 refine (within_ok _ m.gen 1 17179869183).mono ?_
 rintro v H' ⟨rfl, rfl⟩
 refine yaf ?_
 refine hK _ _ ?_; clear hK K
 refine zah rfl ?_
 (first | refine zaA (d := 8) rfl (fun g8 => ?_) (fun g8 => ?_) | skip)
 all_goals try (exfalso; exact cnA g8)
 all_goals (try replace g8 := yad g8)
 all_goals
  refine yaf ?_
  first
  |refine yGT (fun K hK r => ?_)
   refine ybw ?_
   refine hK _ _ ?_; clear hK K
  |refine yGF ?_
   refine yaj ?_
  first
  |refine yGT (fun K hK r => ?_)
   refine yap ?_
   refine zae Try.underlying3 rfl hbA ldA ?_
   refine yaf ?_
   refine hK _ _ ?_; clear hK K
  |refine yGF ?_
   refine yaj ?_
  first
  |refine yGT (fun K hK r => ?_)
   refine ybs ?_
   refine (within_ok _ m.ep 1 65535).mono ?_
   rintro v H' ⟨rfl, rfl⟩
   refine yaf ?_
   refine hK _ _ ?_; clear hK K
  |refine yGF ?_
   refine yaj ?_
  refine zab (fun K hK r => ?_)
  refine yal ?_
  refine hK _ _ ?_; clear hK K
  refine zah rfl ?_
  (first | refine zaA (d := 13) rfl (fun g13 => ?_) (fun g13 => ?_) | skip)
  all_goals try (exfalso; exact cnA g13)
  all_goals (try replace g13 := yad g13)
  all_goals
   refine yaf ?_
   first
   |refine yGT (fun K hK r => ?_)
    refine ybx ?_
    refine hK _ _ ?_; clear hK K
   |refine yGF ?_
    refine yaj ?_
   first
   |refine yGT (fun K hK r => ?_)
    refine yap ?_
    refine zae Try.underlying3 rfl hbA ldA ?_
    refine yaf ?_
    refine hK _ _ ?_; clear hK K
   |refine yGF ?_
    refine yaj ?_
   first
   |refine yGT (fun K hK r => ?_)
    refine ybs ?_
    refine (within_ok _ m.ba 0 281474976710655).mono ?_
    rintro v H' ⟨rfl, rfl⟩
    refine yaf ?_
    refine hK _ _ ?_; clear hK K
   |refine yGF ?_
    refine yaj ?_
   refine zab (fun K hK r => ?_)
   refine yal ?_
   refine hK _ _ ?_; clear hK K
   refine zah rfl ?_
   (first | refine zaA (d := 18) rfl (fun g18 => ?_) (fun g18 => ?_) | skip)
   all_goals try (exfalso; exact cnA g18)
   all_goals (try replace g18 := yad g18)
   all_goals
    refine yaf ?_
    first
    |refine yGT (fun K hK r => ?_)
     refine yby ?_
     refine hK _ _ ?_; clear hK K
    |refine yGF ?_
     refine yaj ?_
    first
    |refine yGT (fun K hK r => ?_)
     refine yap ?_
     refine zae Try.underlying3 rfl hbA ldA ?_
     refine yaf ?_
     refine hK _ _ ?_; clear hK K
    |refine yGF ?_
     refine yaj ?_
    first
    |refine yGT (fun K hK r => ?_)
     refine ybs ?_
     refine (within_ok _ m.ar 0 1).mono ?_
     rintro v H' ⟨rfl, rfl⟩
     refine yaf ?_
     refine hK _ _ ?_; clear hK K
    |refine yGF ?_
     refine yaj ?_
    refine zab (fun K hK r => ?_)
    refine yal ?_
    refine hK _ _ ?_; clear hK K
    refine zah rfl ?_
    (first | refine zaA (d := 23) rfl (fun g23 => ?_) (fun g23 => ?_) | skip)
    all_goals try (exfalso; exact cnA g23)
    all_goals (try replace g23 := yad g23)
    all_goals
     refine yaf ?_
     first
     |refine yGT (fun K hK r => ?_)
      refine ybz ?_
      refine hK _ _ ?_; clear hK K
     |refine yGF ?_
      refine yaj ?_
     first
     |refine yGT (fun K hK r => ?_)
      refine yap ?_
      refine zae Try.underlying3 rfl hbA ldA ?_
      refine yaf ?_
      refine hK _ _ ?_; clear hK K
     |refine yGF ?_
      refine yaj ?_
     first
     |refine yGT (fun K hK r => ?_)
      refine ybs ?_
      refine (within_ok _ m.ln 0 1048576).mono ?_
      rintro v H' ⟨rfl, rfl⟩
      refine yaf ?_
      refine hK _ _ ?_; clear hK K
     |refine yGF ?_
      refine yaj ?_
     refine zab (fun K hK r => ?_)
     refine yal ?_
     refine hK _ _ ?_; clear hK K
     refine zaj rfl ?_
     refine zad ?_
     refine yab ?_
     refine hK3 _ _ ?_; try clear hK3 K3
     refine zac (fun K4 hK4 => ?_)
     refine zaa ?_
     refine zah rfl ?_
     refine zah rfl ?_
     (first | refine zaA (d := 29) rfl (fun g29 => ?_) (fun g29 => ?_) | skip)
     all_goals try (exfalso; exact cnA g29)
     all_goals (try replace g29 := yad g29)
     all_goals
      refine yaf ?_
      first
      |refine yGT (fun K hK r => ?_)
       refine ybA ?_
       refine hK _ _ ?_; clear hK K
      |refine yGF ?_
       refine yaj ?_
      first
      |refine yGT (fun K hK r => ?_)
       refine yap ?_
       refine zae Try.underlying22 rfl hbA ldA ?_
       refine yaf ?_
       refine hK _ _ ?_; clear hK K
      |refine yGF ?_
       refine yaj ?_
      first
      |refine yGT (fun K hK r => ?_)
       refine ybt ?_
       refine hK _ _ ?_; clear hK K
      |refine yGF ?_
       refine yaj ?_
      first
      |refine yGT (fun K hK r => ?_)
       refine ybs ?_
       refine (within_ok _ m.hd.length 1 4).mono ?_
       rintro v H' ⟨rfl, rfl⟩
       refine yaf ?_
       refine hK _ _ ?_; clear hK K
      |refine yGF ?_
       refine yaj ?_
      refine zab (fun K hK r => ?_)
      refine yal ?_
      refine hK _ _ ?_; clear hK K
      refine zah rfl ?_
      (first | refine zaA (d := 35) rfl (fun g35 => ?_) (fun g35 => ?_) | skip)
      all_goals try (exfalso; exact cnA g35)
      all_goals (try replace g35 := yad g35)
      all_goals
       refine yaf ?_
       first
       |refine yGT (fun K hK r => ?_)
        refine ybA ?_
        refine hK _ _ ?_; clear hK K
       |refine yGF ?_
        refine yaj ?_
       first
       |refine yGT (fun K hK r => ?_)
        refine yap ?_
        refine zae Try.underlying22 rfl hbA ldA ?_
        refine yaf ?_
        refine hK _ _ ?_; clear hK K
       |refine yGF ?_
        refine yaj ?_
       first
       |refine yGT (fun K hK r => ?_)
        refine yai ?_
        refine hK _ _ ?_; clear hK K
       |refine yGF ?_
        refine yaj ?_
       first
       |refine yGT (fun K hK r => ?_)
        simp only [zaF _ bd40, List.map_toArray, List.map_cons, List.map_nil, eX, ↓reduceIte, Nat.reduceEqDiff, Int.reduceToNat]
        refine (contains_ok _ ma mc m.hd (hm.le lhA) _ _ _ (fun k => !hdOk k) (fun k => ValH_func bd38 (far_ok _ k)) hml).mono ?_
        rintro v H' ⟨rfl, hq⟩
        have hq := hq.symm
        subst hq
        refine yaf ?_
        refine hK _ _ ?_; clear hK K
       |refine yGF ?_
        refine yaj ?_
       first
       |refine yGT (fun K hK r => ?_)
        refine yam ?_
        refine hK _ _ ?_; clear hK K
       |refine yGF ?_
        refine yaj ?_
       refine zab (fun K hK r => ?_)
       refine yal ?_
       refine hK _ _ ?_; clear hK K
       refine zaj rfl ?_
       refine zad ?_
       refine yab ?_
       refine hK4 _ _ ?_; try clear hK4 K4
       refine zaz ?_
       refine yab ?_
       refine ⟨[_], ⟨rfl, trivial⟩, H, lhA, ?_, rfl⟩
       show Value.bool _ = Value.bool _
       congr 1
       have hall : m.hd.all hdOk = !(m.hd.any fun k => !hdOk k) := by rw [List.not_any_eq_all_not]; simp
       unfold Mf.good
       rw [hall]
       simp_all
end Go.Proofs.Ytigofhhonnbkmaa.HL
end
section
namespace Go.Proofs.Ytigofhhonnbkmaa.HL
open Go Go.Proofs
set_option linter.unusedSimpArgs false
set_option linter.unusedVariables false
attribute [local irreducible] Lt Lq CW OW TW CallH
theorem Mf.Ok.i64 {m : Mf} (h : m.Ok) : ∀ x ∈ m.nums, 0 ≤ x ∧ x ≤ 281474976710655 := by
  obtain ⟨hg, he, hb, ha, hl, hn, hh⟩ := h
  intro x hx
  rcases List.mem_append.1 hx with h | h
  · simp only [Mf.five, List.mem_cons, List.not_mem_nil, or_false] at h
    omega
  · have := hh x h; omega
theorem Mf.nums_len (m : Mf) : m.nums.length = 5 + m.hd.length := by simp [Mf.nums, Mf.five]; omega
theorem cnts_len {l : List Int} (h : ∀ x ∈ l, 0 ≤ x ∧ x ≤ 281474976710655) : (cnts l).length ≤ 7 * l.length := by
  induction l with
  | nil => simp [cnts]
  | cons x l ih =>
    have hx := h x (by simp)
    have := cnt_small 6 x.toNat (by omega)
    have := ih (fun y hy => h y (by simp [hy]))
    rw [cnts_cons, List.length_append, List.length_cons]; omega
theorem cnts_snoc {l : List Int} {k : Nat} (h : k < l.length) : cnts (l.take (k + 1)) = cnts (l.take k) ++ cnt (l.getD k 0).toNat := by
  rw [take_snoc h, cnts_app, cnts_cons, cnts_nil, List.append_nil]
theorem nums_get {m : Mf} (h : m.Ok) {k : Nat} (hk : k < m.nums.length) : 0 ≤ m.nums.getD k 0 ∧ m.nums.getD k 0 ≤ 281474976710655 := by
  refine h.i64 _ ?_
  rw [List.getD_eq_getElem?_getD, List.getElem?_eq_getElem hk]; exact List.getElem_mem hk
theorem le_del_of {H0 H : Hp} (h : Le H0 H) {b : Nat} (hb : H0 b = none) : Le H0 (H.del b) := fun x o hx => by
  rw [del_ne]
  · exact h x o hx
  · intro e; subst e; rw [hb] at hx; cases hx
theorem ybB {p q : Prop} (h : q) (e : p = q := by simp only [x_build, List.map_toArray, List.map_cons, List.map_nil, eX, ↓reduceIte, Nat.reduceEqDiff, Int.reduceToNat]; exact rfl) : p := e.mpr h
theorem ybC {p q : Prop} (h : q) (e : p = q := by simp only [x_extract, i_extract, List.getElem?_toArray, List.getElem?_cons_zero, List.getElem?_cons_succ, zay, eX, ↓reduceIte, Nat.reduceEqDiff]; exact rfl) : p := e.mpr h
set_option maxRecDepth 100000 in
set_option maxHeartbeats 4000000 in
theorem mSeal_ok (H : Hp) (m : Mf) (ma : Option Addr) (mc : Nat) (hm : Holds H 1 (.slice ma m.hd.length mc) m.hd.length (i64s m.hd)) (hml : m.hd.length ≤ 1000000) : CallH Try.prog 10 #[.agg #[.int .i64 m.gen, .int .i64 m.ep, .int .i64 m.ba, .int .i64 m.ar, .int .i64 m.ln, .slice ma m.hd.length mc]] H (fun v H' => v = .tuple #[.agg (u8s m.sealB).toArray, errV m.bad] ∧ Le H H') := by
 refine zam (l := [_]) (rl := [.cell 2 30, .tmp 3]) (n := 49) Try.func10 rfl rfl rfl rfl rfl ?_
 refine yaa ?_
 have hsl := sealI_len m.gen 3 m.by_
 refine zac (fun K1 hK1 => ?_)
 refine zaa ?_
 refine zab (fun K hK r => ?_)
 refine yaW ?_
 intro b1 hb1
 have f1_H : H b1 = none := zag lhA hb1
 refine yaf ?_
 refine hK _ _ ?_; clear hK K
 refine zab (fun K hK r => ?_)
 refine yaX ?_
 intro b2 hb2
 try have n2_b1 : b1 ≠ b2 := zaf hbA hb2
 have f2_H : H b2 = none := zag lhA hb2
 refine yaf ?_
 refine hK _ _ ?_; clear hK K
 refine zaj rfl ?_
 refine zad ?_
 refine yab ?_
 refine hK1 _ _ ?_; try clear hK1 K1
 refine zac (fun K2 hK2 => ?_)
 refine zac (fun K3 hK3 => ?_)
 refine zaa ?_
 refine zab (fun K hK r => ?_)
 refine yap ?_
 first | refine zax Try.underlying27 rfl sz27 hbA bdA ?_ | refine zaq Try.underlying27 rfl sz27 hbA bdA ?_
 refine ybg ?_
 refine yaf ?_
 refine hK _ _ ?_; clear hK K
 refine zab (fun K hK r => ?_)
 simp only [zaF _ bd12, List.map_toArray, List.map_cons, List.map_nil, eX, ↓reduceIte, Nat.reduceEqDiff, Int.reduceToNat]
 refine (good_ok _ m ma mc (hm.le lhA) hml).mono ?_
 rintro v H' ⟨rfl, hq⟩
 have hq := hq.symm
 subst hq
 refine yaf ?_
 refine hK _ _ ?_; clear hK K
 refine zab (fun K hK r => ?_)
 refine yam ?_
 refine hK _ _ ?_; clear hK K
 refine zad ?_
 refine yab ?_
 refine hK3 _ _ ?_; try clear hK3 K3
 refine zar (fun r => rfl) (fun c9 => ?_) (fun c9 => ?_)
 ·first
  |(exfalso; exact cnA c9; done)
  |skip
   have hng : ¬ m.good = true := by simpa using c9
   refine zac (fun K4 hK4 => ?_)
   refine zaa ?_
   refine zab (fun K hK r => ?_)
   refine ybB ?_
   rw [l_buildArr Try.underlying30 sz5 zr30]
   simp only [Value.cells]
   refine ybe ?_
   refine yaf ?_
   refine hK _ _ ?_; clear hK K
   refine zab (fun K hK r => ?_)
   refine yaF ?_
   refine hK _ _ ?_; clear hK K
   refine zaI rfl (zas) (fun K hK r => ?_)
   refine yaD ?_
   first | refine zak sz30 bdA hbA bdA plA (by decide) ?_ | refine zal sz30 bdA hbA bdA plA (by decide) ?_
   refine yaf ?_
   refine hK _ _ ?_; clear hK K
   refine zaj rfl ?_
   refine zad ?_
   refine yab ?_
   refine hK4 _ _ ?_; try clear hK4 K4
   refine zaz ?_
   refine yab ?_
   refine ⟨[_, _], ⟨⟨_, rfl, zaC Try.underlying30 rfl sz30 hbA bdA⟩, rfl, trivial⟩, _, Le.refl _, ?_, lhA⟩
   unfold Mf.sealB Mf.bad
   rw [if_neg hng, if_neg hng]
   rfl
 ·first
  |(exfalso; exact cnA c9; done)
  |skip
   have hgd : m.good = true := by simpa using c9
   have hok := Mf.good_iff.1 hgd
   refine zau ?_
   refine yab ?_
   refine hK2 _ _ ?_; try clear hK2 K2
   refine zac (fun K5 hK5 => ?_)
   refine zaa ?_
   refine zab (fun K hK r => ?_)
   simp only [x_build, bp82, List.map_toArray, List.map_cons, List.map_nil, eX, ↓reduceIte, Nat.reduceEqDiff, Int.reduceToNat]
   refine ybe ?_
   refine yaf ?_
   refine hK _ _ ?_; clear hK K
   refine zab (fun K hK r => ?_)
   refine yaW ?_
   intro b13 hb13
   try have n13_b1 : b1 ≠ b13 := zaf hbA hb13
   try have n13_b2 : b2 ≠ b13 := zaf hbA hb13
   have f13_H : H b13 = none := zag lhA hb13
   refine yaf ?_
   refine hK _ _ ?_; clear hK K
   refine zaj rfl ?_
   refine zad ?_
   refine yab ?_
   refine hK5 _ _ ?_; try clear hK5 K5
   refine zac (fun K6 hK6 => ?_)
   refine zac (fun K7 hK7 => ?_)
   refine zaa ?_
   refine zab (fun K hK r => ?_)
   refine ybw ?_
   refine hK _ _ ?_; clear hK K
   refine zab (fun K hK r => ?_)
   refine yap ?_
   refine zae Try.underlying3 rfl hbA ldA ?_
   refine yaf ?_
   refine hK _ _ ?_; clear hK K
   refine zab (fun K hK r => ?_)
   refine ybx ?_
   refine hK _ _ ?_; clear hK K
   refine zab (fun K hK r => ?_)
   refine yap ?_
   refine zae Try.underlying3 rfl hbA ldA ?_
   refine yaf ?_
   refine hK _ _ ?_; clear hK K
   refine zab (fun K hK r => ?_)
   refine yby ?_
   refine hK _ _ ?_; clear hK K
   refine zab (fun K hK r => ?_)
   refine yap ?_
   refine zae Try.underlying3 rfl hbA ldA ?_
   refine yaf ?_
   refine hK _ _ ?_; clear hK K
   refine zab (fun K hK r => ?_)
   refine ybz ?_
   refine hK _ _ ?_; clear hK K
   refine zab (fun K hK r => ?_)
   refine yap ?_
   refine zae Try.underlying3 rfl hbA ldA ?_
   refine yaf ?_
   refine hK _ _ ?_; clear hK K
   refine zab (fun K hK r => ?_)
   refine ybA ?_
   refine hK _ _ ?_; clear hK K
   refine zab (fun K hK r => ?_)
   refine yap ?_
   refine zae Try.underlying22 rfl hbA ldA ?_
   refine yaf ?_
   refine hK _ _ ?_; clear hK K
   refine zab (fun K hK r => ?_)
   refine ybt ?_
   refine hK _ _ ?_; clear hK K
   refine zab (fun K hK r => ?_)
   refine yaT ?_
   refine zaJ (vs := [_, _, _, _, _]) Try.underlying22 sz3 zr3 rfl bsA (by first | decide | (simp; done)) ?_
   refine yaU ?_
   intro b25 hb25
   try have n25_b1 : b1 ≠ b25 := zaf hbA hb25
   try have n25_b2 : b2 ≠ b25 := zaf hbA hb25
   try have n25_b13 : b13 ≠ b25 := zaf hbA hb25
   have f25_H : H b25 = none := zag lhA hb25
   refine yaf ?_
   refine hK _ _ ?_; clear hK K
   refine zab (fun K hK r => ?_)
   refine ybA ?_
   refine hK _ _ ?_; clear hK K
   refine zab (fun K hK r => ?_)
   refine yap ?_
   refine zae Try.underlying22 rfl hbA ldA ?_
   refine yaf ?_
   refine hK _ _ ?_; clear hK K
   refine zab (fun K hK r => ?_)
   refine yaV ?_
   refine Lt_append Try.underlying22 Try.underlying22 (by simp) sz3 by3 (by decide) zr3 rfl _ (n := 5) (m := m.hd.length) (cs := i64s m.five) (rs := some b25) (ds := i64s m.hd) ⟨rfl, .inr ⟨b25, 5, _, rfl, hbA, Nat.le_refl _, rfl, rfl, rfl⟩⟩ (fun K => len_holds (hm.le lhA) K) (fun K => first_slice (hm.le lhA) K) (by simp) (PlainL.ints _ _) (by omega) ?_
   intro v28 H28 rs28 hg28 ho28 hr28
   have k28_1 := hg28.known b1 _ hbA (fun e => by cases e; exact absurd rfl n25_b1)
   have k28_2 := hg28.known b2 _ hbA (fun e => by cases e; exact absurd rfl n25_b2)
   have k28_13 := hg28.known b13 _ hbA (fun e => by cases e; exact absurd rfl n25_b13)
   have lH28_H : Le H H28 := hg28.le (H0 := H) lhA (fun r hr => by cases hr; exact f25_H)
   have n2813 : rs28 ≠ some b13 := fun e => by
    rcases hr28 _ e with h | h
    ·exact n25_b13 (by injection h with h; exact h.symm)
    ·rw [zap _ _ n25_b13, zan] at h; cases h
   have hN5 : i64s m.five ++ i64s m.hd = i64s m.nums := by simp [Mf.nums, i64s]
   rw [hN5] at ho28
   obtain ⟨G, hG⟩ : ∃ G : Hp, G = H28.del b13 := ⟨_, rfl⟩
   have gG : G b13 = none := by rw [hG]; exact del_self _ _
   have leG : Le G H28 := by rw [hG]; exact le_del _ _
   have g1 : G b1 = _ := (by rw [hG]; exact del_ne _ n13_b1 : G b1 = H28 b1).trans k28_1
   have g2 : G b2 = _ := (by rw [hG]; exact del_ne _ n13_b2 : G b2 = H28 b2).trans k28_2
   have lG : Le H G := by rw [hG]; exact le_del_of lH28_H f13_H
   have hoG : OwnS G 3 1 v28 (5 + m.hd.length) (i64s m.nums) rs28 := ho28.stay (fun b o hb ho => by rw [hG, del_ne _ (fun e => n2813 (by rw [← e]; exact hb))]; exact ho)
   obtain ⟨a28, c28, rfl⟩ := hoG.holds.form
   have hw28 : WR H28 b13 [] (fun b => b = b13) := WR.fresh rfl k28_13
   have hn5 := hok.n
   refine hK _ _ ?_; clear hK K
   refine zab (fun K hK r => ?_)
   refine ybt ?_
   refine hK _ _ ?_; clear hK K
   refine zah rfl ?_
   refine zad ?_
   refine yab ?_
   refine hK7 _ _ ?_; try clear hK7 K7
   refine zaB ?_
   refine CW_loop (fun m_ e H_ => ∃ (k : Nat) (S1 : Nat → Prop), k ≤ 5 + m.hd.length ∧ m_ = 5 + m.hd.length - k ∧ WR H_ b13 (cnts (m.nums.take k)) S1 ∧ Le G H_ ∧ (∀ b, S1 b → G b = none) ∧ Env.has [(1, .pointer (some ⟨b1, 0, none⟩)), (2, .pointer (some ⟨b2, 0, none⟩)), (4, .pointer (some ⟨b13, 0, none⟩)), (28, .slice a28 (5 + m.hd.length) c28), (29, .int .i64 ((5 + m.hd.length : Nat) : Int)), (30, .int .i64 k)] e) (5 + m.hd.length) ?_ ?_
   ·skip
    exact ⟨0, fun b => b = b13, by omega, by omega, hw28, leG, (fun b hb => by subst hb; exact gG), rfl, rfl, rfl, rfl, rfl, rfl, trivial⟩
   intro m_ e_ H_ hI_
   obtain ⟨k, S1, hk, rfl, hw, hle, hs1, he⟩ := hI_
   refine CW_env he.sub ?_; clear he e_
   have hN := hoG.holds.le hle
   rw [← m.nums_len] at hN
   have hlk : (cnts (m.nums.take k)).length ≤ 63 := by
    have := cnts_len (l := m.nums.take k) (fun x hx => hok.i64 x (List.mem_of_mem_take hx))
    rw [List.length_take, m.nums_len] at this
    omega
   refine zac (fun K8 hK8 => ?_)
   refine zaa ?_
   refine zab (fun K hK r => ?_)
   refine yac ?_
   refine hK _ _ ?_; clear hK K
   refine zad ?_
   refine yab ?_
   refine hK8 _ _ ?_; try clear hK8 K8
   refine zac (fun K9 hK9 => ?_)
   refine zar (fun r => rfl) (fun c31 => ?_) (fun c31 => ?_)
   ·first
    |(exfalso; exact cnA c31; done)
    |skip
     (try replace c31 := yad c31)
     obtain ⟨bw, ow, qw, Tw, Fw, rfl, hbw, hsw, atw⟩ := hN.at (by rw [m.nums_len]; omega)
     try have n_bw_b1 : bw ≠ b1 := zaf hbw f1_H
     try have n_bw_b2 : bw ≠ b2 := zaf hbw f2_H
     try have n_bw_b13 : bw ≠ b13 := zaf hbw f13_H
     try have n_bw_b25 : bw ≠ b25 := zaf hbw f25_H
     have hnl := m.nums_len
     have hxk := nums_get hok (k := k) (by rw [m.nums_len]; omega)
     refine zau ?_
     refine yab ?_
     refine hK9 _ _ ?_; try clear hK9 K9
     refine zac (fun K10 hK10 => ?_)
     refine zaB ?_
     refine zac (fun K11 hK11 => ?_)
     refine zaa ?_
     refine zab (fun K hK r => ?_)
     refine yaw ?_
     refine Lt_indexS Try.underlying22 sz3 ixA ixA ?_
     refine yax ?_
     refine yaf ?_
     refine hK _ _ ?_; clear hK K
     refine zab (fun K hK r => ?_)
     refine yap ?_
     refine zae Try.underlying3 rfl hbA (v := .int .i64 (m.nums.getD k 0)) (by first | exact ints_at atw rfl _ (by omega) | (simp only [Int.toNat_natCast, Nat.mul_one]; exact ints_at atw rfl _ (by omega))) ?_
     refine hK _ _ ?_; clear hK K
     refine zaj rfl ?_
     refine zad ?_
     refine yab ?_
     refine hK11 _ _ ?_; try clear hK11 K11
     refine zaa ?_
     refine zah rfl ?_
     refine zah rfl ?_
     refine zab (fun K hK r => ?_)
     refine ybn ?_
     rw [show Value.int IntKind.u64 (m.nums.getD k 0) = .int .u64 (((m.nums.getD k 0).toNat : Nat) : Int) from by congr 1; omega]
     refine hK _ _ ?_; clear hK K
     refine zab (fun K hK r => ?_)
     simp only [zaF _ bd34, List.map_toArray, List.map_cons, List.map_nil, eX, ↓reduceIte, Nat.reduceEqDiff, Int.reduceToNat]
     refine (wCount_ok _ b13 _ _ hw (m.nums.getD k 0).toNat (by omega) (by omega)).mono ?_
     rintro v37 H37 ⟨S37, hw37, hf37⟩
     have hl37 := hf37.le hle hs1
     have hs37 := hf37.sep hle hs1
     have lH37_H : Le H H37 := Le.trans lG hl37
     refine yaf ?_
     refine hK _ _ ?_; clear hK K
     refine zad ?_
     refine yab ?_
     refine hK10 _ _ ?_; try clear hK10 K10
     refine zaa ?_
     refine zab (fun K hK r => ?_)
     refine yaq ?_
     refine hK _ _ ?_; clear hK K
     refine zah rfl ?_
     refine zad ?_
     refine yab ?_
     exact ⟨5 + m.hd.length - (k + 1), by omega, k + 1, S37, by omega, rfl, by rw [cnts_snoc (by rw [m.nums_len]; omega)]; exact hw37, hl37, hs37, rfl, rfl, rfl, rfl, rfl, rfl, trivial⟩
   ·first
    |(exfalso; exact cnA c31; done)
    |skip
     (try replace c31 := yad c31)
     refine CW_exit ?_
     refine yab ?_
     refine hK6 _ _ ?_; try clear hK6 K6
     refine zac (fun K12 hK12 => ?_)
     refine zaa ?_
     refine zah rfl ?_
     refine zab (fun K hK r => ?_)
     simp only [zaF _ bd35, List.map_toArray, List.map_cons, List.map_nil, eX, ↓reduceIte, Nat.reduceEqDiff, Int.reduceToNat]
     have hkn : k = m.nums.length := by rw [m.nums_len]; omega
     subst hkn
     rw [List.take_length] at hw hlk
     refine (wByte_ok _ b13 _ _ hw 77 (by omega)).mono ?_
     rintro v40 H40 ⟨S40, hw40, hf40⟩
     have hl40 := hf40.le hle hs1
     have hs40 := hf40.sep hle hs1
     have hw40 : WR H40 b13 m.by_ S40 := hw40
     have k40_1 := hl40 b1 _ g1
     have k40_2 := hl40 b2 _ g2
     have lH40_H : Le H H40 := Le.trans lG hl40
     refine yaf ?_
     refine hK _ _ ?_; clear hK K
     refine zad ?_
     refine yab ?_
     refine hK12 _ _ ?_; try clear hK12 K12
     refine zac (fun K13 hK13 => ?_)
     obtain ⟨R10, hR10⟩ : ∃ R : Hp, R = emptyHp.upd b1 (.cells #[.int .i64 m.gen, .int .i64 m.ep, .int .i64 m.ba, .int .i64 m.ar, .int .i64 m.ln, .slice ma m.hd.length mc] 27) := ⟨_, rfl⟩
     refine CW_drawR [0, 1, 0, 2, 0, 2, 0, 0, 3, 0] [0, 1, 2, 3, 4, 5, 6, 7, 8, 9] R10 (by kernel_rfl) (by kernel_rfl) (by subst hR10; exact le_put (zaN _) k40_1) (fun lR10 => ?_)
     apply zat rfl (zai (by decide)) rfl
     ·intro r
      simp only [zao, fa27_0, zaH, Nat.reduceAdd, Nat.zero_add, eX, ↓reduceIte, Nat.reduceEqDiff]
      exact ⟨rfl, Le.refl _⟩
     refine yaj ?_
     apply zaO rfl (zai (by decide)) rfl
     ·intro r
      refine yba ?_
      refine zae Try.underlying3 rfl hbA ldA ?_
      exact ⟨rfl, Le.refl _⟩
     refine yaj ?_
     apply zat rfl (zai (by decide)) rfl
     ·intro r
      refine yaI ?_
      exact ⟨rfl, Le.refl _⟩
     refine yaj ?_
     refine TW_chain rfl (zai (by decide)) rfl (fun K hK r => ?_)
     simp only [zaF _ bd37, List.map_toArray, List.map_cons, List.map_nil, eX, ↓reduceIte, Nat.reduceEqDiff, Int.reduceToNat]
     refine (out_ok _ b13 _ _ hw40 (by have := hok.len; omega)).mono ?_
     rintro v44 H44 ⟨hl44, rs44, ho44, hr44⟩
     have k44_1 := hl44 b1 _ k40_1
     have k44_2 := hl44 b2 _ k40_2
     have lH44_H : Le H H44 := Le.trans lH40_H hl44
     have lR44 : Le R10 H44 := Le.trans lR10 hl44
     obtain ⟨a44, c44, rfl⟩ := ho44.holds.form
     refine yaf ?_
     refine hK _ _ leA ?_; clear hK K
     apply zat rfl (zai (by decide)) rfl
     ·intro r
      simp only [x_build, bp89, List.map_toArray, List.map_cons, List.map_nil, eX, ↓reduceIte, Nat.reduceEqDiff]
      rw [fill_one rfl clA bdA]
      rw [fill_one rfl clA bdA]
      rw [fill_one rfl clA bdA]
      refine ybe ?_
      exact ⟨rfl, Le.refl _⟩
     refine yaj ?_
     refine TW_chain rfl (zai (by decide)) rfl (fun K hK r => ?_)
     simp only [zaF _ bd36, List.map_toArray, List.map_cons, List.map_nil, eX, ↓reduceIte, Nat.reduceEqDiff, Int.reduceToNat]
     refine (Seal_ok _ m.gen 3 _ m.by_ ho44.holds).mono ?_
     rintro v H' ⟨rfl, hq⟩
     have hq := hq.symm
     subst hq
     refine yaf ?_
     refine hK _ _ leA ?_; clear hK K
     apply zat rfl (zai (by decide)) rfl
     ·intro r
      refine ybC ?_
      exact ⟨rfl, Le.refl _⟩
     refine yaj ?_
     apply zat rfl (zai (by decide)) rfl
     ·intro r
      refine ybC ?_
      exact ⟨rfl, Le.refl _⟩
     refine yaj ?_
     refine TW_last rfl (zas) rfl (fun K hK r => ?_)
     refine yaD ?_
     first | refine zak sz30 bdA hbA bdA plA (by decide) ?_ | refine zal sz30 bdA hbA bdA plA (by decide) ?_
     refine yaf ?_
     refine hK _ _ ?_; clear hK K
     apply zat rfl (zai (by decide)) rfl
     ·intro r
      simp only [x_assign, eX, ↓reduceIte, Nat.reduceEqDiff]
      exact ⟨rfl, Le.refl _⟩
     refine yaj ?_
     refine TW_nil ?_
     refine yab ?_
     refine hK13 _ _ ?_; try clear hK13 K13
     refine zaz ?_
     refine yab ?_
     refine ⟨[_, _], ⟨⟨_, rfl, zaC Try.underlying30 rfl sz30 hbA bdA⟩, rfl, trivial⟩, _, Le.refl _, ?_, lhA⟩
     unfold Mf.sealB Mf.bad
     rw [if_pos hgd, if_pos hgd, hok.fine]
     rfl
set_option maxRecDepth 100000 in
set_option maxHeartbeats 1000000 in
theorem small_ok (H : Hp) (p : Nat) (a : Option Addr) (cap : Nat) (l : List Int) (bad : Bool) (hr : RD H p a cap l bad) (hB : ByteL l) (hl : l.length ≤ 10000000) : CallH Try.prog 44 #[.pointer (some ⟨p, 0, none⟩)] H (fun v H' => ∃ res, RCb bad l res ∧ v = .int .i64 (smN res) ∧ ∃ a' cap', RD H' p a' cap' (rcL res) res.isNone ∧ (∃ o, H' = H.upd p o) ∧ SameB a a') := by
 refine zam (l := [_]) (rl := [.tmp 2]) (n := 7) Try.func44 rfl rfl rfl rfl rfl ?_
 refine yaa ?_
 refine zac (fun K1 hK1 => ?_)
 refine zaa ?_
 refine zaj rfl ?_
 refine zad ?_
 refine yab ?_
 refine hK1 _ _ ?_; try clear hK1 K1
 refine zac (fun K2 hK2 => ?_)
 refine zaa ?_
 refine zah rfl ?_
 refine zab (fun K hK r => ?_)
 simp only [zaF _ bd72, List.map_toArray, List.map_cons, List.map_nil, eX, ↓reduceIte, Nat.reduceEqDiff, Int.reduceToNat]
 refine (rCount_all _ p a cap l bad hr hB hl).mono ?_
 rintro v4 H4 ⟨res, hres, rfl, a4, c4, hr4, ho4, hs4⟩
 have hlt := hres.lt
 have h62 := and62 hlt
 have hsm : ((rcN res % 4611686018427387904 : Nat) : Int) = smN res := by cases res with
  |none => rfl
  |some x => rfl
 rw [hsm] at h62
 refine yaf ?_
 refine hK _ _ ?_; clear hK K
 refine zab (fun K hK r => ?_)
 refine ybq ?_
 refine hK _ _ ?_; clear hK K
 refine zab (fun K hK r => ?_)
 simp (disch := (first | omega | decide)) only [x_convert, c_int _ _ _ _ Try.underlying84 Try.underlying3, wrap_i64, wrap_u64, wrap_u32, wrap_u8, eX, ↓reduceIte, Nat.reduceEqDiff, Int.reduceToNat]
 refine hK _ _ ?_; clear hK K
 refine zaj rfl ?_
 refine zad ?_
 refine yab ?_
 refine hK2 _ _ ?_; try clear hK2 K2
 refine zaz ?_
 refine yab ?_
 first
 |exact ⟨[_], ⟨rfl, trivial⟩, _, Le.refl _, res, hres, by rw [← h62]; rfl, a4, c4, hr4, ho4, hs4⟩
 |exact ⟨[_], ⟨rfl, trivial⟩, _, Le.refl _, res, hres, by show Value.int _ _ = _; rw [← h62], a4, c4, hr4, ho4, hs4⟩
end Go.Proofs.Ytigofhhonnbkmaa.HL
end
section
namespace Go.Proofs.Ytigofhhonnbkmaa.HL
open Go Go.Proofs
set_option linter.unusedSimpArgs false
set_option linter.unusedVariables false
attribute [local irreducible] Lt Lq CW OW TW CallH
theorem RCb.part' {bad : Bool} {l : List Int} {r : Option (Nat × List Int)} (h : RCb bad l r) : ∃ n, rcL r = l.drop n := by
  cases r with
  | none => exact ⟨l.length, by rw [List.drop_eq_nil_of_le (Nat.le_refl _)]; rfl⟩
  | some x =>
    cases bad with
    | true => have := h.1 rfl; cases this
    | false =>
      have e := (h.2 rfl).1
      exact ⟨(cnt x.1).length, by rw [e, List.drop_left]; rfl⟩
theorem RCb.byte {bad : Bool} {l : List Int} {r : Option (Nat × List Int)} (h : RCb bad l r) (hB : ByteL l) : ByteL (rcL r) ∧ (rcL r).length ≤ l.length := by
  obtain ⟨n, e⟩ := h.part'
  rw [e]
  exact ⟨fun x hx => hB x (List.mem_of_mem_drop hx), by simp⟩
theorem RCb.less {bad : Bool} {l : List Int} {r : Option (Nat × List Int)} (h : RCb bad l r) (h0 : 0 < l.length) : (rcL r).length < l.length := by
  cases r with
  | none => exact h0
  | some x =>
    cases bad with
    | true => have := h.1 rfl; cases this
    | false =>
      have e := (h.2 rfl).1
      have hc : 0 < (cnt x.1).length := by
        have := cnt_ne x.1
        exact List.length_pos_iff.2 this
      rw [e, List.length_append]
      show x.2.length < _
      omega
theorem sm_step {u : Nat} {rest l : List Int} {bad : Bool} {res : Option (Nat × List Int)} (hb : bad = false) (hl : l = cnt u ++ rest) (hu : u < 4611686018427387904) (h : RCb bad l res) : smN res = u ∧ rcL res = rest ∧ res.isNone = false := by
  subst hb hl
  have e : res = some (u, rest) := (h.2 rfl).uniq (RC.cnt rest (by omega))
  subst e
  refine ⟨?_, rfl, rfl⟩
  show ((u % 4611686018427387904 : Nat) : Int) = _
  rw [Nat.mod_eq_of_lt hu]
theorem Holds.keepA' {H H' : Hp} {w : Nat} {a : Option Addr} {m cap n : Nat} {cs : List Value} (h : Holds H w (.slice a m cap) n cs) (hA : ∀ A o, a = some A → H A.block = some o → H' A.block = some o) : Holds H' w (.slice a m cap) n cs := by
  obtain ⟨h1, h2 | ⟨b, o, c, x, T, F, h2, h3, h4⟩⟩ := h
  · exact ⟨h1, .inl h2⟩
  · injection h2 with e1 e2 e3
    exact ⟨h1, .inr ⟨b, o, c, x, T, F, by rw [e1, e2, e3], hA _ _ e1 h3, h4⟩⟩
theorem RD.keep {H H' : Hp} {p : Nat} {a : Option Addr} {cap : Nat} {l : List Int} {bad : Bool} (h : RD H p a cap l bad) (hp : ∀ o, H p = some o → H' p = some o) (hA : ∀ A o, a = some A → H A.block = some o → H' A.block = some o) : RD H' p a cap l bad :=
  ⟨hp _ h.1, h.2.1, h.2.2.1.keepA' hA, h.2.2.2⟩
theorem RD.inG {G H H' : Hp} {p : Nat} {a : Option Addr} {cap : Nat} {l : List Int} {bad : Bool} (h : RD H p a cap l bad) (hp : ∀ o, H p = some o → H' p = some o) (lH : Le G H) (lH' : Le G H') (hA : ∀ A, a = some A → ∃ o, G A.block = some o) : RD H' p a cap l bad := h.keep hp (fun A o e ho => by
  obtain ⟨o', g⟩ := hA A e
  have := lH _ _ g
  rw [ho] at this
  injection this with this
  subst this
  exact lH' _ _ g)
theorem SameB.inG {G : Hp} {a a' : Option Addr} (hA : ∀ A, a = some A → ∃ o, G A.block = some o) (h : SameB a a') : ∀ A, a' = some A → ∃ o, G A.block = some o := fun A e => by
  obtain ⟨A0, h1, h2⟩ := h A e
  rw [← h2]; exact hA A0 h1
def Q0 (L l : List Int) (bad : Bool) (st : Int) : Prop := ∀ m : Mf, m.Ok → L = m.sealB → bad = false ∧ l = m.by_ ∧ st = m.gen
def Q4 (L l : List Int) (bad : Bool) (st e b a n : Int) : Prop := ∀ m : Mf, m.Ok → L = m.sealB → bad = false ∧ st = m.gen ∧ e = m.ep ∧ b = m.ba ∧ a = m.ar ∧ n = m.ln ∧ l = cnt m.hd.length ++ (cnts m.hd ++ [77])
def QH (L l : List Int) (bad : Bool) (x : Mf) (n : Int) : Prop := ∀ m : Mf, m.Ok → L = m.sealB → bad = false ∧ x = { m with hd := m.hd.take x.hd.length } ∧ n = m.hd.length ∧ x.hd.length ≤ m.hd.length ∧ l = cnts (m.hd.drop x.hd.length) ++ [77]
theorem Q0.four {L l : List Int} {st : Int} (q : Q0 L l false st) {r1 r2 r3 r4 : Option (Nat × List Int)} (h1 : RCb false l r1) (h2 : RCb r1.isNone (rcL r1) r2) (h3 : RCb r2.isNone (rcL r2) r3) (h4 : RCb r3.isNone (rcL r3) r4) : Q4 L (rcL r4) r4.isNone st (smN r1) (smN r2) (smN r3) (smN r4) := fun m hm e => by
  obtain ⟨_, hl, hs⟩ := q m hm e
  rw [m.by_eq] at hl
  obtain ⟨he, hb, ha, hn⟩ := And.intro hm.e (And.intro hm.b (And.intro hm.a hm.l))
  obtain ⟨a1, a2, a3⟩ := sm_step rfl hl (by omega) h1
  obtain ⟨b1, b2, b3⟩ := sm_step a3 a2 (by omega) h2
  obtain ⟨c1, c2, c3⟩ := sm_step b3 b2 (by omega) h3
  obtain ⟨d1, d2, d3⟩ := sm_step c3 c2 (by omega) h4
  exact ⟨d3, hs, by omega, by omega, by omega, by omega, d2⟩
theorem Q4.heads {L l : List Int} {bad : Bool} {st e b a n : Int} (q : Q4 L l bad st e b a n) {r : Option (Nat × List Int)} (h : RCb bad l r) : QH L (rcL r) r.isNone ⟨st, e, b, a, n, []⟩ (smN r) := fun m hm hL => by
  obtain ⟨h1, h2, h3, h4, h5, h6, h7⟩ := q m hm hL
  have := hm.n
  obtain ⟨a1, a2, a3⟩ := sm_step h1 h7 (by omega) h
  refine ⟨a3, ?_, a1, Nat.zero_le _, by rw [a2]; rfl⟩
  subst h2 h3 h4 h5 h6
  rfl
theorem QH.next {L l : List Int} {bad : Bool} {x : Mf} {n : Int} (q : QH L l bad x n) (hx : (x.hd.length : Int) < n) {r : Option (Nat × List Int)} (h : RCb bad l r) : QH L (rcL r) r.isNone { x with hd := x.hd ++ [smN r] } n := fun m hm hL => by
  obtain ⟨h1, h2, h3, h4, h5⟩ := q m hm hL
  have hlt : x.hd.length < m.hd.length := by omega
  have hd : m.hd.drop x.hd.length = m.hd.getD x.hd.length 0 :: m.hd.drop (x.hd.length + 1) := by
    rw [List.getD_eq_getElem?_getD, List.getElem?_eq_getElem hlt]
    exact List.drop_eq_getElem_cons hlt
  have hmem : m.hd.getD x.hd.length 0 ∈ m.hd := by
    rw [List.getD_eq_getElem?_getD, List.getElem?_eq_getElem hlt]; exact List.getElem_mem hlt
  have hr := hm.h _ hmem
  rw [hd, cnts_cons, List.append_assoc] at h5
  obtain ⟨a1, a2, a3⟩ := sm_step h1 h5 (by omega) h
  have e1 : smN r = m.hd.getD x.hd.length 0 := by omega
  have e0 : x.hd = m.hd.take x.hd.length := by
    have := congrArg Mf.hd h2; exact this
  refine ⟨a3, ?_, h3, by simp; omega, by rw [a2]; simp⟩
  rw [e1]
  have e2 : x.hd ++ [m.hd.getD x.hd.length 0] = m.hd.take (x.hd.length + 1) := by rw [take_snoc hlt, ← e0]
  have e3 : (x.hd ++ [m.hd.getD x.hd.length 0]).length = x.hd.length + 1 := by simp
  show Mf.mk x.gen x.ep x.ba x.ar x.ln (x.hd ++ [m.hd.getD x.hd.length 0]) = Mf.mk m.gen m.ep m.ba m.ar m.ln (m.hd.take (x.hd ++ [m.hd.getD x.hd.length 0]).length)
  rw [e3, e2]
  have f1 := congrArg Mf.gen h2; have f2 := congrArg Mf.ep h2; have f3 := congrArg Mf.ba h2; have f4 := congrArg Mf.ar h2; have f5 := congrArg Mf.ln h2
  simp only at f1 f2 f3 f4 f5
  rw [f1, f2, f3, f4, f5]
theorem QH.end {L l : List Int} {bad : Bool} {x : Mf} {n : Int} (q : QH L l bad x n) (h : ¬ ((x.hd.length : Int) < n ∧ 0 < l.length)) {m : Mf} (hm : m.Ok) (hL : L = m.sealB) : x = m := by
  obtain ⟨h1, h2, h3, h4, h5⟩ := q m hm hL
  have hl : 0 < l.length := by rw [h5]; simp
  have : x.hd.length = m.hd.length := by omega
  rw [h2, this, List.take_length]
theorem opM_end {L l : List Int} {bad : Bool} {x : Mf} {n : Int} (q : QH L l bad x n) (h : ¬ ((x.hd.length : Int) < n ∧ 0 < l.length)) : (x.bad = none → x.sealB = L → opM L = some x) ∧ (¬ (x.bad = none ∧ x.sealB = L) → opM L = none) := by
  have hb : x.bad = none ↔ x.Ok := by
    unfold Mf.bad
    rw [← Mf.good_iff]
    split <;> simp_all
  refine ⟨fun h1 h2 => opM_some (hb.1 h1) h2.symm, fun hn => opM_none fun m hm hL => hn ?_⟩
  have := q.end h hm hL
  subst this
  exact ⟨hb.2 hm, hL.symm⟩
theorem opM_yes {L : List Int} {m : Mf} (h : opM L = some m) : opMv L = m ∧ opMe L = none := by
  unfold opMv opMe; rw [h]; exact ⟨rfl, rfl⟩
theorem opM_no {L : List Int} (h : opM L = none) : opMv L = ⟨0, 0, 0, 0, 0, []⟩ ∧ opMe L = some 9 := by
  unfold opMv opMe; rw [h]; exact ⟨rfl, rfl⟩
theorem opM_bad {L : List Int} (h : openI L = none) : opM L = none := opM_none fun m hm hL => by
  rw [hL, hm.open] at h; cases h
theorem Q0.start {L : List Int} : Q0 L (opD L) false (opS L) := fun m hm hL => by
  have h := open_vals (hL ▸ hm.open : openI L = some (m.gen, 3, m.by_))
  exact ⟨rfl, h.2.2.1, h.1⟩
end Go.Proofs.Ytigofhhonnbkmaa.HL
end
section
namespace Go.Proofs.Ytigofhhonnbkmaa.HL
open Go Go.Proofs
set_option linter.unusedSimpArgs false
set_option linter.unusedVariables false
attribute [local irreducible] Lt Lq CW OW TW CallH
theorem ybD {p q : Prop} (h : q) (e : p = q := by simp only [x_alloc, zr27, zay, Value.cells, eX, ↓reduceIte, Nat.reduceEqDiff, Int.reduceToNat]; exact rfl) : p := e.mpr h
theorem ybE {p q : Prop} (h : q) (e : p = q := by simp only [x_build, bp27, List.map_toArray, List.map_cons, List.map_nil, eX, ↓reduceIte, Nat.reduceEqDiff, Int.reduceToNat]; exact rfl) : p := e.mpr h
theorem ybF {p q : Prop} (h : q) (e : p = q := by simp only [zaF _ bd44, List.map_toArray, List.map_cons, List.map_nil, eX, ↓reduceIte, Nat.reduceEqDiff, Int.reduceToNat]; exact rfl) : p := e.mpr h
theorem ybG {p q : Prop} (h : q) (e : p = q := by simp only [zaF _ bd10, List.map_toArray, List.map_cons, List.map_nil, eX, ↓reduceIte, Nat.reduceEqDiff, Int.reduceToNat]; exact rfl) : p := e.mpr h
set_option maxRecDepth 100000 in
set_option maxHeartbeats 8000000 in
theorem mOpen_ok (H : Hp) (L : List Int) (hc : L.length = 64) (hBL : ByteL L) : CallH Try.prog 15 #[.agg (u8s L).toArray] H (fun v H' => Le H H' ∧ ∃ x rs, v = .tuple #[.agg #[.int .i64 (opMv L).gen, .int .i64 (opMv L).ep, .int .i64 (opMv L).ba, .int .i64 (opMv L).ar, .int .i64 (opMv L).ln, x], errV (opMe L)] ∧ OwnS H' 3 1 x (opMv L).hd.length (i64s (opMv L).hd) rs ∧ ∀ r, rs = some r → H r = none) := by
 refine zam (l := [_]) (rl := [.cell 2 27, .tmp 3]) (n := 68) Try.func15 rfl rfl rfl rfl rfl ?_
 refine yaa ?_
 have hDl := opD_len L
 have hDB := opD_byte hBL
 refine zac (fun K1 hK1 => ?_)
 refine zaa ?_
 refine zab (fun K hK r => ?_)
 refine yaW ?_
 intro b1 hb1
 have f1_H : H b1 = none := zag lhA hb1
 refine yaf ?_
 refine hK _ _ ?_; clear hK K
 refine zab (fun K hK r => ?_)
 refine ybD ?_
 intro b2 hb2
 try have n2_b1 : b1 ≠ b2 := zaf hbA hb2
 have f2_H : H b2 = none := zag lhA hb2
 refine yaf ?_
 refine hK _ _ ?_; clear hK K
 refine zaj rfl ?_
 refine zad ?_
 refine yab ?_
 refine hK1 _ _ ?_; try clear hK1 K1
 refine zac (fun K2 hK2 => ?_)
 refine zaa ?_
 refine zab (fun K hK r => ?_)
 refine yap ?_
 first | refine zax Try.underlying30 rfl sz30 hbA bdA ?_ | refine zaq Try.underlying30 rfl sz30 hbA bdA ?_
 refine yaf ?_
 refine hK _ _ ?_; clear hK K
 refine zab (fun K hK r => ?_)
 simp only [zaF _ bd42, List.map_toArray, List.map_cons, List.map_nil, eX, ↓reduceIte, Nat.reduceEqDiff, Int.reduceToNat]
 refine (Open_R _ L hc hBL).mono ?_
 rintro v13 H13 ⟨x13, ⟨hl13, rs13, ho13, hr13⟩, rfl⟩
 obtain ⟨a13, c13, rfl⟩ := ho13.holds.form
 try have kH13_b1 := hl13 b1 _ hbA
 try have kH13_b2 := hl13 b2 _ hbA
 have lH13_H : Le H H13 := Le.trans lhA hl13
 refine yaf ?_
 refine hK _ _ ?_; clear hK K
 refine zah rfl ?_
 refine zab (fun K hK r => ?_)
 refine yah ?_
 refine hK _ _ ?_; clear hK K
 refine zab (fun K hK r => ?_)
 refine yah ?_
 refine hK _ _ ?_; clear hK K
 refine zab (fun K hK r => ?_)
 refine ybc ?_
 intro b4 hb4
 try have n4_b1 : b1 ≠ b4 := zaf hbA hb4
 try have n4_b2 : b2 ≠ b4 := zaf hbA hb4
 have f4_H : H b4 = none := zag lhA hb4
 refine yaf ?_
 refine hK _ _ ?_; clear hK K
 refine zaI rfl (zas) (fun K hK r => ?_)
 refine yaD ?_
 first | refine zak sz89 bdA hbA bdA plA (by decide) ?_ | refine zal sz89 bdA hbA bdA plA (by decide) ?_
 refine yaf ?_
 refine hK _ _ ?_; clear hK K
 refine zaj rfl ?_
 refine zad ?_
 refine yab ?_
 refine hK2 _ _ ?_; try clear hK2 K2
 refine zac (fun K3 hK3 => ?_)
 refine zac (fun K4 hK4 => ?_)
 refine zaa ?_
 refine zah rfl ?_
 refine zab (fun K hK r => ?_)
 refine yae ?_
 first | rw [b_err_neq _ _ Try.underlying32] | (rw [e_neq _ _ _ _ (by simp), zaM]; first | rw [q_iface_nil _ _ _ Try.underlying32] | rw [q_nil_iface _ _ _ Try.underlying32] | rw [q_nil_nil _ _ _ Try.underlying32])
 refine yaf ?_
 refine hK _ _ ?_; clear hK K
 refine zad ?_
 refine yab ?_
 refine hK4 _ _ ?_; try clear hK4 K4
 refine zar (fun r => rfl) (fun c17 => ?_) (fun c17 => ?_)
 ·first
  |(exfalso; exact cnA c17; done)
  |skip
   have hopn : openI L = none := by
    cases h : openI L with
    |none => rfl
    |some x => exfalso; unfold opE at c17; rw [h] at c17; cases c17
   refine zac (fun K5 hK5 => ?_)
   refine zaa ?_
   refine zab (fun K hK r => ?_)
   refine ybE ?_
   refine ybe ?_
   refine yaf ?_
   refine hK _ _ ?_; clear hK K
   refine zab (fun K hK r => ?_)
   refine yaF ?_
   refine hK _ _ ?_; clear hK K
   refine zaI rfl (zas) (fun K hK r => ?_)
   refine yaD ?_
   first | refine zak sz27 bdA hbA bdA plA (by decide) ?_ | refine zal sz27 bdA hbA bdA plA (by decide) ?_
   refine yaf ?_
   refine hK _ _ ?_; clear hK K
   refine zaj rfl ?_
   refine zad ?_
   refine yab ?_
   refine hK5 _ _ ?_; try clear hK5 K5
   refine zaz ?_
   refine yab ?_
   obtain ⟨e1, e2⟩ := opM_no (opM_bad hopn)
   rw [e1, e2]
   refine ⟨[_, _], ⟨⟨_, rfl, zaC Try.underlying27 rfl sz27 hbA bdA⟩, rfl, trivial⟩, _, Le.refl _, lhA, .slice none 0 0, none, ?_, OwnS.nil _ _ _, fun r hr => by cases hr⟩
   rfl
 ·first
  |(exfalso; exact cnA c17; done)
  |skip
   skip
   refine zau ?_
   refine yab ?_
   refine hK3 _ _ ?_; try clear hK3 K3
   refine zac (fun K6 hK6 => ?_)
   refine zaa ?_
   refine zab (fun K hK r => ?_)
   simp only [zao, fa89_2, zaH, Nat.reduceAdd, Nat.zero_add, eX, ↓reduceIte, Nat.reduceEqDiff, Int.reduceToNat]
   refine hK _ _ ?_; clear hK K
   refine zab (fun K hK r => ?_)
   refine yap ?_
   refine zae Try.underlying80 rfl hbA ldA ?_
   refine yaf ?_
   refine hK _ _ ?_; clear hK K
   refine zab (fun K hK r => ?_)
   simp only [zaF _ bd43, List.map_toArray, List.map_cons, List.map_nil, eX, ↓reduceIte, Nat.reduceEqDiff, Int.reduceToNat]
   refine (newReader_ok _ _ (opD L) (ho13.holds.le lhA) (by omega)).mono ?_
   rintro v22 H22 ⟨hl22, p, a22, c22, rfl, hp0, hr22, hA22⟩
   have k22_1 := hl22 b1 _ hbA
   have k22_2 := hl22 b2 _ hbA
   have k22_4 := hl22 b4 _ hbA
   have np1 : b1 ≠ p := zaf hbA hp0
   have np2 : b2 ≠ p := zaf hbA hp0
   have np4 : b4 ≠ p := zaf hbA hp0
   have lH22_H : Le H H22 := Le.trans lhA hl22
   have fp_H : H p = none := zag lhA hp0
   have kp22 := hr22.1
   obtain ⟨G, hG⟩ : ∃ G : Hp, G = H22.del p := ⟨_, rfl⟩
   have gp : G p = none := by rw [hG]; exact del_self _ _
   have lG : Le H G := by rw [hG]; exact le_del_of lH22_H fp_H
   have g1 : G b1 = _ := (by rw [hG]; exact del_ne _ np1 : G b1 = H22 b1).trans k22_1
   have g2 : G b2 = _ := (by rw [hG]; exact del_ne _ np2 : G b2 = H22 b2).trans k22_2
   have g4 : G b4 = _ := (by rw [hG]; exact del_ne _ np4 : G b4 = H22 b4).trans k22_4
   have gA : ∀ A, a22 = some A → ∃ o, G A.block = some o := fun A hA => by
    obtain ⟨_, h2, c, h3, _⟩ := hA22 A hA
    exact ⟨_, by rw [hG, del_ne _ h2]; exact h3⟩
   refine yaf ?_
   refine hK _ _ ?_; clear hK K
   refine zaj rfl ?_
   refine zad ?_
   refine yab ?_
   refine hK6 _ _ ?_; try clear hK6 K6
   refine zac (fun K7 hK7 => ?_)
   obtain ⟨R5, hR5⟩ : ∃ R : Hp, R = emptyHp.upd b4 (.cells #[.int .i64 (opS L), .int .i64 (opK L), .slice a13 (opD L).length c13] 89) := ⟨_, rfl⟩
   refine CW_drawR [0, 1, 0, 2, 0, 2, 0, 2, 0, 2, 0, 4, 3] [0, 1, 2, 3, 4, 5, 6, 7, 8, 9, 10, 11, 12] R5 (by kernel_rfl) (by kernel_rfl) (by subst hR5; exact le_put (zaN _) k22_4) (fun lR5 => ?_)
   apply zat rfl (zai (by decide)) rfl
   ·intro r
    simp only [zao, fa89_0, zaH, Nat.reduceAdd, Nat.zero_add, eX, ↓reduceIte, Nat.reduceEqDiff]
    exact ⟨rfl, Le.refl _⟩
   refine yaj ?_
   apply zaO rfl (zai (by decide)) rfl
   ·intro r
    refine yba ?_
    refine zae Try.underlying3 rfl hbA ldA ?_
    exact ⟨rfl, Le.refl _⟩
   refine yaj ?_
   apply zat rfl (zai (by decide)) rfl
   ·intro r
    refine yaI ?_
    exact ⟨rfl, Le.refl _⟩
   refine yaj ?_
   refine TW_chain rfl (zai (by decide)) rfl (fun K hK r => ?_)
   refine ybF ?_
   refine (small_ok _ p _ _ _ _ hr22 hDB (by omega)).mono ?_
   rintro v26 H26 ⟨res1, hq26, rfl, a26, c26, hr26, ⟨o26, rfl⟩, hs26⟩
   obtain ⟨hB26, hl26⟩ := hq26.byte hDB
   try rw [upd_upd] at hr26
   try rw [upd_upd]
   have lR26 : Le R5 (H22.upd p o26) := by rw [hR5]; exact le_put (zaN _) ((zap _ _ np4).trans k22_4)
   refine yaf ?_
   refine hK _ _ leA ?_; clear hK K
   apply zat rfl (zai (by decide)) rfl
   ·intro r
    refine yaI ?_
    exact ⟨rfl, Le.refl _⟩
   refine yaj ?_
   refine TW_chain rfl (zai (by decide)) rfl (fun K hK r => ?_)
   refine ybF ?_
   refine (small_ok _ p _ _ _ _ hr26 hB26 (by omega)).mono ?_
   rintro v28 H28 ⟨res2, hq28, rfl, a28, c28, hr28, ⟨o28, rfl⟩, hs28⟩
   obtain ⟨hB28, hl28⟩ := hq28.byte hB26
   try rw [upd_upd] at hr28
   try rw [upd_upd]
   have lR28 : Le R5 (H22.upd p o28) := by rw [hR5]; exact le_put (zaN _) ((zap _ _ np4).trans k22_4)
   refine yaf ?_
   refine hK _ _ leA ?_; clear hK K
   apply zat rfl (zai (by decide)) rfl
   ·intro r
    refine yaI ?_
    exact ⟨rfl, Le.refl _⟩
   refine yaj ?_
   refine TW_chain rfl (zai (by decide)) rfl (fun K hK r => ?_)
   refine ybF ?_
   refine (small_ok _ p _ _ _ _ hr28 hB28 (by omega)).mono ?_
   rintro v30 H30 ⟨res3, hq30, rfl, a30, c30, hr30, ⟨o30, rfl⟩, hs30⟩
   obtain ⟨hB30, hl30⟩ := hq30.byte hB28
   try rw [upd_upd] at hr30
   try rw [upd_upd]
   have lR30 : Le R5 (H22.upd p o30) := by rw [hR5]; exact le_put (zaN _) ((zap _ _ np4).trans k22_4)
   refine yaf ?_
   refine hK _ _ leA ?_; clear hK K
   apply zat rfl (zai (by decide)) rfl
   ·intro r
    refine yaI ?_
    exact ⟨rfl, Le.refl _⟩
   refine yaj ?_
   refine TW_chain rfl (zai (by decide)) rfl (fun K hK r => ?_)
   refine ybF ?_
   refine (small_ok _ p _ _ _ _ hr30 hB30 (by omega)).mono ?_
   rintro v32 H32 ⟨res4, hq32, rfl, a32, c32, hr32, ⟨o32, rfl⟩, hs32⟩
   obtain ⟨hB32, hl32⟩ := hq32.byte hB30
   try rw [upd_upd] at hr32
   try rw [upd_upd]
   have lR32 : Le R5 (H22.upd p o32) := by rw [hR5]; exact le_put (zaN _) ((zap _ _ np4).trans k22_4)
   have q4 := (Q0.start (L := L)).four hq26 hq28 hq30 hq32
   refine yaf ?_
   refine hK _ _ leA ?_; clear hK K
   apply zat rfl (zai (by decide)) rfl
   ·intro r
    simp only [x_build, bp27, List.map_toArray, List.map_cons, List.map_nil, eX, ↓reduceIte, Nat.reduceEqDiff]
    rw [fill_one rfl clA bdA]
    rw [fill_one rfl clA bdA]
    rw [fill_one rfl clA bdA]
    rw [fill_one rfl clA bdA]
    rw [fill_one rfl clA bdA]
    refine ybe ?_
    exact ⟨rfl, Le.refl _⟩
   refine yaj ?_
   refine TW_make rfl (zai (by decide)) rfl (fun K hK r => ?_)
   refine ybD ?_
   intro b7 hb7
   try have n7_b1 : b1 ≠ b7 := zaf hbA hb7
   try have n7_b2 : b2 ≠ b7 := zaf hbA hb7
   try have n7_b4 : b4 ≠ b7 := zaf hbA hb7
   have f7_H : H b7 = none := zag lhA hb7
   have f7_R5 : R5 b7 = none := zag lhA hb7
   refine yaf ?_
   refine hK _ _ ?_; clear hK K
   refine TW_last rfl (zas) rfl (fun K hK r => ?_)
   refine yaD ?_
   first | refine zak sz27 bdA hbA bdA plA (by decide) ?_ | refine zal sz27 bdA hbA bdA plA (by decide) ?_
   refine yaf ?_
   refine hK _ _ ?_; clear hK K
   refine TW_nil ?_
   refine yab ?_
   refine hK7 _ _ ?_; try clear hK7 K7
   refine zac (fun K8 hK8 => ?_)
   refine zac (fun K9 hK9 => ?_)
   refine zaa ?_
   refine zah rfl ?_
   refine zab (fun K hK r => ?_)
   refine ybF ?_
   have k7p : b7 ≠ p := fun e => by rw [e] at hb7; rw [zan] at hb7; cases hb7
   have hr35 : RD ((H22.upd p o32).upd b7 (.cells #[.int .i64 (opS L), .int .i64 (smN res1), .int .i64 (smN res2), .int .i64 (smN res3), .int .i64 (smN res4), .slice none 0 0] 27)) p a32 c32 (rcL res4) res4.isNone := hr32.keep (fun o ho => by rw [zap _ _ k7p.symm]; exact ho) (fun A o _ ho => by rw [zap _ _ (fun e => by rw [e, hb7] at ho; cases ho)]; exact ho)
   refine (small_ok _ p _ _ _ _ hr35 hB32 (by omega)).mono ?_
   rintro v35 H35 ⟨res5, hq35, rfl, a35, c35, hr35', ⟨o35, rfl⟩, hs35⟩
   obtain ⟨hB35, hl35⟩ := hq35.byte hB32
   have q5 := q4.heads hq35
   obtain ⟨HS, hHS⟩ : ∃ HS : Hp, HS = ((H22.upd p o32).upd b7 (.cells #[.int .i64 (opS L), .int .i64 (smN res1), .int .i64 (smN res2), .int .i64 (smN res3), .int .i64 (smN res4), .slice none 0 0] 27)).upd p o35 := ⟨_, rfl⟩
   rw [← hHS] at hr35' ⊢
   have g7 : G b7 = none := zag (fun b o hb => by rw [hG] at hb; rw [zap _ _ (fun e => by rw [e, del_self] at hb; cases hb)]; exact le_del _ _ b o hb) hb7
   have lGS : Le G HS := fun b o hb => by
    have n1 : b ≠ p := fun e => by rw [e, gp] at hb; cases hb
    have n2 : b ≠ b7 := fun e => by rw [e, g7] at hb; cases hb
    rw [hHS, zap _ _ n1, zap _ _ n2, zap _ _ n1]
    rw [hG] at hb
    exact le_del _ _ b o hb
   have kS7 : HS b7 = some (.cells #[.int .i64 (opS L), .int .i64 (smN res1), .int .i64 (smN res2), .int .i64 (smN res3), .int .i64 (smN res4), .slice none 0 0] 27) := by rw [hHS, zap _ _ k7p]; exact zan _ _ _
   have hsb5 : SameB a22 a35 := (((hs26.trans hs28).trans hs30).trans hs32).trans hs35
   refine yaf ?_
   refine hK _ _ ?_; clear hK K
   refine zaj rfl ?_
   refine zad ?_
   refine yab ?_
   refine hK9 _ _ ?_; try clear hK9 K9
   refine zaB ?_
   refine CW_loop (fun m_ e H_ => ∃ (hs l : List Int) (bad : Bool) (a vca : Option Addr) (c vc : Nat) (rs : Option Nat), m_ = l.length ∧ l.length + hs.length ≤ 50 ∧ ByteL l ∧ RD H_ p a c l bad ∧ SameB a22 a ∧ Le G H_ ∧ H_ b7 = some (.cells #[.int .i64 (opS L), .int .i64 (smN res1), .int .i64 (smN res2), .int .i64 (smN res3), .int .i64 (smN res4), .slice vca hs.length vc] 27) ∧ OwnS H_ 3 1 (.slice vca hs.length vc) hs.length (i64s hs) rs ∧ (∀ r, rs = some r → G r = none ∧ r ≠ p ∧ r ≠ b7) ∧ QH L l bad (Mf.mk (opS L) (smN res1) (smN res2) (smN res3) (smN res4) hs) (smN res5) ∧ Env.has [(1, .pointer (some ⟨b1, 0, none⟩)), (2, .pointer (some ⟨b2, 0, none⟩)), (6, .pointer (some ⟨p, 0, none⟩)), (7, .pointer (some ⟨b7, 0, none⟩)), (8, .int .i64 (smN res5))] e) ((rcL res5).length) ?_ ?_
   ·skip
    exact ⟨[], rcL res5, res5.isNone, a35, none, c35, 0, none, rfl, by simp; omega, hB35, hr35', hsb5, lGS, kS7, OwnS.nil _ _ _, (fun r hr => by cases hr), q5, rfl, rfl, rfl, rfl, rfl, trivial⟩
   intro m_ e_ H_ hI_
   obtain ⟨hs, l, bad, a, vca, c, vc, rs, rfl, hln, hBl, hrd, hsb, lGH, k7, ho, hrs, hQ, he⟩ := hI_
   refine CW_env he.sub ?_; clear he e_
   have kp := hrd.1
   have k1 := lGH b1 _ g1
   have k2 := lGH b2 _ g2
   have nrp : rs ≠ some p := fun e => (hrs _ e).2.1 rfl
   refine zac (fun K10 hK10 => ?_)
   refine zac (fun K11 hK11 => ?_)
   refine zaa ?_
   refine zab (fun K hK r => ?_)
   refine ybA ?_
   refine hK _ _ ?_; clear hK K
   refine zab (fun K hK r => ?_)
   refine yap ?_
   refine zae Try.underlying22 rfl hbA ldA ?_
   refine yaf ?_
   refine hK _ _ ?_; clear hK K
   refine zab (fun K hK r => ?_)
   refine ybt ?_
   refine hK _ _ ?_; clear hK K
   refine zah rfl ?_
   refine zab (fun K hK r => ?_)
   refine yac ?_
   refine hK _ _ ?_; clear hK K
   refine zah rfl ?_
   (first | refine zaA (d := 41) rfl (fun g41 => ?_) (fun g41 => ?_) | skip)
   all_goals try (exfalso; exact cnA g41)
   all_goals (try replace g41 := yad g41)
   all_goals
    refine yaf ?_
    first
    |refine yGT (fun K hK r => ?_)
     refine yai ?_
     refine hK _ _ ?_; clear hK K
    |refine yGF ?_
     refine yaj ?_
    first
    |refine yGT (fun K hK r => ?_)
     simp only [zaF _ bd45, List.map_toArray, List.map_cons, List.map_nil, eX, ↓reduceIte, Nat.reduceEqDiff, Int.reduceToNat]
     refine (rLeft_ok _ p _ _ _ _ hrd).mono ?_
     rintro v H' ⟨rfl, hq⟩
     have hq := hq.symm
     subst hq
     refine yaf ?_
     refine hK _ _ ?_; clear hK K
    |refine yGF ?_
     refine yaj ?_
    first
    |refine yGT (fun K hK r => ?_)
     refine yaZ ?_
     refine hK _ _ ?_; clear hK K
    |refine yGF ?_
     refine yaj ?_
    refine zab (fun K hK r => ?_)
    refine yal ?_
    refine hK _ _ ?_; clear hK K
    refine zad ?_
    refine yab ?_
    refine hK11 _ _ ?_; try clear hK11 K11
    refine zar (fun r => rfl) (fun c45 => ?_) (fun c45 => ?_)
    ·first
     |(exfalso; exact cnA c45; done)
     |skip
      (try replace c45 := yad c45)
      refine zau ?_
      refine yab ?_
      refine hK10 _ _ ?_; try clear hK10 K10
      refine zaB ?_
      obtain ⟨R8, hR8⟩ : ∃ R : Hp, R = emptyHp.upd b7 (.cells #[.int .i64 (opS L), .int .i64 (smN res1), .int .i64 (smN res2), .int .i64 (smN res3), .int .i64 (smN res4), .slice vca hs.length vc] 27) := ⟨_, rfl⟩
      refine CW_drawR [0, 1, 0, 2, 2, 3, 0, 3] [0, 1, 2, 3, 4, 5, 6, 7] R8 (by kernel_rfl) (by kernel_rfl) (by subst hR8; exact le_put (zaN _) k7) (fun lR8 => ?_)
      apply zat rfl (zai (by decide)) rfl
      ·intro r
       simp only [zao, fa27_5, zaH, Nat.reduceAdd, Nat.zero_add, eX, ↓reduceIte, Nat.reduceEqDiff]
       exact ⟨rfl, Le.refl _⟩
      refine yaj ?_
      apply zaO rfl (zai (by decide)) rfl
      ·intro r
       refine yba ?_
       refine zae Try.underlying22 rfl hbA ldA ?_
       exact ⟨rfl, Le.refl _⟩
      refine yaj ?_
      apply zat rfl (zai (by decide)) rfl
      ·intro r
       refine yaI ?_
       exact ⟨rfl, Le.refl _⟩
      refine yaj ?_
      refine TW_chain rfl (zai (by decide)) rfl (fun K hK r => ?_)
      refine ybF ?_
      refine (small_ok _ p _ _ _ _ hrd hBl (by omega)).mono ?_
      rintro v49 H49 ⟨res6, hq49, rfl, a49, c49, hr49, ⟨o49, rfl⟩, hs49⟩
      obtain ⟨hB49, hl49⟩ := hq49.byte hBl
      have hless := hq49.less (by omega)
      have lR49 : Le R8 (H_.upd p o49) := by rw [hR8]; exact le_put (zaN _) ((zap _ _ k7p).trans k7)
      have w7 : (H_.upd p o49) b7 = _ := (zap _ _ k7p).trans k7
      have lR5_49 : Le R5 (H_.upd p o49) := by rw [hR5]; exact le_put (zaN _) ((zap _ _ np4).trans (lGH b4 _ g4))
      have lH_49 : Le H (H_.upd p o49) := zaw (Le.trans lG lGH) fp_H
      have ho49 := ho.upd (o := o49) nrp
      refine yaf ?_
      refine hK _ _ leA ?_; clear hK K
      refine TW_chain rfl (zai (by decide)) rfl (fun K hK r => ?_)
      refine yaT ?_
      refine zaJ (vs := [_]) Try.underlying22 sz3 zr3 rfl bsA (by first | decide | (simp; done)) ?_
      refine yaU ?_
      intro b50 hb50
      try have n50_b1 : b1 ≠ b50 := zaf hbA hb50
      try have n50_b2 : b2 ≠ b50 := zaf hbA hb50
      try have n50_b4 : b4 ≠ b50 := zaf hbA hb50
      try have n50_b7 : b7 ≠ b50 := zaf hbA hb50
      have f50_H : H b50 = none := zag lhA hb50
      have f50_R5 : R5 b50 = none := zag lhA hb50
      have f50_R8 : R8 b50 = none := zag lhA hb50
      refine yaf ?_
      refine hK _ _ leA ?_; clear hK K
      refine TW_last rfl (zai (by decide)) rfl (fun K hK r => ?_)
      refine yaV ?_
      refine Lt_append Try.underlying22 Try.underlying22 (by simp) sz3 by3 (by decide) zr3 rfl _ (n := hs.length) (m := 1) (ds := [.int .i64 (smN res6)]) (ho49.make hb50) (len_slice _ _ _) (fun Kx => ?_) (by simp) plA (by omega) ?_
      ·refine (first_holds (w := 1) (n := 1) (cs := [.int .i64 (smN res6)]) ⟨rfl, .inr ⟨b50, 0, 1, _, _, _, rfl, hbA, by simp, by simp⟩⟩ (Nat.le_refl _) Kx).trans ?_
       rfl
      intro v51 H51 rs51 hg51 ho51 hr51
      obtain ⟨a51, c51, rfl⟩ := ho51.holds.form
      have lGx : Le G (H_.upd p o49) := zaw lGH gp
      have g50 : G b50 = none := zag lGx hb50
      have n50p : p ≠ b50 := fun e => by rw [← e, zan] at hb50; cases hb50
      have n507 : b7 ≠ b50 := fun e => by rw [← e, w7] at hb50; cases hb50
      have k51_7 := hg51.known b7 _ ((zap _ _ n507).trans w7) (fun e => (hrs _ e).2.2 rfl)
      have lG51 : Le G H51 := hg51.le (H0 := G) (zaw lGx g50) (fun r hr => (hrs r hr).1)
      have hA49 := SameB.inG gA (hsb.trans hs49)
      have hrd51 : RD H51 p a49 c49 (rcL res6) res6.isNone := hr49.inG (fun o ho => hg51.known p o ((zap _ _ n50p).trans ho) nrp) lGx lG51 hA49
      have lG7 : ∀ o, Le G (H51.upd b7 o) := fun o => zaw lG51 g7
      have hrd7 : ∀ o, RD (H51.upd b7 o) p a49 c49 (rcL res6) res6.isNone := fun o => hrd51.inG (fun o' ho => by rw [zap _ _ k7p.symm]; exact ho) lG51 (lG7 o) hA49
      have hrs51 : ∀ r, rs51 = some r → G r = none ∧ r ≠ p ∧ r ≠ b7 := fun r e => (hr51 r e).elim (hrs r) (fun hn => ⟨zag (zaw lGx g50) hn, (fun e => by rw [e, zap _ _ n50p, zan] at hn; cases hn), (fun e => by rw [e, zap _ _ n507, w7] at hn; cases hn)⟩)
      have hol : OwnS H51 3 1 (.slice a51 (hs ++ [smN res6]).length c51) (hs ++ [smN res6]).length (i64s (hs ++ [smN res6])) rs51 := by
       rw [List.length_append]
       have : i64s (hs ++ [smN res6]) = i64s hs ++ [.int .i64 (smN res6)] := by simp [i64s]
       rw [this]; exact ho51
      refine hK _ _ ?_; clear hK K
      apply zat rfl (zai (by decide)) rfl
      ·intro r
       simp only [zao, fa27_5, zaH, Nat.reduceAdd, Nat.zero_add, eX, ↓reduceIte, Nat.reduceEqDiff]
       exact ⟨rfl, Le.refl _⟩
      refine yaj ?_
      refine TW_last rfl (zas) rfl (fun K hK r => ?_)
      refine yaD ?_
      refine zaE sz22 hbA bdA plA fzA ?_
      refine yaE ?_
      refine yaf ?_
      refine hK _ _ ?_; clear hK K
      refine TW_nil ?_
      refine yab ?_
      exact ⟨(rcL res6).length, hless, hs ++ [smN res6], rcL res6, res6.isNone, a49, a51, c49, c51, rs51, rfl, by simp; omega, hB49, hrd7 _, hsb.trans hs49, lG7 _, by rw [List.length_append]; exact zan _ _ _, hol.upd (fun e => (hrs51 _ e).2.2 rfl), hrs51, hQ.next (by first | assumption | omega | (simp_all; omega)) hq49, rfl, rfl, rfl, rfl, rfl, trivial⟩
    ·first
     |(exfalso; exact cnA c45; done)
     |skip
      (try replace c45 := yad c45)
      have hexit : ¬ (((Mf.mk (opS L) (smN res1) (smN res2) (smN res3) (smN res4) hs).hd.length : Int) < smN res5 ∧ 0 < l.length) := by
       show ¬ ((hs.length : Int) < smN res5 ∧ 0 < l.length)
       first | omega | (simp_all; done) | (simp_all; omega)
      refine CW_exit ?_
      refine yab ?_
      refine hK8 _ _ ?_; try clear hK8 K8
      refine zac (fun K12 hK12 => ?_)
      refine zac (fun K13 hK13 => ?_)
      refine zaa ?_
      refine zab (fun K hK r => ?_)
      refine yap ?_
      first | refine zax Try.underlying27 rfl sz27 hbA bdA ?_ | refine zaq Try.underlying27 rfl sz27 hbA bdA ?_
      refine ybg ?_
      refine yaf ?_
      refine hK _ _ ?_; clear hK K
      refine zab (fun K hK r => ?_)
      refine ybG ?_
      have hl5 : 0 < 1 := by omega
      refine (mSeal_ok _ (Mf.mk (opS L) (smN res1) (smN res2) (smN res3) (smN res4) hs) _ vc (ho.holds.le lhA) (by show hs.length ≤ _; omega)).mono ?_
      rintro v55 H55 ⟨rfl, l55⟩
      have k55_1 := l55 b1 _ (lGH b1 _ g1)
      have k55_2 := l55 b2 _ (lGH b2 _ g2)
      have k55_7 := l55 b7 _ k7
      have lR55 : Le R5 H55 := by rw [hR5]; exact le_put (zaN _) (Le.trans lGH l55 b4 _ g4)
      have lH55_H : Le H H55 := Le.trans (Le.trans lG lGH) l55
      have hsl := Mf.seal_len (Mf.mk (opS L) (smN res1) (smN res2) (smN res3) (smN res4) hs)
      obtain ⟨hend1, hend2⟩ := opM_end hQ hexit
      refine yaf ?_
      refine hK _ _ ?_; clear hK K
      refine zah rfl ?_
      refine zab (fun K hK r => ?_)
      refine yah ?_
      refine hK _ _ ?_; clear hK K
      refine zab (fun K hK r => ?_)
      refine yah ?_
      refine hK _ _ ?_; clear hK K
      refine zab (fun K hK r => ?_)
      refine yaX ?_
      intro b9 hb9
      try have n9_b1 : b1 ≠ b9 := zaf hbA hb9
      try have n9_b2 : b2 ≠ b9 := zaf hbA hb9
      try have n9_b4 : b4 ≠ b9 := zaf hbA hb9
      try have n9_b7 : b7 ≠ b9 := zaf hbA hb9
      have f9_H : H b9 = none := zag lhA hb9
      have f9_R5 : R5 b9 = none := zag lhA hb9
      refine yaf ?_
      refine hK _ _ ?_; clear hK K
      refine zaI rfl (zas) (fun K hK r => ?_)
      refine yaD ?_
      first | refine zak sz30 bdA hbA bdA plA (by decide) ?_ | refine zal sz30 bdA hbA bdA plA (by decide) ?_
      refine yaf ?_
      refine hK _ _ ?_; clear hK K
      refine zaj rfl ?_
      refine zad ?_
      refine yab ?_
      refine hK13 _ _ ?_; try clear hK13 K13
      refine zac (fun K14 hK14 => ?_)
      refine zaa ?_
      refine zah rfl ?_
      refine zab (fun K hK r => ?_)
      refine yae ?_
      first | rw [b_err_neq _ _ Try.underlying32] | (rw [e_neq _ _ _ _ (by simp), zaM]; first | rw [q_iface_nil _ _ _ Try.underlying32] | rw [q_nil_iface _ _ _ Try.underlying32] | rw [q_nil_nil _ _ _ Try.underlying32])
      refine yaf ?_
      refine hK _ _ ?_; clear hK K
      refine zah rfl ?_
      (first | refine zaA (d := 60) rfl (fun g60 => ?_) (fun g60 => ?_) | skip)
      all_goals try (exfalso; exact cnA g60)
      all_goals (try replace g60 := yad g60)
      all_goals
       refine yaf ?_
       first
       |refine yGT (fun K hK r => ?_)
        refine yap ?_
        first | refine zax Try.underlying30 rfl sz30 hbA bdA ?_ | refine zaq Try.underlying30 rfl sz30 hbA bdA ?_
        refine yaf ?_
        refine hK _ _ ?_; clear hK K
       |refine yGF ?_
        refine yaj ?_
       first
       |refine yGT (fun K hK r => ?_)
        refine yap ?_
        first | refine zax Try.underlying30 rfl sz30 hbA bdA ?_ | refine zaq Try.underlying30 rfl sz30 hbA bdA ?_
        refine yaf ?_
        refine hK _ _ ?_; clear hK K
       |refine yGF ?_
        refine yaj ?_
       first
       |refine yGT (fun K hK r => ?_)
        refine ybh ?_
        rw [e_neq _ _ _ _ (by simp)]
        rw [zaM, q_array 9999 30 5 64 Try.underlying30 _ Try.underlying5 sz5 (fun x y K => q_int 9998 5 _ Try.underlying5 _ x y K) _ _ bdA bdA]
        refine yaf ?_
        refine hK _ _ ?_; clear hK K
       |refine yGF ?_
        refine yaj ?_
       refine zab (fun K hK r => ?_)
       refine yal ?_
       refine hK _ _ ?_; clear hK K
       refine zad ?_
       refine yab ?_
       refine hK14 _ _ ?_; try clear hK14 K14
       refine zar (fun r => rfl) (fun c64 => ?_) (fun c64 => ?_)
       ·first
        |(exfalso; exact cnA c64; done)
        |skip
         (try replace c64 := yad c64)
         refine zac (fun K15 hK15 => ?_)
         refine zaa ?_
         refine zab (fun K hK r => ?_)
         refine ybE ?_
         refine ybe ?_
         refine yaf ?_
         refine hK _ _ ?_; clear hK K
         refine zab (fun K hK r => ?_)
         refine yaF ?_
         refine hK _ _ ?_; clear hK K
         refine zaI rfl (zas) (fun K hK r => ?_)
         refine yaD ?_
         first | refine zak sz27 bdA hbA bdA plA (by decide) ?_ | refine zal sz27 bdA hbA bdA plA (by decide) ?_
         refine yaf ?_
         refine hK _ _ ?_; clear hK K
         refine zaj rfl ?_
         refine zad ?_
         refine yab ?_
         refine hK15 _ _ ?_; try clear hK15 K15
         refine zaz ?_
         refine yab ?_
         have hno : ¬ ((Mf.mk (opS L) (smN res1) (smN res2) (smN res3) (smN res4) hs).bad = none ∧ (Mf.mk (opS L) (smN res1) (smN res2) (smN res3) (smN res4) hs).sealB = L) := by
          rintro ⟨h1, h2⟩
          first
          |(rw [h1] at g60; cases g60; done)
          |exact c64 h2
         obtain ⟨e1, e2⟩ := opM_no (hend2 hno)
         rw [e1, e2]
         refine ⟨[_, _], ⟨⟨_, rfl, zaC Try.underlying27 rfl sz27 hbA bdA⟩, rfl, trivial⟩, _, Le.refl _, lhA, .slice none 0 0, none, ?_, OwnS.nil _ _ _, fun r hr => by cases hr⟩
         rfl
       ·first
        |(exfalso; exact cnA c64; done)
        |skip
         (try replace c64 := yad c64)
         refine zau ?_
         refine yab ?_
         refine hK12 _ _ ?_; try clear hK12 K12
         refine zac (fun K16 hK16 => ?_)
         refine zaa ?_
         refine zab (fun K hK r => ?_)
         refine yap ?_
         first | refine zax Try.underlying27 rfl sz27 hbA bdA ?_ | refine zaq Try.underlying27 rfl sz27 hbA bdA ?_
         refine ybg ?_
         refine yaf ?_
         refine hK _ _ ?_; clear hK K
         refine zaI rfl (zas) (fun K hK r => ?_)
         refine yaD ?_
         first | refine zak sz27 bdA hbA bdA plA (by decide) ?_ | refine zal sz27 bdA hbA bdA plA (by decide) ?_
         refine yaf ?_
         refine hK _ _ ?_; clear hK K
         refine zaj rfl ?_
         refine zad ?_
         refine yab ?_
         refine hK16 _ _ ?_; try clear hK16 K16
         refine zaz ?_
         refine yab ?_
         have hy1 : (Mf.mk (opS L) (smN res1) (smN res2) (smN res3) (smN res4) hs).bad = none := by
          first
          |(cases c64; done)
          |(exact Option.isNone_iff_eq_none.1 (by simpa using g60))
         have hy2 : (Mf.mk (opS L) (smN res1) (smN res2) (smN res3) (smN res4) hs).sealB = L := by
          first
          |(cases c64; done)
          |(simpa using c64)
         obtain ⟨e1, e2⟩ := opM_yes (hend1 hy1 hy2)
         rw [e1, e2]
         refine ⟨[_, _], ⟨⟨_, rfl, zaC Try.underlying27 rfl sz27 hbA bdA⟩, rfl, trivial⟩, _, Le.refl _, lhA, .slice vca hs.length vc, rs, ?_, ((ho.le l55).make hb9).upd (fun e => by have := (hrs _ e).1; rw [g2] at this; cases this), fun r hr => zag lG (hrs r hr).1⟩
         rfl
end Go.Proofs.Ytigofhhonnbkmaa.HL
end
section
namespace Go.Proofs.Ytigofhhonnbkmaa.HL
open Go Go.Proofs
set_option linter.unusedSimpArgs false
set_option linter.unusedVariables false
attribute [local irreducible] Lt Lq CW OW TW CallH
theorem foldl_put : ∀ (l : List Value) (k off : Nat) (c : Array Value), (l.zipIdx k).foldl (fun cs (p : Value × Nat) => cs.setIfInBounds (off + p.2) p.1) c = putCells c (off + k) l
  | [], _, _, _ => rfl
  | v :: r, k, off, c => by
    simp only [List.zipIdx_cons, List.foldl_cons, putCells]
    rw [foldl_put r (k + 1) off]; rfl
theorem fill_many {place : Nat → Option (Nat × Nat)} {c : Array Value} {i off n : Nat} {v : Value} {l : List Value} {r : List (Nat × Value)} (hp : place i = some (off, n)) (hv : v.cells = l.toArray) (hn : l.length = n) (ho : off + n ≤ c.size) : Instr.fill place c ((i, v) :: r) = Instr.fill place (putCells c off l) r := by
  simp only [Instr.fill, hp, hv]
  rw [if_neg (by simp; omega)]
  congr 1
  rw [← Array.foldl_toList, Array.toList_zipIdx]
  exact foldl_put l 0 off c
theorem put_one {a : Value} {z l : List Value} (h : z.length = l.length) : putCells (a :: z).toArray 1 l = (a :: l).toArray := by
  apply Array.ext'
  rw [putCells_toList l _ 1 (by simp; omega)]
  rw [List.drop_eq_nil_of_le (by simp; omega)]; simp
theorem bw_ok (H : Hp) (K : Value → Hp → Prop) (i : Int) (x : Sec) : Lt Try.prog (Instr.build 130 #[(0, .int .i64 i), (1, .agg x.c.toArray)]) H K = K (.agg (Wt.c ⟨i, x⟩).toArray) H := by
  rw [bp130]
  rw [fill_one rfl rfl (by simp)]
  rw [fill_many (l := x.c) (n := 64) rfl rfl x.len (by simp), fill_nil, zay]
  simp only [List.setIfInBounds_toArray, List.set_cons_zero]
  rw [put_one (by rw [x.len]; rfl)]
theorem wt_holds {H : Hp} {b : Nat} {w : Wt} (hb : H b = some (.cells w.c.toArray 130)) : Holds H 65 (.slice (some ⟨b, 0, none⟩) 1 1) 1 w.c := by
  refine ⟨by rw [Wt.len], .inr ⟨b, 0, 1, _, _, _, rfl, hb, by simp [Sec.h], ?_⟩⟩
  rw [Array.toList_extract, List.extract_eq_take_drop]
  exact List.take_of_length_le (by rw [List.drop_zero, Wt.len]; omega)
theorem SX.mono {F K : Hp} {p : Nat} {s : St} {r cap : Nat} {bs : List Nat} {Fs : Nat → Hp} (h : SX F p s r cap bs Fs) (k : Le F K) : SX K p s r cap bs Fs :=
  ⟨k _ _ h.hd, h.len, h.own.le k, h.dev, fun i hi => Le.trans (h.le i hi) k, h.fp, h.sep⟩
theorem SX.ne {F : Hp} {p : Nat} {s : St} {r cap : Nat} {bs : List Nat} {Fs : Nat → Hp} (h : SX F p s r cap bs Fs) : r ≠ p := by
  obtain ⟨_, ⟨h0, _, _⟩ | ⟨r', cc, c, h1, h2, _⟩⟩ := h.own
  · cases h0
  · injection h1 with h1 _ _
    injection h1 with h1
    injection h1 with h1 _ _
    subst h1
    intro e; subst e
    rw [h.hd] at h2; injection h2 with h2; injection h2 with _ h2; revert h2; decide
theorem SX.put2 {F K : Hp} {p : Nat} {s t : St} {r cap : Nat} {bs : List Nat} {Fs : Nat → Hp} (h : SX F p s r cap bs Fs) {i : Nat} (hi : i < s.dv.length) {Fi : Hp} {d : Dv} (hd : DvX Fi (bs.getD i 0) d) (ht : t.dv = s.dv.set i d)
    (hK : K p = some (.cells #[.int .i64 t.steps, .int .i64 t.left, .bool t.armed, .bool t.gone, .slice (some ⟨r, 0, none⟩) s.dv.length cap] 114)) (hle : Le Fi K) (hkeep : ∀ x o, F x = some o → Fs i x = none → x ≠ p → K x = some o) (hnew : ∀ x, Fi x ≠ none → Fs i x ≠ none ∨ F x = none) : ∃ Fs', SX K p t r cap bs Fs' ∧ Fs' = (fun j => if j = i then Fi else Fs j) := by
  have hl : t.dv.length = s.dv.length := by rw [ht]; simp
  have hFp : ∀ x, F x ≠ none → Fs i x = none → Fi x = none := fun x hx hn => by
    cases hc : Fi x with
    | none => rfl
    | some o => rcases hnew x (by rw [hc]; simp) with h1 | h1
                · exact absurd hn h1
                · exact absurd h1 hx
  have hr : F r ≠ none := h.own.known r rfl
  refine ⟨fun j => if j = i then Fi else Fs j, ⟨by rw [hl]; exact hK, by rw [hl]; exact h.len, ?_, ?_, ?_, ?_, ?_⟩, rfl⟩
  · rw [hl]; exact h.own.stay (fun b o hb ho => by cases hb; exact hkeep r o ho (h.fp i hi).2 h.ne)
  · intro j hj
    rw [hl] at hj
    by_cases e : j = i
    · subst e; simp only [if_true]; rw [ht]; simpa [List.getD_eq_getElem?_getD, List.getElem?_set_self hi] using hd
    · simp only [if_neg e]; rw [ht]
      have := h.dev j hj
      simpa [List.getD_eq_getElem?_getD, List.getElem?_set_ne (Ne.symm e)] using this
  · intro j hj
    rw [hl] at hj
    by_cases e : j = i
    · subst e; simp only [if_true]; exact hle
    · simp only [if_neg e]
      intro x o hx
      refine hkeep x o (h.le j hj x o hx) (h.sep j i hj hi e x (by rw [hx]; simp)) (fun e2 => by subst e2; rw [(h.fp j hj).1] at hx; cases hx)
  · intro j hj
    rw [hl] at hj
    by_cases e : j = i
    · subst e; simp only [if_true]
      exact ⟨hFp p (by rw [h.hd]; simp) (h.fp j hj).1, hFp r hr (h.fp j hj).2⟩
    · simp only [if_neg e]; exact h.fp j hj
  · intro j k hj hk hjk x hx
    rw [hl] at hj hk
    by_cases e : j = i
    · subst e
      simp only [if_true] at hx
      simp only [if_neg (Ne.symm hjk)]
      rcases hnew x hx with h1 | h1
      · exact h.sep j k hj hk hjk x h1
      · exact zag (h.le k hk) h1
    · simp only [if_neg e] at hx
      by_cases e2 : k = i
      · subst e2
        simp only [if_true]
        refine hFp x ?_ (h.sep j k hj hk hjk x hx)
        cases hc : Fs j x with
        | none => exact absurd hc hx
        | some o => rw [h.le j hj x o hc]; simp
      · simp only [if_neg e2]; exact h.sep j k hj hk hjk x hx
theorem SX.put {F K : Hp} {p : Nat} {s t : St} {r cap : Nat} {bs : List Nat} {Fs : Nat → Hp} (h : SX F p s r cap bs Fs) {i : Nat} (hi : i < s.dv.length) {Fi : Hp} {d : Dv} (hd : DvX Fi (bs.getD i 0) d) (ht : t.dv = s.dv.set i d)
    (hK : K p = some (.cells #[.int .i64 t.steps, .int .i64 t.left, .bool t.armed, .bool t.gone, .slice (some ⟨r, 0, none⟩) s.dv.length cap] 114)) (hle : Le Fi K) (hkeep : ∀ x o, F x = some o → Fs i x = none → x ≠ p → K x = some o) (hnew : ∀ x, Fi x ≠ none → Fs i x ≠ none ∨ F x = none) : SetX K p t := by
  obtain ⟨Fs', h', _⟩ := h.put2 hi hd ht hK hle hkeep hnew
  exact ⟨r, cap, bs, Fs', h'⟩
theorem SX.head {F K : Hp} {p : Nat} {s t : St} {r cap : Nat} {bs : List Nat} {Fs : Nat → Hp} (h : SX F p s r cap bs Fs) (ht : t.dv = s.dv)
    (hK : K p = some (.cells #[.int .i64 t.steps, .int .i64 t.left, .bool t.armed, .bool t.gone, .slice (some ⟨r, 0, none⟩) s.dv.length cap] 114)) (hkeep : ∀ x o, F x = some o → x ≠ p → K x = some o) : SX K p t r cap bs Fs := by
  refine ⟨by rw [ht]; exact hK, by rw [ht]; exact h.len, by rw [ht]; exact h.own.stay (fun b o hb ho => by cases hb; exact hkeep r o ho h.ne), by rw [ht]; exact h.dev, ?_, by rw [ht]; exact h.fp, by rw [ht]; exact h.sep⟩
  rw [ht]
  exact fun i hi x o hx => hkeep x o (h.le i hi x o hx) (fun e => by subst e; rw [(h.fp i hi).1] at hx; cases hx)
theorem DvX.put {K : Hp} {b m : Nat} {d : Dv} {w : Wt} {es : Array MapEntry} {c : Nat} {wv' : Value} {wrs' : Option Nat} (hb : K b = some (.cells #[.int .i64 d.size, .map (some m), wv'] 119)) (hm : K m = some (.map es c)) (hs : MapS es d.sure) (ho : OwnS K 130 65 wv' (d.wait.length + 1) (wts d.wait ++ w.c) wrs') :
    ∃ Fi, DvX Fi b (d.put w) ∧ Le Fi K ∧ ∀ x, Fi x ≠ none → x = b ∨ x = m ∨ wrs' = some x := by
  refine ⟨fun x => if x = b ∨ x = m ∨ wrs' = some x then K x else none, ⟨m, es, c, wv', wrs', by simpa [Dv.put] using hb, by simpa using hm, hs, ?_, fun x hx => ?_⟩, fun x o hx => ?_, fun x hx => ?_⟩
  · have e : wts (d.put w).wait = wts d.wait ++ w.c := by simp [Dv.put, wts]
    have e2 : (d.put w).wait.length = d.wait.length + 1 := by simp [Dv.put]
    rw [e, e2]
    exact ho.stay (fun b o hb ho => by simp [hb, ho])
  · by_cases h : x = b ∨ x = m ∨ wrs' = some x
    · exact h
    · simp [h] at hx
  · by_cases h : x = b ∨ x = m ∨ wrs' = some x
    · simpa [h] using hx
    · simp [h] at hx
  · by_cases h : x = b ∨ x = m ∨ wrs' = some x
    · exact h
    · simp [h] at hx
theorem has_dev (H : Hp) (p : Nat) (s : St) (rd cap : Nat) (bs : List Nat) (Fs : Nat → Hp) (h : SX H p s rd cap bs Fs) (dev i : Int) : CallH Try.prog 56 #[devV s bs dev, .int .i64 i] H (fun v H' => v = .bool (s.has dev i) ∧ H' = H) := by
  unfold devV St.has
  by_cases hin : 0 ≤ dev ∧ dev < s.dv.length
  · rw [if_pos hin]
    obtain ⟨m, wv, hb⟩ := (h.dev dev.toNat (by omega)).blk
    refine (has_ok H _ _ _ _ (h.le dev.toNat (by omega) _ _ hb) i).mono ?_
    rintro v H' ⟨rfl, rfl⟩
    exact ⟨by simp [hin], rfl⟩
  · rw [if_neg hin]
    refine (has_nil H i).mono ?_
    rintro v H' ⟨rfl, rfl⟩
    exact ⟨by simp [hin], rfl⟩
theorem ybH {p q : Prop} (h : q) (e : p = q := by simp only [zaF _ bd55, List.map_toArray, List.map_cons, List.map_nil, eX, ↓reduceIte, Nat.reduceEqDiff, Int.reduceToNat]; exact rfl) : p := e.mpr h
theorem ybI {p q : Prop} (h : q) (e : p = q := by simp only [zao, fa114_0, zaH, Nat.reduceAdd, Nat.zero_add, eX, ↓reduceIte, Nat.reduceEqDiff, Int.reduceToNat]; exact rfl) : p := e.mpr h
theorem ybJ {p q : Prop} (h : q) (e : p = q := by simp only [zaF _ bd57, List.map_toArray, List.map_cons, List.map_nil, eX, ↓reduceIte, Nat.reduceEqDiff, Int.reduceToNat]; exact rfl) : p := e.mpr h
set_option maxRecDepth 100000 in
set_option maxHeartbeats 4000000 in
theorem write_ok (H : Hp) (p : Nat) (s : St) (rd cap : Nat) (bs : List Nat) (Fs : Nat → Hp) (h : SX H p s rd cap bs Fs) (hl : s.dv.length ≤ 1000) (hw : ∀ i, (s.dv.getD i default).wait.length ≤ 1000000) (dev i : Int) (x : Sec) : CallH Try.prog 24 #[(.pointer (some ⟨p, 0, none⟩)), .int .i64 dev, .int .i64 i, x.v] H (fun v H' => v = errV (s.wr dev i x).2 ∧ SetX H' p (s.wr dev i x).1) := by
 refine zam (l := [_, _, _, _]) (rl := [.tmp 8]) (n := 43) Try.func24 rfl rfl rfl rfl rfl ?_
 refine yaa ?_
 refine zac (fun K1 hK1 => ?_)
 refine zaa ?_
 refine zab (fun K hK r => ?_)
 refine yaW ?_
 intro b7 hb7
 have f7_H : H b7 = none := zag lhA hb7
 have h7 := h.mono (le_upd H b7 (.cells x.c.toArray 30) hb7)
 have k7p := h7.hd
 refine yaf ?_
 refine hK _ _ ?_; clear hK K
 refine zaj rfl ?_
 refine zad ?_
 refine yab ?_
 refine hK1 _ _ ?_; try clear hK1 K1
 refine zac (fun K2 hK2 => ?_)
 refine zaa ?_
 refine zah rfl ?_
 refine zah rfl ?_
 refine zab (fun K hK r => ?_)
 refine ybH ?_
 refine (device_ok _ p s rd cap bs Fs h7 dev hl).mono ?_
 rintro v H' ⟨rfl, rfl⟩
 refine yaf ?_
 refine hK _ _ ?_; clear hK K
 refine zaj rfl ?_
 refine zad ?_
 refine yab ?_
 refine hK2 _ _ ?_; try clear hK2 K2
 refine zac (fun K3 hK3 => ?_)
 refine zaB ?_
 refine zac (fun K4 hK4 => ?_)
 refine zaa ?_
 refine zah rfl ?_
 refine zab (fun K hK r => ?_)
 refine yan ?_
 rw [e_eql _ _ _ _ (by simp)]
 rw [zaM]
 first | rw [q_ptr_nil _ _ _ Try.underlying47] | rw [q_nil_ptr _ _ _ Try.underlying47]
 refine yaf ?_
 refine hK _ _ ?_; clear hK K
 refine zaj rfl ?_
 refine zad ?_
 refine yab ?_
 refine hK4 _ _ ?_; try clear hK4 K4
 refine zar (fun r => rfl) (fun c14 => ?_) (fun c14 => ?_)
 ·first
  |(exfalso; exact cnA c14; done)
  |skip
   (try replace c14 := yad c14)
   refine zac (fun K5 hK5 => ?_)
   refine zaa ?_
   refine zab (fun K hK r => ?_)
   refine yaF ?_
   refine hK _ _ ?_; clear hK K
   refine zaj rfl ?_
   refine zad ?_
   refine yab ?_
   refine hK5 _ _ ?_; try clear hK5 K5
   refine zaz ?_
   refine yab ?_
   skip
 ·first
  |(exfalso; exact cnA c14; done)
  |skip
   (try replace c14 := yad c14)
   refine zac (fun K6 hK6 => ?_)
   refine zaa ?_
   refine zah rfl ?_
   refine zah rfl ?_
   refine zab (fun K hK r => ?_)
   simp only [zaF _ bd56, List.map_toArray, List.map_cons, List.map_nil, eX, ↓reduceIte, Nat.reduceEqDiff, Int.reduceToNat]
   refine (has_dev _ p s rd cap bs Fs h7 dev i).mono ?_
   rintro v H' ⟨rfl, rfl⟩
   refine yaf ?_
   refine hK _ _ ?_; clear hK K
   refine zab (fun K hK r => ?_)
   refine yam ?_
   refine hK _ _ ?_; clear hK K
   refine zaj rfl ?_
   refine zad ?_
   refine yab ?_
   refine hK6 _ _ ?_; try clear hK6 K6
   refine zar (fun r => rfl) (fun c18 => ?_) (fun c18 => ?_)
   ·first
    |(exfalso; exact cnA c18; done)
    |skip
     (try replace c18 := yad c18)
     have hno : s.has dev i = false := by simpa using c18
     refine zac (fun K7 hK7 => ?_)
     refine zaa ?_
     refine zab (fun K hK r => ?_)
     refine yaF ?_
     refine hK _ _ ?_; clear hK K
     refine zaj rfl ?_
     refine zad ?_
     refine yab ?_
     refine hK7 _ _ ?_; try clear hK7 K7
     refine zaz ?_
     refine yab ?_
     refine ⟨[_], ⟨rfl, trivial⟩, _, Le.refl _, ?_, ?_⟩
     ·show _ = errV _
      unfold St.wr; rw [if_neg (by rw [hno]; simp)]; rfl
     ·unfold St.wr; rw [if_neg (by rw [hno]; simp)]; exact ⟨rd, cap, bs, Fs, h7⟩
   ·first
    |(exfalso; exact cnA c18; done)
    |skip
     (try replace c18 := yad c18)
     have hyes : s.has dev i = true := by simpa using c18
     have hin : 0 ≤ dev ∧ dev < s.dv.length := by unfold St.has at hyes; simp at hyes; omega
     have hk : dev.toNat < s.dv.length := by omega
     have hdv : devV s bs dev = ptrV (bs.getD dev.toNat 0) := by unfold devV; rw [if_pos hin]
     rw [hdv]
     obtain ⟨b, hbd⟩ : ∃ b, b = bs.getD dev.toNat 0 := ⟨_, rfl⟩
     rw [← hbd]
     obtain ⟨m, es, c, wv, wrs, hb0, hm0, hms, how, hdom⟩ := hbd ▸ h.dev dev.toNat hk
     have hle := h.le dev.toNat hk
     have hfp := h.fp dev.toNat hk
     have hbp : b ≠ p := fun e => by rw [e, hfp.1] at hb0; cases hb0
     have hmp : m ≠ p := fun e => by rw [e, hfp.1] at hm0; cases hm0
     have hb7' : b ≠ b7 := zaf (hle _ _ hb0) hb7
     have hm7' : m ≠ b7 := zaf (hle _ _ hm0) hb7
     have hp7 : p ≠ b7 := zaf h.hd hb7
     have kb := hle _ _ hb0
     have km := hle _ _ hm0
     obtain ⟨wa, wcp, rfl⟩ := how.holds.form
     refine zau ?_
     refine yab ?_
     refine hK3 _ _ ?_; try clear hK3 K3
     refine zac (fun K8 hK8 => ?_)
     refine zac (fun K9 hK9 => ?_)
     refine zaa ?_
     refine zah rfl ?_
     refine zab (fun K hK r => ?_)
     rw [zav _ _ rfl]
     refine yaj ?_
     refine hK _ _ ?_; clear hK K
     refine zab (fun K hK r => ?_)
     refine ybI ?_
     refine hK _ _ ?_; clear hK K
     refine zab (fun K hK r => ?_)
     refine ybJ ?_
     refine (step_ok _ p s _ h7.hd).mono ?_
     rintro v H' ⟨rfl, rfl⟩
     refine yaf ?_
     refine hK _ _ ?_; clear hK K
     refine zaj rfl ?_
     refine zad ?_
     refine yab ?_
     refine hK9 _ _ ?_; try clear hK9 K9
     refine zac (fun K10 hK10 => ?_)
     refine zaa ?_
     refine zah rfl ?_
     refine zab (fun K hK r => ?_)
     refine yae ?_
     first | rw [b_err_neq _ _ Try.underlying32] | (rw [e_neq _ _ _ _ (by simp), zaM]; first | rw [q_iface_nil _ _ _ Try.underlying32] | rw [q_nil_iface _ _ _ Try.underlying32] | rw [q_nil_nil _ _ _ Try.underlying32])
     refine yaf ?_
     refine hK _ _ ?_; clear hK K
     refine zad ?_
     refine yab ?_
     refine hK10 _ _ ?_; try clear hK10 K10
     refine zar (fun r => rfl) (fun c29 => ?_) (fun c29 => ?_)
     ·first
      |(exfalso; exact cnA c29; done)
      |skip
       (try replace c29 := yad c29)
       have hst : s.step.2 = false := by cases hc : s.step.2 with
        |false => rfl
        |true => rw [hc] at c29; simp at c29
       refine zac (fun K11 hK11 => ?_)
       refine zaa ?_
       refine zah rfl ?_
       refine zaj rfl ?_
       refine zad ?_
       refine yab ?_
       refine hK11 _ _ ?_; try clear hK11 K11
       refine zaz ?_
       refine yab ?_
       have hwr : s.wr dev i x = (s.step.1, some 3) := by
        unfold St.wr; rw [if_pos hyes]
        generalize hq : s.step = q at *
        obtain ⟨t, bb⟩ := q
        simp only at hst; subst hst; rfl
       refine ⟨[_], ⟨rfl, trivial⟩, _, Le.refl _, ?_, ?_⟩
       ·rw [hwr, hst]; rfl
       ·rw [hwr]; exact ⟨rd, cap, bs, Fs, h7.head (step_dv s) (zan _ _ _) (fun z o hz hzp => (zap _ _ hzp).trans hz)⟩
     ·first
      |(exfalso; exact cnA c29; done)
      |skip
       (try replace c29 := yad c29)
       have hst : s.step.2 = true := by cases hc : s.step.2 with
        |true => rfl
        |false => rw [hc] at c29; simp at c29
       have hwl := hw dev.toNat
       refine zau ?_
       refine yab ?_
       refine hK8 _ _ ?_; try clear hK8 K8
       refine zac (fun K12 hK12 => ?_)
       obtain ⟨R9, hR9⟩ : ∃ R : Hp, R = (emptyHp.upd b (.cells #[.int .i64 (s.dv.getD dev.toNat default).size, .map (some m), .slice wa (s.dv.getD dev.toNat default).wait.length wcp] 119)).upd b7 (.cells x.c.toArray 30) := ⟨_, rfl⟩
       refine CW_drawR [0, 0, 0, 0, 1, 0, 1, 0, 2, 2, 0, 0, 3] [0, 1, 2, 3, 4, 5, 6, 7, 8, 9, 10, 11, 12] R9 (by kernel_rfl) (by kernel_rfl) (by subst hR9; exact le_put (le_put (zaN _) hbA) hbA) (fun lR9 => ?_)
       apply zat rfl (zai (by decide)) rfl
       ·intro r
        refine yaI ?_
        exact ⟨rfl, Le.refl _⟩
       refine yaj ?_
       apply zat rfl (zai (by decide)) rfl
       ·intro r
        refine yaI ?_
        exact ⟨rfl, Le.refl _⟩
       refine yaj ?_
       apply zat rfl (zai (by decide)) rfl
       ·intro r
        rw [zav _ _ rfl]
        exact ⟨rfl, Le.refl _⟩
       refine yaj ?_
       apply zat rfl (zai (by decide)) rfl
       ·intro r
        simp only [zao, fa119_2, zaH, Nat.reduceAdd, Nat.zero_add, eX, ↓reduceIte, Nat.reduceEqDiff]
        exact ⟨rfl, Le.refl _⟩
       refine yaj ?_
       apply zaO rfl (zai (by decide)) rfl
       ·intro r
        refine yba ?_
        refine zae Try.underlying117 rfl hbA ldA ?_
        exact ⟨rfl, Le.refl _⟩
       refine yaj ?_
       apply zat rfl (zai (by decide)) rfl
       ·intro r
        refine yaI ?_
        exact ⟨rfl, Le.refl _⟩
       refine yaj ?_
       apply zaO rfl (zai (by decide)) rfl
       ·intro r
        refine yba ?_
        refine zax Try.underlying30 rfl sz30 hbA (by simp [x.h]) ?_
        exact ⟨rfl, Le.refl _⟩
       refine yaj ?_
       apply zat rfl (zai (by decide)) rfl
       ·intro r
        simp only [x_build, List.map_toArray, List.map_cons, List.map_nil, eX, ↓reduceIte, Nat.reduceEqDiff]
        rw [bw_ok]
        exact ⟨rfl, Le.refl _⟩
       refine yaj ?_
       refine TW_chain rfl (zai (by decide)) rfl (fun K hK r => ?_)
       refine yaT ?_
       refine zaJ (vs := [.agg (Wt.c ⟨i, x⟩).toArray]) Try.underlying117 sz130 zr130 rfl (fun v hv => by simp at hv; subst hv; show (Wt.c ⟨i, x⟩).toArray.size = 65; simp [Sec.h]) (by first | decide | (simp; done)) ?_
       simp only [List.flatMap_cons, List.flatMap_nil, Value.cells, List.append_nil]
       intro b39 hb39
       have n39b : b ≠ b39 := zaf hbA hb39
       have n39b7 : b7 ≠ b39 := zaf hbA hb39
       have n39p : p ≠ b39 := zaf hbA hb39
       have f39_R9 : R9 b39 = none := zag lR9 hb39
       refine hK _ _ leA ?_; clear hK K
       refine TW_chain rfl (zai (by decide)) rfl (fun K hK r => ?_)
       refine yaV ?_
       have how40 : OwnS ((H.upd b7 (.cells x.c.toArray 30)).upd p (.cells #[.int .i64 s.step.1.steps, .int .i64 s.step.1.left, .bool s.step.1.armed, .bool s.step.1.gone, .slice (some ⟨rd, 0, none⟩) s.dv.length cap] 114)) 130 65 (.slice wa (s.dv.getD dev.toNat default).wait.length wcp) (s.dv.getD dev.toNat default).wait.length (wts (s.dv.getD dev.toNat default).wait) wrs := (how.le hle).stay (fun z o hz ho => by
        have hzp : z ≠ p := fun e => by subst e; have := how.known z hz; rw [hfp.1] at this; exact this rfl
        rw [zap _ _ hzp, zap _ _ (zaf ho hb7)]; exact ho)
       refine Lt_append Try.underlying117 Try.underlying117 (by simp) sz130 by130 (by decide) zr130 rfl _ (n := (s.dv.getD dev.toNat default).wait.length) (m := 1) (ds := Wt.c ⟨i, x⟩) (how40.make hb39) (fun Kx => len_slice _ _ _ Kx) (fun Kx => first_slice (w := 65) (n := 1) (cs := Wt.c ⟨i, x⟩) (wt_holds (w := ⟨i, x⟩) hbA) Kx) (by rw [Wt.len]) (Wt.plain _) (by omega) ?_
       intro v40 H40 rs40 hg40 ho40 hr40
       obtain ⟨wa40, wc40, rfl⟩ := ho40.holds.form
       have hwb : wrs ≠ some b := fun e => by
        obtain ⟨_, ⟨_, _, h0⟩ | ⟨r', cc, c', _, h2, _, _, _, h3⟩⟩ := how
        ·rw [e] at h0; cases h0
        ·rw [e] at h3; cases h3; rw [hb0] at h2; injection h2 with h2; injection h2 with _ h2; revert h2; decide
       have hw7 : wrs ≠ some b7 := fun e => how.known b7 e (zag hle hb7)
       have hwp : wrs ≠ some p := fun e => how.known p e hfp.1
       have hwm : wrs ≠ some m := fun e => by
        obtain ⟨_, ⟨_, _, h0⟩ | ⟨r', cc, c', _, h2, _, _, _, h3⟩⟩ := how
        ·rw [e] at h0; cases h0
        ·rw [e] at h3; cases h3; rw [hm0] at h2; cases h2
       have hbm : b ≠ m := fun e => by rw [e, hm0] at hb0; cases hb0
       have kb40 := hg40.known b _ hbA hwb
       have k740 := hg40.known b7 _ hbA hw7
       have kp40 := hg40.known p _ hbA hwp
       have lR40 : Le R9 H40 := by rw [hR9]; exact le_put (le_put (zaN _) kb40) k740
       have keep40 : ∀ x o, H x = some o → Fs dev.toNat x = none → x ≠ p → H40 x = some o := fun z o hz hn hzp => hg40.known z o ((zap _ _ (zaf ((zap _ _ hzp).trans ((zap _ _ (zaf hz hb7)).trans hz)) hb39)).trans ((zap _ _ hzp).trans ((zap _ _ (zaf hz hb7)).trans hz))) (fun e => how.known z e hn)
       have km40 : H40 m = some (.map es c) := hg40.known m _ ((zap _ _ (zaf ((zap _ _ hmp).trans ((zap _ _ hm7').trans km)) hb39)).trans ((zap _ _ hmp).trans ((zap _ _ hm7').trans km))) hwm
       refine hK _ _ leA ?_; clear hK K
       apply zat rfl (zai (by decide)) rfl
       ·intro r
        rw [zav _ _ rfl]
        exact ⟨rfl, Le.refl _⟩
       refine yaj ?_
       apply zat rfl (zai (by decide)) rfl
       ·intro r
        simp only [zao, fa119_2, zaH, Nat.reduceAdd, Nat.zero_add, eX, ↓reduceIte, Nat.reduceEqDiff]
        exact ⟨rfl, Le.refl _⟩
       refine yaj ?_
       refine TW_last rfl (zas) rfl (fun K hK r => ?_)
       refine yaD ?_
       refine zaE sz117 hbA bdA plA fzA ?_
       refine yaE ?_
       refine yaf ?_
       refine hK _ _ ?_; clear hK K
       refine TW_nil ?_
       refine yab ?_
       refine hK12 _ _ ?_; try clear hK12 K12
       refine zac (fun K13 hK13 => ?_)
       refine zaa ?_
       refine zaj rfl ?_
       refine zad ?_
       refine yab ?_
       refine hK13 _ _ ?_; try clear hK13 K13
       refine zaz ?_
       refine yab ?_
       have hwr : s.wr dev i x = ({ s.step.1 with dv := s.dv.set dev.toNat ((s.dv.getD dev.toNat default).put ⟨i, x⟩) }, none) := by
        unfold St.wr; rw [if_pos hyes]
        have hdq := step_dv s
        generalize hq : s.step = q at *
        obtain ⟨t, bb⟩ := q
        simp only at hst hdq; subst hst; rw [← hdq]
       obtain ⟨Fi, hFi, hlFi, hdFi⟩ := DvX.put (w := ⟨i, x⟩) (K := H40.upd b (.cells #[.int .i64 (s.dv.getD dev.toNat default).size, .map (some m), .slice wa40 ((s.dv.getD dev.toNat default).wait.length + 1) wc40] 119)) (zan _ _ _) ((zap _ _ (Ne.symm hbm)).trans km40) hms (ho40.upd (fun e => by
        rcases hr40 b e with h1 | h1
        ·exact hwb h1
        ·have h2 := upd_none h1
         rw [zap _ _ hbp, zap _ _ hb7', kb] at h2; cases h2))
       have hbF : Fs dev.toNat b ≠ none := by rw [hb0]; simp
       have hmF : Fs dev.toNat m ≠ none := by rw [hm0]; simp
       refine ⟨[_], ⟨rfl, trivial⟩, _, Le.refl _, ?_, ?_⟩
       ·rw [hwr]; rfl
       ·rw [hwr]
        refine h.put hk (hbd ▸ hFi) rfl ((zap _ _ (Ne.symm hbp)).trans kp40) hlFi (fun z o hz hn hzp => (zap _ _ (fun e => by subst e; exact hbF hn)).trans (keep40 z o hz hn hzp)) (fun z hz => ?_)
        rcases hdFi z hz with rfl | rfl | h1
        ·exact .inl hbF
        ·exact .inl hmF
        ·rcases hr40 z h1 with h2 | h2
         ·exact .inl (how.known z h2)
         ·have h3 := upd_none h2
          by_cases e : z = p
          ·subst e; rw [zan] at h3; cases h3
          ·rw [zap _ _ e] at h3
           exact .inr (upd_none h3)
end Go.Proofs.Ytigofhhonnbkmaa.HL
end
section
namespace Go.Proofs.Ytigofhhonnbkmaa.HL
open Go Go.Proofs
set_option linter.unusedSimpArgs false
set_option linter.unusedVariables false
attribute [local irreducible] Lt Lq CW OW TW CallH
theorem PlainL.drop {l : List Value} (h : PlainL l) (n : Nat) : PlainL (l.drop n) := fun v hv => h v (List.mem_of_mem_drop hv)
theorem wt_x (w : Wt) : (w.c.toArray).extract 1 (1 + 64) = w.x.c.toArray := by
  apply Array.ext'
  rw [Array.toList_extract, List.extract_eq_take_drop]
  show ((w.x.c).take 64) = _
  exact List.take_of_length_le (by rw [Sec.len]; omega)
theorem wt_at (w : Wt) : (w.c.toArray)[0]? = some (.int .i64 w.at_) := rfl
theorem torn_cells (x old : Sec) (t : Int) (h : 0 < t ∧ t < 64) : putCells x.c.toArray t.toNat (old.c.drop t.toNat) = (torn x old t).c.toArray := by
  apply Array.ext'
  have hl : (old.c.drop t.toNat).length = 64 - t.toNat := by rw [List.length_drop, Sec.len]
  rw [putCells_toList (old.c.drop t.toNat) x.c.toArray t.toNat (by rw [hl]; simp only [List.size_toArray, Sec.len]; omega), hl]
  unfold torn
  rw [dif_pos h]
  have e0 : List.drop (t.toNat + (64 - t.toNat)) (u8s x.b) = [] := List.drop_eq_nil_of_le (by rw [List.length_map, x.h]; omega)
  simp only [Sec.c, u8s, List.map_append, List.map_take, List.map_drop] at e0 ⊢
  rw [e0, List.append_nil]
theorem torn_not (x old : Sec) (t : Int) (h : ¬ (0 < t ∧ t < 64)) : torn x old t = x := by unfold torn; rw [dif_neg h]
theorem stN_none {kept : Nat → Option Int} {ws : List Wt} {s : Int → Sec} {n : Nat} (h : kept n = none) : stN kept ws s (n + 1) = stN kept ws s n := by simp only [stN, h]
theorem stN_some {kept : Nat → Option Int} {ws : List Wt} {s : Int → Sec} {n : Nat} {t : Int} (h : kept n = some t) : stN kept ws s (n + 1) = fun x => if x = (ws.getD n default).at_ then torn (ws.getD n default).x (stN kept ws s n (ws.getD n default).at_) t else stN kept ws s n x := by simp only [stN, h]
theorem sec_holds {H : Hp} {b : Nat} {x : Sec} {T : TypeId} (hb : H b = some (.cells x.c.toArray T)) {t : Nat} (ht : t ≤ 64) (cap : Nat) : Holds H 1 (.slice (some ⟨b, t, none⟩) (64 - t) cap) (64 - t) (x.c.drop t) := by
  refine ⟨by rw [List.length_drop, Sec.len]; omega, .inr ⟨b, t, _, _, _, _, rfl, hb, by simp only [List.size_toArray, Sec.len]; omega, ?_⟩⟩
  rw [Array.toList_extract, List.extract_eq_take_drop]
  exact List.take_of_length_le (by rw [List.length_drop, Sec.len]; omega)
theorem DvX.facts {F : Hp} {b : Nat} {d : Dv} (h : DvX F b d) : ∃ mb es c wv wrs, F b = some (.cells #[.int .i64 d.size, .map (some mb), wv] 119) ∧ F mb = some (.map es c) ∧ MapS es d.sure ∧ OwnS F 130 65 wv d.wait.length (wts d.wait) wrs ∧ b ≠ mb ∧ wrs ≠ some b ∧ wrs ≠ some mb := by
  obtain ⟨mb, es, c, wv, wrs, h1, h2, h3, h4, _⟩ := h
  refine ⟨mb, es, c, wv, wrs, h1, h2, h3, h4, (fun e => by rw [e, h2] at h1; cases h1), (fun e => ?_), (fun e => ?_)⟩
  · obtain ⟨_, ⟨_, _, h0⟩ | ⟨r', cc, c', _, g2, _, _, _, g3⟩⟩ := h4
    · rw [e] at h0; cases h0
    · rw [e] at g3; cases g3; rw [h1] at g2; injection g2 with g2; injection g2 with _ g2; revert g2; decide
  · obtain ⟨_, ⟨_, _, h0⟩ | ⟨r', cc, c', _, g2, _, _, _, g3⟩⟩ := h4
    · rw [e] at h0; cases h0
    · rw [e] at g3; cases g3; rw [h2] at g2; cases g2
theorem ybK {p q : Prop} (h : q) (e : p = q := by simp only [zao, fa119_2, zaH, Nat.reduceAdd, Nat.zero_add, eX, ↓reduceIte, Nat.reduceEqDiff, Int.reduceToNat]; exact rfl) : p := e.mpr h
theorem ybL {p q : Prop} (h : q) (e : p = q := by simp only [zao, fa119_1, zaH, Nat.reduceAdd, Nat.zero_add, eX, ↓reduceIte, Nat.reduceEqDiff]; exact rfl) : p := e.mpr h
theorem ybM {p q : Prop} (h : q) (e : p = q := by simp only [zao, fa130_0, zaH, Nat.reduceAdd, Nat.zero_add, eX, ↓reduceIte, Nat.reduceEqDiff]; exact rfl) : p := e.mpr h
set_option maxRecDepth 100000 in
set_option maxHeartbeats 8000000 in
theorem settle_ok (H : Hp) (b : Nat) (d : Dv) (F G : Hp) (hd : DvX F b d) (hF : Le F H) (hG : Le G H) (hdis : ∀ x, F x ≠ none → G x = none) (gf : Fn) (ga gb : Array Value) (kept : Nat → Option Int) (hg : ∀ K, Le G K → ∀ n : Nat, n < d.wait.length → ValH Try.prog (.func gf ga gb) #[.int .i64 n] K (fun v K' => v = .tuple #[.int .i64 ((kept n).getD 0), .bool (kept n).isSome] ∧ K' = K)) (hl : d.wait.length ≤ 1000000) :
 CallH Try.prog 61 #[ptrV b, .func gf ga gb] H (fun _ H' => ∃ F', DvX F' b (d.settle kept) ∧ Le F' H' ∧ (∀ x, F' x ≠ none → F x ≠ none) ∧ ∀ x o, H x = some o → F x = none → H' x = some o) := by
 refine zam (l := [_, _]) (rl := []) (n := 59) Try.func61 rfl rfl rfl rfl rfl ?_
 refine yaa ?_
 obtain ⟨mb, es, c, wv, wrs, hb0, hm0, hms, how, hbm, hwb, hwm⟩ := hd.facts
 obtain ⟨wa, wcp, rfl⟩ := how.holds.form
 have kb := hF _ _ hb0
 have km := hF _ _ hm0
 have gm : G mb = none := hdis mb (by rw [hm0]; simp)
 refine zac (fun K1 hK1 => ?_)
 refine zac (fun K2 hK2 => ?_)
 refine zaa ?_
 refine zah rfl ?_
 refine zab (fun K hK r => ?_)
 rw [zav _ _ rfl]
 refine yaj ?_
 refine hK _ _ ?_; clear hK K
 refine zab (fun K hK r => ?_)
 refine ybK ?_
 refine hK _ _ ?_; clear hK K
 refine zab (fun K hK r => ?_)
 refine yap ?_
 refine zae Try.underlying117 rfl hbA ldA ?_
 refine yaf ?_
 refine hK _ _ ?_; clear hK K
 refine zab (fun K hK r => ?_)
 simp only [x_builtin, l_len, List.map_toArray, List.map_cons, List.map_nil, i_len_slice _ _ Try.underlying117, eX, ↓reduceIte, Nat.reduceEqDiff, Int.reduceToNat]
 refine hK _ _ ?_; clear hK K
 refine zah rfl ?_
 refine zad ?_
 refine yab ?_
 refine hK2 _ _ ?_; try clear hK2 K2
 refine zaB ?_
 refine CW_loop (fun m e H_ => ∃ (k : Nat) (es' : Array MapEntry) (c' : Nat), k ≤ d.wait.length ∧ m = d.wait.length - k ∧ MapS es' (stN kept d.wait d.sure k) ∧ H_ mb = some (.map es' c') ∧ (∀ x o, H x = some o → x ≠ mb → H_ x = some o) ∧ Env.has [(0, ptrV b), (1, .func gf ga gb), (13, .slice wa d.wait.length wcp), (14, .int .i64 d.wait.length), (15, .int .i64 k)] e) (d.wait.length) ?_ ?_
 ·skip
  exact ⟨0, es, c, by omega, by omega, hms, km, (fun x o hx _ => hx), rfl, rfl, rfl, rfl, rfl, trivial⟩
 intro m_ e_ H_ hI_
 obtain ⟨k, es', c', hk, rfl, hms', km', hkp, he⟩ := hI_
 refine CW_env he.sub ?_; clear he e_
 have kb' := hkp b _ kb hbm
 have how_ : OwnS H_ 130 65 (.slice wa d.wait.length wcp) d.wait.length (wts d.wait) wrs := (how.le hF).stay (fun z o hz ho => hkp z o ho (fun e => hwm (by rw [hz, e])))
 have hG_ : Le G H_ := fun x o hx => hkp x o (hG x o hx) (fun e => by rw [e, gm] at hx; cases hx)
 have hi0 := hms'.1
 refine zac (fun K3 hK3 => ?_)
 refine zaa ?_
 refine zab (fun K hK r => ?_)
 refine yac ?_
 refine hK _ _ ?_; clear hK K
 refine zad ?_
 refine yab ?_
 refine hK3 _ _ ?_; try clear hK3 K3
 refine zac (fun K4 hK4 => ?_)
 refine zar (fun r => rfl) (fun c16 => ?_) (fun c16 => ?_)
 ·first
  |(exfalso; exact cnA c16; done)
  |skip
   (try replace c16 := yad c16)
   obtain ⟨bw, ow, cw, Tw, Fw, ew, hbw, hsw, atw⟩ := how_.holds.at (by omega)
   refine zau ?_
   refine yab ?_
   refine hK4 _ _ ?_; try clear hK4 K4
   refine zac (fun K5 hK5 => ?_)
   refine zaB ?_
   refine zac (fun K6 hK6 => ?_)
   refine zaa ?_
   refine zah rfl ?_
   refine zab (fun K hK r => ?_)
   refine yaw ?_
   refine zaK Try.underlying117 sz130 ew ixA ixA ?_
   refine ybp ?_
   refine hK _ _ ?_; clear hK K
   refine zab (fun K hK r => ?_)
   refine yap ?_
   refine zaq Try.underlying130 rfl sz130 hbw (by omega) ?_
   rw [ext_at Wt.len atw rfl k (by omega) hsw]
   refine hK _ _ ?_; clear hK K
   refine zab (fun K hK r => ?_)
   simp only [x_alloc, zr130, zay, Value.cells, eX, ↓reduceIte, Nat.reduceEqDiff, Int.reduceToNat]
   intro b5 hb5
   try have n5_b : b ≠ b5 := zaf hbA hb5
   try have n5_mb : mb ≠ b5 := zaf hbA hb5
   have f5_H_ : H_ b5 = none := zag lhA hb5
   refine yaf ?_
   refine hK _ _ ?_; clear hK K
   refine zaj rfl ?_
   refine zaI rfl (zas) (fun K hK r => ?_)
   refine yaD ?_
   refine zak sz130 (by simp [Sec.h]) hbA (by simp [Sec.h]) (Wt.plain _) (by decide) ?_
   refine hK _ _ ?_; clear hK K
   refine zad ?_
   refine yab ?_
   refine hK6 _ _ ?_; try clear hK6 K6
   refine zac (fun K7 hK7 => ?_)
   refine zaa ?_
   refine zah rfl ?_
   refine zah rfl ?_
   refine zab (fun K hK r => ?_)
   refine ybu ?_
   show ValH _ _ _ _ _
   refine (hg _ (by exact zaw hG_ (zag hG_ hb5)) k (by omega)).mono ?_
   rintro v H' ⟨rfl, hq⟩
   have hq := hq.symm
   subst hq
   refine yaf ?_
   refine hK _ _ ?_; clear hK K
   refine zah rfl ?_
   refine zab (fun K hK r => ?_)
   refine yah ?_
   refine hK _ _ ?_; clear hK K
   refine zab (fun K hK r => ?_)
   refine yah ?_
   refine hK _ _ ?_; clear hK K
   refine zaj rfl ?_
   refine zaj rfl ?_
   refine zad ?_
   refine yab ?_
   refine hK7 _ _ ?_; try clear hK7 K7
   refine zac (fun K8 hK8 => ?_)
   refine zac (fun K9 hK9 => ?_)
   refine zaa ?_
   refine zah rfl ?_
   refine zab (fun K hK r => ?_)
   refine yam ?_
   refine hK _ _ ?_; clear hK K
   refine zad ?_
   refine yab ?_
   refine hK9 _ _ ?_; try clear hK9 K9
   refine zar (fun r => rfl) (fun c27 => ?_) (fun c27 => ?_)
   ·first
    |(exfalso; exact cnA c27; done)
    |skip
     have hkt : kept k = none := by cases hc : kept k with
      |none => rfl
      |some t => rw [hc] at c27; simp at c27
     refine CW_exit ?_
     refine yab ?_
     refine hK5 _ _ ?_; try clear hK5 K5
     refine zaa ?_
     refine zab (fun K hK r => ?_)
     refine yaq ?_
     refine hK _ _ ?_; clear hK K
     refine zah rfl ?_
     refine zad ?_
     refine yab ?_
     first
     |(refine ⟨d.wait.length - (k + 1), by omega, k + 1, es', c', by omega, rfl, ?_, hbA, ?_, rfl, rfl, rfl, rfl, rfl, trivial⟩
       ·rw [stN_none (by first | assumption | (simpa using c27))]; exact hms'
       ·exact fun z o hz hn => (show Le H_ _ from lhA) z o (hkp z o hz hn))
     |(refine ⟨d.wait.length - (k + 1), by omega, k + 1, es9, c9, by omega, rfl, ?_, zan _ _ _, ?_, rfl, rfl, rfl, rfl, rfl, trivial⟩
       ·rw [stN_some hkt]
        first
        |exact hms'.put h91 h92
        |(rw [torn_not _ _ _ htr]; exact hms'.put h91 h92)
       ·exact fun z o hz hn => (zap _ _ hn).trans ((show Le H_ _ from lhA) z o (hkp z o hz hn)))
   ·first
    |(exfalso; exact cnA c27; done)
    |skip
     obtain ⟨t, hkt⟩ : ∃ t, kept k = some t := by cases hc : kept k with
      |none => rw [hc] at c27; simp at c27
      |some t => exact ⟨t, rfl⟩
     simp only [hkt, Option.getD_some]
     clear c27
     refine zau ?_
     refine yab ?_
     refine hK8 _ _ ?_; try clear hK8 K8
     refine zac (fun K10 hK10 => ?_)
     refine zaa ?_
     refine zab (fun K hK r => ?_)
     simp only [zao, fa130_1, zaH, Nat.reduceAdd, Nat.zero_add, eX, ↓reduceIte, Nat.reduceEqDiff, Int.reduceToNat]
     refine hK _ _ ?_; clear hK K
     refine zab (fun K hK r => ?_)
     refine yap ?_
     refine zaq Try.underlying30 rfl sz30 hbA (by simp [Sec.h]) ?_
     rw [wt_x]
     refine hK _ _ ?_; clear hK K
     refine zab (fun K hK r => ?_)
     refine yaX ?_
     intro b8 hb8
     try have n8_b : b ≠ b8 := zaf hbA hb8
     try have n8_mb : mb ≠ b8 := zaf hbA hb8
     try have n8_b5 : b5 ≠ b8 := zaf hbA hb8
     have f8_H_ : H_ b8 = none := zag lhA hb8
     refine yaf ?_
     refine hK _ _ ?_; clear hK K
     refine zaI rfl (zas) (fun K hK r => ?_)
     refine yaD ?_
     refine zak sz30 (by simp [Sec.h]) hbA (by simp [Sec.h]) (PlainL.ints _ _) (by decide) ?_
     refine hK _ _ ?_; clear hK K
     refine zad ?_
     refine yab ?_
     refine hK10 _ _ ?_; try clear hK10 K10
     refine zac (fun K11 hK11 => ?_)
     refine zac (fun K12 hK12 => ?_)
     refine zaa ?_
     refine zah rfl ?_
     refine zab (fun K hK r => ?_)
     refine yaZ ?_
     refine hK _ _ ?_; clear hK K
     refine zah rfl ?_
     (first | refine zaA (d := 32) rfl (fun g32 => ?_) (fun g32 => ?_) | skip)
     all_goals try (exfalso; exact cnA g32)
     all_goals (try replace g32 := yad g32)
     all_goals
      refine yaf ?_
      first
      |refine yGT (fun K hK r => ?_)
       refine yai ?_
       refine hK _ _ ?_; clear hK K
      |refine yGF ?_
       refine yaj ?_
      first
      |refine yGT (fun K hK r => ?_)
       refine yac ?_
       refine hK _ _ ?_; clear hK K
      |refine yGF ?_
       refine yaj ?_
      refine zab (fun K hK r => ?_)
      refine yal ?_
      refine hK _ _ ?_; clear hK K
      refine zad ?_
      refine yab ?_
      refine hK12 _ _ ?_; try clear hK12 K12
      refine zar (fun r => rfl) (fun c35 => ?_) (fun c35 => ?_)
      ·first
       |(exfalso; exact cnA c35; done)
       |skip
        (try replace c35 := yad c35)
        have htr : 0 < t ∧ t < 64 := by omega
        refine zac (fun K13 hK13 => ?_)
        refine CW_drawE [0, 0, 0, 1, 0, 1, 1, 4, 3] [0, 1, 2, 3, 4, 5, 6, 7, 8] (by kernel_rfl) (by kernel_rfl) (fun R7 hR7 => ?_)
        apply zat rfl (zai (by decide)) rfl
        ·intro r
         refine yaI ?_
         exact ⟨rfl, Le.refl _⟩
        refine yaj ?_
        apply zat rfl (zai (by decide)) rfl
        ·intro r
         rw [zav _ _ rfl]
         exact ⟨rfl, Le.refl _⟩
        refine yaj ?_
        apply zat rfl (zai (by decide)) rfl
        ·intro r
         refine ybL ?_
         exact ⟨rfl, Le.refl _⟩
        refine yaj ?_
        apply zaO rfl (zai (by decide)) rfl
        ·intro r
         refine yba ?_
         refine zae Try.underlying116 rfl hbA ldA ?_
         exact ⟨rfl, Le.refl _⟩
        refine yaj ?_
        apply zat rfl (zai (by decide)) rfl
        ·intro r
         refine ybM ?_
         exact ⟨rfl, Le.refl _⟩
        refine yaj ?_
        apply zaO rfl (zai (by decide)) rfl
        ·intro r
         refine yba ?_
         refine zae Try.underlying3 rfl hbA (wt_at (d.wait.getD k default)) ?_
         exact ⟨rfl, Le.refl _⟩
        refine yaj ?_
        apply zaO rfl (zai (by decide)) rfl
        ·intro r
         simp only [x_lookup, eX, ↓reduceIte, Nat.reduceEqDiff]
         refine Lt_lookup Try.underlying116 Try.underlying3 zr30 hbA hi0 ?_
         rw [hms'.2]
         exact ⟨rfl, Le.refl _⟩
        refine yaj ?_
        refine TW_make rfl (zai (by decide)) rfl (fun K hK r => ?_)
        refine yaX ?_
        intro b9 hb9
        try have n9_b : b ≠ b9 := zaf hbA hb9
        try have n9_mb : mb ≠ b9 := zaf hbA hb9
        try have n9_b5 : b5 ≠ b9 := zaf hbA hb9
        try have n9_b8 : b8 ≠ b9 := zaf hbA hb9
        have f9_H_ : H_ b9 = none := zag lhA hb9
        have f9_R7 : R7 b9 = none := zag lhA hb9
        refine yaf ?_
        refine hK _ _ ?_; clear hK K
        refine TW_last rfl (zas) rfl (fun K hK r => ?_)
        refine yaD ?_
        refine zak sz30 (by simp [Sec.h]) hbA (by simp [Sec.h]) (PlainL.ints _ _) (by decide) ?_
        refine hK _ _ ?_; clear hK K
        refine TW_nil ?_
        refine yab ?_
        refine hK13 _ _ ?_; try clear hK13 K13
        refine CW_drawO [0, 0, 0, 0, 3] [0, 1, 2, 3, 4] emptyHp (by kernel_rfl) (by kernel_rfl) (zaN _) ?_
        apply zat rfl (zai (by decide)) rfl
        ·intro r
         refine yaI ?_
         exact ⟨rfl, Le.refl _⟩
        refine yaj ?_
        apply zat rfl (zai (by decide)) rfl
        ·intro r
         refine ybb ?_
         refine Lt_sliceA Try.underlying30 sz5 bound_none bound_none (bound_some (by omega)) (by omega) (by omega) (by omega) (by simp) ?_
         rw [if_neg (show ¬ 64 = t.toNat by omega)]
         simp only [zaH, Nat.mul_one, Nat.zero_add]
         exact ⟨rfl, Le.refl _⟩
        refine yaj ?_
        apply zat rfl (zai (by decide)) rfl
        ·intro r
         refine yaI ?_
         exact ⟨rfl, Le.refl _⟩
        refine yaj ?_
        apply zat rfl (zai (by decide)) rfl
        ·intro r
         refine ybb ?_
         refine Lt_sliceA Try.underlying30 sz5 bound_none bound_none (bound_some (by omega)) (by omega) (by omega) (by omega) (by simp) ?_
         rw [if_neg (show ¬ 64 = t.toNat by omega)]
         simp only [zaH, Nat.mul_one, Nat.zero_add]
         exact ⟨rfl, Le.refl _⟩
        refine yaj ?_
        refine TW_last rfl (zai (by decide)) rfl (fun K hK r => ?_)
        simp only [x_builtin, l_copy, List.map_toArray, List.map_cons, List.map_nil, eX, ↓reduceIte, Nat.reduceEqDiff, Int.reduceToNat]
        have hmin : Nat.min (64 - t.toNat) (64 - t.toNat) = 64 - t.toNat := Nat.min_self _
        refine Lt_copy (w := 1) (cs := (stN kept d.wait d.sure k (d.wait.getD k default).at_).c.drop t.toNat) Try.underlying80 sz5 _ hbA (by simp only [List.size_toArray, Sec.len]; omega) (len_slice _ _ _) (fun Kx => ?_) (by rw [hmin, List.length_drop, Sec.len, Nat.mul_one]) (PlainL.drop (PlainL.ints _ _) _) (by decide) ?_
        ·rw [hmin]
         refine (first_holds (sec_holds (x := stN kept d.wait d.sure k (d.wait.getD k default).at_) hbA (t := t.toNat) (by omega) _) (Nat.le_refl _) Kx).trans ?_
         rw [Nat.mul_one, List.take_of_length_le (by rw [List.length_drop, Sec.len]; omega)]
        rw [torn_cells _ _ _ htr]
        refine hK _ _ ?_; clear hK K
        refine TW_nil ?_
        refine yab ?_
        refine hK11 _ _ ?_; try clear hK11 K11
        refine CW_drawE [0, 0, 0, 1, 0, 1, 1, 3] [0, 1, 2, 3, 4, 5, 6, 7] (by kernel_rfl) (by kernel_rfl) (fun R9 hR9 => ?_)
        apply zat rfl (zai (by decide)) rfl
        ·intro r
         refine yaI ?_
         exact ⟨rfl, Le.refl _⟩
        refine yaj ?_
        apply zat rfl (zai (by decide)) rfl
        ·intro r
         rw [zav _ _ rfl]
         exact ⟨rfl, Le.refl _⟩
        refine yaj ?_
        apply zat rfl (zai (by decide)) rfl
        ·intro r
         refine ybL ?_
         exact ⟨rfl, Le.refl _⟩
        refine yaj ?_
        apply zaO rfl (zai (by decide)) rfl
        ·intro r
         refine yba ?_
         refine zae Try.underlying116 rfl hbA ldA ?_
         exact ⟨rfl, Le.refl _⟩
        refine yaj ?_
        apply zat rfl (zai (by decide)) rfl
        ·intro r
         refine ybM ?_
         exact ⟨rfl, Le.refl _⟩
        refine yaj ?_
        apply zaO rfl (zai (by decide)) rfl
        ·intro r
         refine yba ?_
         refine zae Try.underlying3 rfl hbA (wt_at (d.wait.getD k default)) ?_
         exact ⟨rfl, Le.refl _⟩
        refine yaj ?_
        apply zaO rfl (zai (by decide)) rfl
        ·intro r
         refine yba ?_
         refine zax Try.underlying30 rfl sz30 hbA (by simp [Sec.h]) ?_
         exact ⟨rfl, Le.refl _⟩
        refine yaj ?_
        refine TW_last rfl (zas) rfl (fun K hK r => ?_)
        simp only [x_mapUpdate, eX, ↓reduceIte, Nat.reduceEqDiff, Int.reduceToNat]
        refine Lt_mapUpdate Try.underlying116 Try.underlying3 hbA hi0 ?_
        intro es9 c9 h91 h92
        refine hK _ _ ?_; clear hK K
        refine TW_nil ?_
        refine yab ?_
        refine hK5 _ _ ?_; try clear hK5 K5
        refine zaa ?_
        refine zab (fun K hK r => ?_)
        refine yaq ?_
        refine hK _ _ ?_; clear hK K
        refine zah rfl ?_
        refine zad ?_
        refine yab ?_
        first
        |(refine ⟨d.wait.length - (k + 1), by omega, k + 1, es', c', by omega, rfl, ?_, hbA, ?_, rfl, rfl, rfl, rfl, rfl, trivial⟩
          ·rw [stN_none (by first | assumption | (simpa using c27))]; exact hms'
          ·exact fun z o hz hn => (show Le H_ _ from lhA) z o (hkp z o hz hn))
        |(refine ⟨d.wait.length - (k + 1), by omega, k + 1, es9, c9, by omega, rfl, ?_, zan _ _ _, ?_, rfl, rfl, rfl, rfl, rfl, trivial⟩
          ·rw [stN_some hkt]
           first
           |exact hms'.put h91 h92
           |(rw [torn_not _ _ _ htr]; exact hms'.put h91 h92)
          ·exact fun z o hz hn => (zap _ _ hn).trans ((show Le H_ _ from lhA) z o (hkp z o hz hn)))
      ·first
       |(exfalso; exact cnA c35; done)
       |skip
        (try replace c35 := yad c35)
        have htr : ¬ (0 < t ∧ t < 64) := by omega
        refine zau ?_
        refine yab ?_
        refine hK11 _ _ ?_; try clear hK11 K11
        refine CW_drawE [0, 0, 0, 1, 0, 1, 1, 3] [0, 1, 2, 3, 4, 5, 6, 7] (by kernel_rfl) (by kernel_rfl) (fun R9 hR9 => ?_)
        apply zat rfl (zai (by decide)) rfl
        ·intro r
         refine yaI ?_
         exact ⟨rfl, Le.refl _⟩
        refine yaj ?_
        apply zat rfl (zai (by decide)) rfl
        ·intro r
         rw [zav _ _ rfl]
         exact ⟨rfl, Le.refl _⟩
        refine yaj ?_
        apply zat rfl (zai (by decide)) rfl
        ·intro r
         refine ybL ?_
         exact ⟨rfl, Le.refl _⟩
        refine yaj ?_
        apply zaO rfl (zai (by decide)) rfl
        ·intro r
         refine yba ?_
         refine zae Try.underlying116 rfl hbA ldA ?_
         exact ⟨rfl, Le.refl _⟩
        refine yaj ?_
        apply zat rfl (zai (by decide)) rfl
        ·intro r
         refine ybM ?_
         exact ⟨rfl, Le.refl _⟩
        refine yaj ?_
        apply zaO rfl (zai (by decide)) rfl
        ·intro r
         refine yba ?_
         refine zae Try.underlying3 rfl hbA (wt_at (d.wait.getD k default)) ?_
         exact ⟨rfl, Le.refl _⟩
        refine yaj ?_
        apply zaO rfl (zai (by decide)) rfl
        ·intro r
         refine yba ?_
         refine zax Try.underlying30 rfl sz30 hbA (by simp [Sec.h]) ?_
         exact ⟨rfl, Le.refl _⟩
        refine yaj ?_
        refine TW_last rfl (zas) rfl (fun K hK r => ?_)
        simp only [x_mapUpdate, eX, ↓reduceIte, Nat.reduceEqDiff, Int.reduceToNat]
        refine Lt_mapUpdate Try.underlying116 Try.underlying3 hbA hi0 ?_
        intro es9 c9 h91 h92
        refine hK _ _ ?_; clear hK K
        refine TW_nil ?_
        refine yab ?_
        refine hK5 _ _ ?_; try clear hK5 K5
        refine zaa ?_
        refine zab (fun K hK r => ?_)
        refine yaq ?_
        refine hK _ _ ?_; clear hK K
        refine zah rfl ?_
        refine zad ?_
        refine yab ?_
        first
        |(refine ⟨d.wait.length - (k + 1), by omega, k + 1, es', c', by omega, rfl, ?_, hbA, ?_, rfl, rfl, rfl, rfl, rfl, trivial⟩
          ·rw [stN_none (by first | assumption | (simpa using c27))]; exact hms'
          ·exact fun z o hz hn => (show Le H_ _ from lhA) z o (hkp z o hz hn))
        |(refine ⟨d.wait.length - (k + 1), by omega, k + 1, es9, c9, by omega, rfl, ?_, zan _ _ _, ?_, rfl, rfl, rfl, rfl, rfl, trivial⟩
          ·rw [stN_some hkt]
           first
           |exact hms'.put h91 h92
           |(rw [torn_not _ _ _ htr]; exact hms'.put h91 h92)
          ·exact fun z o hz hn => (zap _ _ hn).trans ((show Le H_ _ from lhA) z o (hkp z o hz hn)))
 ·first
  |(exfalso; exact cnA c16; done)
  |skip
   (try replace c16 := yad c16)
   have hkn : k = d.wait.length := by omega
   refine CW_exit ?_
   refine yab ?_
   refine hK1 _ _ ?_; try clear hK1 K1
   refine zaa ?_
   refine zah rfl ?_
   refine zab (fun K hK r => ?_)
   rw [zav _ _ rfl]
   refine yaj ?_
   refine hK _ _ ?_; clear hK K
   refine zab (fun K hK r => ?_)
   refine ybK ?_
   refine hK _ _ ?_; clear hK K
   refine zaI rfl (zas) (fun K hK r => ?_)
   refine yaD ?_
   refine zaE sz117 hbA bdA plA fzA ?_
   refine yaE ?_
   refine yaf ?_
   refine hK _ _ ?_; clear hK K
   refine zad ?_
   refine yab ?_
   have es9 : MapS es' (stN kept d.wait d.sure d.wait.length) := hkn ▸ hms'
   have kmf : (H_.upd b (.cells #[.int .i64 d.size, .map (some mb), .slice none 0 0] 119)) mb = some (.map es' c') := (zap _ _ (Ne.symm hbm)).trans km'
   refine ⟨[], trivial, _, Le.refl _, fun x => if x = b ∨ x = mb then (H_.upd b (.cells #[.int .i64 d.size, .map (some mb), .slice none 0 0] 119)) x else none, ⟨mb, es', c', .slice none 0 0, none, by simp [zan, Dv.settle], by simpa using kmf, es9, OwnS.nil _ _ _, fun x hx => ?_⟩, fun x o hx => ?_, fun x hx => ?_, fun x o hx hn => ?_⟩
   ·by_cases h : x = b ∨ x = mb
    ·exact h.imp id .inl
    ·simp [h] at hx
   ·by_cases h : x = b ∨ x = mb
    ·simpa [h] using hx
    ·simp [h] at hx
   ·by_cases h : x = b ∨ x = mb
    ·rcases h with rfl | rfl
     ·rw [hb0]; simp
     ·rw [hm0]; simp
    ·simp [h] at hx
   ·exact (zap _ _ (fun e => by subst e; rw [hb0] at hn; cases hn)).trans (hkp x o hx (fun e => by subst e; rw [hm0] at hn; cases hn))
end Go.Proofs.Ytigofhhonnbkmaa.HL
end
