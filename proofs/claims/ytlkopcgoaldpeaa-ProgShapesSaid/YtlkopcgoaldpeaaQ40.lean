/- A part of the proof. -/
import Derived.Test.YtlkopcgoaldpeaaS06Ty
import Derived.Test.YtlkopcgoaldpeaaMd03
import Derived.Test.YtlkopcgoaldpeaaHLOwn
import Derived.Test.YtlkopcgoaldpeaaHLShort
import Derived.Test.YtlkopcgoaldpeaaMdPr
namespace Go.Proofs.Ytlkopcgoaldpeaa.HL
open Go Go.Proofs
set_option linter.unusedSimpArgs false
set_option linter.unusedVariables false
attribute [local irreducible] Lt Lq CW OW TW CallH


/-- A writer at p whose bytes are l; S: the blocks it owns. -/
def WR (H : Hp) (p : Nat) (l : List Int) (S : Nat → Prop) : Prop := ∃ v rs, H p = some (.cells #[v] 58) ∧ OwnS H 5 1 v l.length (u8s l) rs ∧ rs ≠ some p ∧ S = fun b => b = p ∨ rs = some b
theorem WR.known {H : Hp} {p : Nat} {l : List Int} {S : Nat → Prop} (h : WR H p l S) : ∀ b, S b → H b ≠ none := by
  obtain ⟨v, rs, h1, h2, h3, rfl⟩ := h
  rintro b (rfl | hb)
  · rw [h1]; simp
  · exact h2.known b hb
theorem WR.stay {H H' : Hp} {p : Nat} {l : List Int} {S : Nat → Prop} (h : WR H p l S) (k : ∀ b o, S b → H b = some o → H' b = some o) : WR H' p l S := by
  obtain ⟨v, rs, h1, h2, h3, rfl⟩ := h
  exact ⟨v, rs, k _ _ (.inl rfl) h1, h2.stay fun b o hb => k b o (.inr hb), h3, rfl⟩
theorem WR.new {H : Hp} {p : Nat} {l : List Int} {S : Nat → Prop} (h : WR H p l S) {b : Nat} {o : Obj} (hb : H b = none) : WR (H.upd b o) p l S :=
  h.stay fun x o' _ hx => by rw [upd_ne]; exact hx; intro e; subst e; rw [hx] at hb; cases hb
theorem WR.fresh {H : Hp} {p : Nat} {v : Value} (hv : v = .slice none 0 0) (h : H p = some (.cells #[v] 58)) : WR H p [] (fun b => b = p) := by
  subst hv
  exact ⟨_, none, h, OwnS.nil _ _ _, by simp, by funext b; simp⟩
theorem WR.at {H : Hp} {p : Nat} {l : List Int} {S : Nat → Prop} (h : WR H p l S) : S p := by
  obtain ⟨v, rs, h1, h2, h3, rfl⟩ := h
  exact .inl rfl

set_option maxRecDepth 100000 in
set_option maxHeartbeats 1000000 in
theorem add_ok (H : Hp) (q : Nat) (l x : List Int) (S : Nat → Prop) (hw : WR H q l S) (v : Value) (hx : Holds H 1 v x.length (u8s x)) (hl : l.length + x.length ≤ 10000000) : CallH Try.prog 49 #[.pointer (some ⟨q, 0, none⟩), v] H (fun _ H' => ∃ S', WR H' q (l ++ x) S' ∧ Frm H S H' S') := by
  refine CallH_enter (l := [_, _]) (rl := []) (n := 15) Try.func49 rfl rfl rfl rfl rfl ?_
  simp only [envOf, Nat.reduceAdd]
  obtain ⟨vw, rs, hq, how, hne, rfl⟩ := hw
  refine CW_seq (fun K1 hK1 => ?_)
  refine CW_region ?_
  refine OW_mv rfl ?_
  refine OW_opS (fun K hK r => ?_)
  simp only [x_bin, g_int, g_bool, g_string, g_pointer, g_slice, g_map, g_func, g_nilFunc, g_iface, g_nil_iface, g_nil_r, g_nil_l, eX, ↓reduceIte, Nat.reduceEqDiff, Int.reduceToNat]
  rw [e_neq _ _ _ _ (by simp)]
  rw [q_equal]
  first | rw [q_ptr_nil _ _ _ Try.underlying56] | rw [q_nil_ptr _ _ _ Try.underlying56]
  try simp only [eX, ↓reduceIte, Nat.reduceEqDiff, Int.reduceToNat]
  refine hK _ _ ?_; clear hK K
  refine OW_nil ?_
  try simp only [Ex.thnH, Ex.inBlockH, ↓reduceIte, Nat.reduceEqDiff]
  refine hK1 _ _ ?_; try clear hK1 K1
  refine CW_cond (fun r => rfl) (fun c5 => ?_) (fun c5 => ?_)
  · first
    | (exfalso; exact cnA c5; done)
    | skip
      (try simp only [decide_eq_true_eq, decide_eq_false_iff_not, Bool.not_eq_true, Bool.not_eq_false, Bool.and_eq_true, Bool.or_eq_true, Bool.or_eq_false_iff, Bool.not_eq_true, Bool.not_eq_eq_eq_not, Bool.not_true, Bool.not_false] at c5)
      refine CW_region ?_
      refine OW_mv rfl ?_
      refine OW_mv rfl ?_
      refine OW_opS (fun K hK r => ?_)
      rw [x_nilCheck _ _ rfl]
      simp only [eX, ↓reduceIte, Nat.reduceEqDiff, Int.reduceToNat]
      refine hK _ _ ?_; clear hK K
      refine OW_opS (fun K hK r => ?_)
      simp only [x_fieldAddr, fa58_0, add_mk, Nat.reduceAdd, Nat.zero_add, eX, ↓reduceIte, Nat.reduceEqDiff, Int.reduceToNat]
      refine hK _ _ ?_; clear hK K
      refine OW_opS (fun K hK r => ?_)
      simp only [x_load, eX, ↓reduceIte, Nat.reduceEqDiff, Int.reduceToNat]
      refine Lt_loadAt1 Try.underlying33 rfl hbA ldA ?_
      try simp only [eX, ↓reduceIte, Nat.reduceEqDiff, Int.reduceToNat]
      refine hK _ _ ?_; clear hK K
      refine OW_mv rfl ?_
      refine OW_opS (fun K hK r => ?_)
      simp only [x_builtin, l_append, List.map_toArray, List.map_cons, List.map_nil, eX, ↓reduceIte, Nat.reduceEqDiff, Int.reduceToNat]
      refine Lt_append Try.underlying33 Try.underlying33 (by simp) sz5 by5 (by decide) zr5 rfl _ (n := l.length) (m := x.length) how (fun K => len_holds hx K) (fun K => first_slice hx K) (by simp) (PlainL.ints _ _) (by omega) ?_
      intro v12 H12 rs12 hg12 ho12 hr12
      have k12_q := hg12.known q _ hq hne
      obtain ⟨a12, c12, rfl⟩ := ho12.holds.form
      refine hK _ _ ?_; clear hK K
      refine OW_opS (fun K hK r => ?_)
      rw [x_nilCheck _ _ rfl]
      simp only [eX, ↓reduceIte, Nat.reduceEqDiff, Int.reduceToNat]
      refine hK _ _ ?_; clear hK K
      refine OW_opS (fun K hK r => ?_)
      simp only [x_fieldAddr, fa58_0, add_mk, Nat.reduceAdd, Nat.zero_add, eX, ↓reduceIte, Nat.reduceEqDiff, Int.reduceToNat]
      refine hK _ _ ?_; clear hK K
      refine OW_op rfl (lt_none) (fun K hK r => ?_)
      simp only [x_store, eX, ↓reduceIte, Nat.reduceEqDiff, Int.reduceToNat]
      refine Lt_storeAt1 sz33 hbA bdA plA fzA ?_
      try simp only [setL0, setL1, setL2, setL3, setL4, setL5, setL6, setL7, setL8, setL9]
      try simp only [eX, ↓reduceIte, Nat.reduceEqDiff, Int.reduceToNat]
      refine hK _ _ ?_; clear hK K
      refine OW_nil ?_
      try simp only [Ex.thnH, Ex.inBlockH, ↓reduceIte, Nat.reduceEqDiff]
      have hne12 : rs12 ≠ some q := fun e => by
        rcases hr12 _ e with h | h
        · exact hne h
        · rw [hq] at h; cases h
      refine ⟨[], trivial, _, Le.refl _, fun b => b = q ∨ rs12 = some b, ⟨_, rs12, upd_same _ _ _, ?_, hne12, rfl⟩, ?_⟩
      · have h := ho12.upd (o := .cells #[.slice a12 (l.length + x.length) c12] 58) hne12
        rw [List.length_append, u8s, List.map_append]; exact h
      · refine ⟨fun b o hb hn => ?_, fun b hb => ?_⟩
        · rw [upd_ne _ _ (fun e => hn (.inl e))]; exact hg12.known b o hb (fun e => hn (.inr e))
        · rcases hb with rfl | hb
          · exact .inl (.inl rfl)
          · rcases hr12 _ hb with h | h
            · exact .inl (.inr h)
            · exact .inr h
  · first
    | (exfalso; exact cnA c5; done)
    | skip
      (try simp only [decide_eq_true_eq, decide_eq_false_iff_not, Bool.not_eq_true, Bool.not_eq_false, Bool.and_eq_true, Bool.or_eq_true, Bool.or_eq_false_iff, Bool.not_eq_true, Bool.not_eq_eq_eq_not, Bool.not_true, Bool.not_false] at c5)
      refine CW_skip ?_
      try simp only [Ex.thnH, Ex.inBlockH, ↓reduceIte, Nat.reduceEqDiff]
      have hne12 : rs12 ≠ some q := fun e => by
        rcases hr12 _ e with h | h
        · exact hne h
        · rw [hq] at h; cases h
      refine ⟨[], trivial, _, Le.refl _, fun b => b = q ∨ rs12 = some b, ⟨_, rs12, upd_same _ _ _, ?_, hne12, rfl⟩, ?_⟩
      · have h := ho12.upd (o := .cells #[.slice a12 (l.length + x.length) c12] 58) hne12
        rw [List.length_append, u8s, List.map_append]; exact h
      · refine ⟨fun b o hb hn => ?_, fun b hb => ?_⟩
        · rw [upd_ne _ _ (fun e => hn (.inl e))]; exact hg12.known b o hb (fun e => hn (.inr e))
        · rcases hb with rfl | hb
          · exact .inl (.inl rfl)
          · rcases hr12 _ hb with h | h
            · exact .inl (.inr h)
            · exact .inr h


theorem c8 (n : Int) (h : n < 256) (h0 : 0 ≤ n) : IntKind.u8.wrap n = n := by rw [w_u8]; omega

set_option maxRecDepth 100000 in
set_option maxHeartbeats 1000000 in
theorem wCount_ok (H : Hp) (q : Nat) (l : List Int) (S : Nat → Prop) (hw : WR H q l S) (n : Nat) (hn : n < 18446744073709551616) (hl : l.length ≤ 9000000) : CallH Try.prog 26 #[.pointer (some ⟨q, 0, none⟩), .int .u64 n] H (fun _ H' => ∃ S', WR H' q (l ++ cnt n) S' ∧ Frm H S H' S') := by
  refine CallH_enter (l := [_, _]) (rl := []) (n := 19) Try.func26 rfl rfl rfl rfl rfl ?_
  simp only [envOf, Nat.reduceAdd]
  refine CW_seq (fun K1 hK1 => ?_)
  refine CW_block ?_
  refine CW_loop (fun m e H_ => ∃ (k : Nat) (a : List Int) (S1 : Nat → Prop), m = k ∧ k ≤ n ∧ cnt n = a ++ cnt k ∧ a.length ≤ 10 ∧ WR H_ q (l ++ a) S1 ∧ Frm H S H_ S1 ∧ Env.has [(0, .pointer (some ⟨q, 0, none⟩)), (1, .int .u64 k)] e) (n) ?_ ?_
  · skip
    exact ⟨n, [], S, rfl, Nat.le_refl _, rfl, by simp, by simpa using hw, Frm.refl _ _, rfl, rfl, trivial⟩
  intro m_ e_ H_ hI_
  obtain ⟨k, a, S1, rfl, hk, hc, ha, hw, hf, he⟩ := hI_
  have hl10 := cnt_len10 hn
  rw [hc, List.length_append] at hl10
  refine CW_env he.sub ?_; clear he e_
  refine CW_seq (fun K2 hK2 => ?_)
  refine CW_seq (fun K3 hK3 => ?_)
  refine CW_region ?_
  refine OW_mv rfl ?_
  refine OW_opS (fun K hK r => ?_)
  simp (disch := (first | omega | decide)) only [x_bin, g_int, b_geq, dec_lt_t, dec_lt_f, dec_le_t, dec_le_f, dec_eq_t, dec_eq_f, Bool.not_true, Bool.not_false, eX, ↓reduceIte, Nat.reduceEqDiff, Int.reduceToNat]
  refine hK _ _ ?_; clear hK K
  refine OW_nil ?_
  try simp only [Ex.thnH, Ex.inBlockH, ↓reduceIte, Nat.reduceEqDiff]
  refine hK3 _ _ ?_; try clear hK3 K3
  refine CW_cond (fun r => rfl) (fun c5 => ?_) (fun c5 => ?_)
  · first
    | (exfalso; exact cnA c5; done)
    | skip
      (try simp only [decide_eq_true_eq, decide_eq_false_iff_not, Bool.not_eq_true, Bool.not_eq_false, Bool.and_eq_true, Bool.or_eq_true, Bool.or_eq_false_iff, Bool.not_eq_true, Bool.not_eq_eq_eq_not, Bool.not_true, Bool.not_false] at c5)
      have c5 : ¬ m_ < 128 := by omega
      refine CW_skip ?_
      try simp only [Ex.thnH, Ex.inBlockH, ↓reduceIte, Nat.reduceEqDiff]
      refine hK2 _ _ ?_; try clear hK2 K2
      refine CW_seq (fun K4 hK4 => ?_)
      refine CW_block ?_
      refine CW_region ?_
      refine OW_mv rfl ?_
      refine OW_mv rfl ?_
      refine OW_opS (fun K hK r => ?_)
      simp (disch := (first | omega | decide)) only [x_convert, c_int _ _ _ _ Try.underlying60 Try.underlying5, wrap_i64, wrap_u64, wrap_u32, wrap_u8, eX, ↓reduceIte, Nat.reduceEqDiff, Int.reduceToNat]
      skip
      refine hK _ _ ?_; clear hK K
      refine OW_opS (fun K hK r => ?_)
      simp only [x_bin, g_int, b_or, eX, ↓reduceIte, Nat.reduceEqDiff, Int.reduceToNat]
      rw [or128]
      refine hK _ _ ?_; clear hK K
      refine OW_opS (fun K hK r => ?_)
      simp only [x_buildSlice, List.map_toArray, List.map_cons, List.map_nil, eX, ↓reduceIte, Nat.reduceEqDiff, Int.reduceToNat]
      refine Lt_buildSlice (vs := [_]) Try.underlying33 sz5 zr5 rfl bsA (by first | decide | (simp; done)) ?_
      simp only [List.flatMap_cons, List.flatMap_nil, Value.cells, List.append_nil, List.cons_append, List.nil_append, List.length_cons, List.length_nil, Nat.zero_add, Nat.reduceAdd]
      intro b12 hb12
      try simp only [eX, ↓reduceIte, Nat.reduceEqDiff, Int.reduceToNat]
      refine hK _ _ ?_; clear hK K
      refine OW_opS (fun K hK r => ?_)
      simp only [x_callF _ bd49, List.map_toArray, List.map_cons, List.map_nil, eX, ↓reduceIte, Nat.reduceEqDiff, Int.reduceToNat]
      have hwn := fun o => hw.new (o := o) hb12
      have hfn := fun o => hf.new (o := o) hb12
      refine (add_ok _ q (l ++ a) [((m_ % 128 + 128 : Nat) : Int)] _ (hwn _) _ ⟨rfl, .inr ⟨b12, 0, _, _, _, _, rfl, upd_same _ _ _, by simp, by simp⟩⟩ (by first | omega | (simp; omega))).mono ?_
      rintro v13 H13 ⟨S13, hw13, hf13⟩
      have hf13 := (hfn _).trans hf13
      try simp only [eX, ↓reduceIte, Nat.reduceEqDiff, Int.reduceToNat]
      refine hK _ _ ?_; clear hK K
      refine OW_nil ?_
      try simp only [Ex.thnH, Ex.inBlockH, ↓reduceIte, Nat.reduceEqDiff]
      refine hK4 _ _ ?_; try clear hK4 K4
      refine CW_region ?_
      refine OW_mv rfl ?_
      refine OW_opS (fun K hK r => ?_)
      simp (disch := (first | omega | decide)) only [x_bin, g_int, b_shr, wrap_i64, wrap_u64, wrap_u32, wrap_u8, eX, ↓reduceIte, Nat.reduceEqDiff, Int.reduceToNat]
      rw [shr7]
      refine hK _ _ ?_; clear hK K
      refine OW_as rfl ?_
      refine OW_nil ?_
      try simp only [Ex.thnH, Ex.inBlockH, ↓reduceIte, Nat.reduceEqDiff]
      refine ⟨m_ / 128, by omega, m_ / 128, a ++ [((m_ % 128 + 128 : Nat) : Int)], S13, rfl, by omega, ?_, ?_, ?_, hf13, rfl, ?_, trivial⟩
      · rw [hc, cnt_ge c5]; simp
      · rw [cnt_ge c5] at hl10; simp at hl10 ⊢; omega
      · rw [← List.append_assoc]; exact hw13
      · show some (Value.int _ _) = some (Value.int _ _)
        congr 2
  · first
    | (exfalso; exact cnA c5; done)
    | skip
      (try simp only [decide_eq_true_eq, decide_eq_false_iff_not, Bool.not_eq_true, Bool.not_eq_false, Bool.and_eq_true, Bool.or_eq_true, Bool.or_eq_false_iff, Bool.not_eq_true, Bool.not_eq_eq_eq_not, Bool.not_true, Bool.not_false] at c5)
      have c5 : m_ < 128 := by omega
      refine CW_exit ?_
      try simp only [Ex.thnH, Ex.inBlockH, ↓reduceIte, Nat.reduceEqDiff]
      refine hK1 _ _ ?_; try clear hK1 K1
      refine CW_region ?_
      refine OW_mv rfl ?_
      refine OW_mv rfl ?_
      refine OW_opS (fun K hK r => ?_)
      simp (disch := (first | omega | decide)) only [x_convert, c_int _ _ _ _ Try.underlying60 Try.underlying5, wrap_i64, wrap_u64, wrap_u32, wrap_u8, eX, ↓reduceIte, Nat.reduceEqDiff, Int.reduceToNat]
      refine hK _ _ ?_; clear hK K
      refine OW_opS (fun K hK r => ?_)
      simp only [x_buildSlice, List.map_toArray, List.map_cons, List.map_nil, eX, ↓reduceIte, Nat.reduceEqDiff, Int.reduceToNat]
      refine Lt_buildSlice (vs := [_]) Try.underlying33 sz5 zr5 rfl bsA (by first | decide | (simp; done)) ?_
      simp only [List.flatMap_cons, List.flatMap_nil, Value.cells, List.append_nil, List.cons_append, List.nil_append, List.length_cons, List.length_nil, Nat.zero_add, Nat.reduceAdd]
      intro b17 hb17
      try simp only [eX, ↓reduceIte, Nat.reduceEqDiff, Int.reduceToNat]
      refine hK _ _ ?_; clear hK K
      refine OW_opS (fun K hK r => ?_)
      simp only [x_callF _ bd49, List.map_toArray, List.map_cons, List.map_nil, eX, ↓reduceIte, Nat.reduceEqDiff, Int.reduceToNat]
      have hwn := fun o => hw.new (o := o) hb17
      have hfn := fun o => hf.new (o := o) hb17
      refine (add_ok _ q (l ++ a) [((m_ : Nat) : Int)] _ (hwn _) _ ⟨rfl, .inr ⟨b17, 0, _, _, _, _, rfl, upd_same _ _ _, by simp, by simp⟩⟩ (by first | omega | (simp; omega))).mono ?_
      rintro v18 H18 ⟨S18, hw18, hf18⟩
      have hf18 := (hfn _).trans hf18
      try simp only [eX, ↓reduceIte, Nat.reduceEqDiff, Int.reduceToNat]
      refine hK _ _ ?_; clear hK K
      refine OW_nil ?_
      try simp only [Ex.thnH, Ex.inBlockH, ↓reduceIte, Nat.reduceEqDiff]
      refine ⟨[], trivial, _, Le.refl _, S18, ?_, hf18⟩
      rw [hc, cnt_lt c5, ← List.append_assoc]; exact hw18

end Go.Proofs.Ytlkopcgoaldpeaa.HL
