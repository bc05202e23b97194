/- A part of the proof. -/
import Derived.Test.YtlkopcgoaldpeaaQ40
namespace Go.Proofs.Ytlkopcgoaldpeaa.HL
open Go Go.Proofs
set_option linter.unusedSimpArgs false
set_option linter.unusedVariables false
attribute [local irreducible] Lt Lq CW OW TW CallH

set_option maxRecDepth 100000 in
set_option maxHeartbeats 1000000 in
theorem wNum_ok (H : Hp) (q : Nat) (l : List Int) (S : Nat → Prop) (hw : WR H q l S) (n : Int) (h1 : -9223372036854775808 ≤ n) (h2 : n ≤ 9223372036854775807) (hl : l.length ≤ 9000000) : CallH Try.prog 29 #[.pointer (some ⟨q, 0, none⟩), .int .i64 n] H (fun _ H' => ∃ S', WR H' q (l ++ cnt (zig n)) S' ∧ Frm H S H' S') := by
  refine CallH_enter (l := [_, _]) (rl := []) (n := 13) Try.func29 rfl rfl rfl rfl rfl ?_
  simp only [envOf, Nat.reduceAdd]
  have hz := zig_lt h1 h2
  have hzb := zig_bits h1 h2
  simp only [Int.reduceToNat] at hzb
  refine CW_region ?_
  refine OW_mv rfl ?_
  refine OW_mv rfl ?_
  refine OW_opS (fun K hK r => ?_)
  simp (disch := (first | omega | decide)) only [x_convert, c_int _ _ _ _ Try.underlying3 Try.underlying60, wrap_i64, wrap_u64, wrap_u32, wrap_u8, eX, ↓reduceIte, Nat.reduceEqDiff, Int.reduceToNat]
  refine hK _ _ ?_; clear hK K
  refine OW_opS (fun K hK r => ?_)
  simp (disch := (first | omega | decide)) only [x_bin, g_int, b_shl, wrap_i64, wrap_u64, wrap_u32, wrap_u8, eX, ↓reduceIte, Nat.reduceEqDiff, Int.reduceToNat]
  refine hK _ _ ?_; clear hK K
  refine OW_mv rfl ?_
  refine OW_opS (fun K hK r => ?_)
  simp (disch := (first | omega | decide)) only [x_bin, g_int, b_shr, wrap_i64, wrap_u64, wrap_u32, wrap_u8, eX, ↓reduceIte, Nat.reduceEqDiff, Int.reduceToNat]
  refine hK _ _ ?_; clear hK K
  refine OW_opS (fun K hK r => ?_)
  simp (disch := (first | omega | decide)) only [x_convert, c_int _ _ _ _ Try.underlying3 Try.underlying60, wrap_i64, wrap_u64, wrap_u32, wrap_u8, eX, ↓reduceIte, Nat.reduceEqDiff, Int.reduceToNat]
  refine hK _ _ ?_; clear hK K
  refine OW_opS (fun K hK r => ?_)
  simp only [x_bin, g_int, b_xor, eX, ↓reduceIte, Nat.reduceEqDiff, Int.reduceToNat]
  rw [hzb]
  refine hK _ _ ?_; clear hK K
  refine OW_opS (fun K hK r => ?_)
  simp only [x_callF _ bd26, List.map_toArray, List.map_cons, List.map_nil, eX, ↓reduceIte, Nat.reduceEqDiff, Int.reduceToNat]
  refine (wCount_ok _ q l S hw (zig n) (by omega) (by omega)).mono ?_
  rintro v12 H12 ⟨S12, hw12, hf12⟩
  try simp only [eX, ↓reduceIte, Nat.reduceEqDiff, Int.reduceToNat]
  refine hK _ _ ?_; clear hK K
  refine OW_nil ?_
  try simp only [Ex.thnH, Ex.inBlockH, ↓reduceIte, Nat.reduceEqDiff]
  exact ⟨[], trivial, _, Le.refl _, S12, hw12, hf12⟩

set_option maxRecDepth 100000 in
set_option maxHeartbeats 1000000 in
theorem wByte_ok (H : Hp) (q : Nat) (l : List Int) (S : Nat → Prop) (hw : WR H q l S) (n : Int) (hl : l.length ≤ 9000000) : CallH Try.prog 27 #[.pointer (some ⟨q, 0, none⟩), .int .u8 n] H (fun _ H' => ∃ S', WR H' q (l ++ [n]) S' ∧ Frm H S H' S') := by
  refine CallH_enter (l := [_, _]) (rl := []) (n := 8) Try.func27 rfl rfl rfl rfl rfl ?_
  simp only [envOf, Nat.reduceAdd]
  have hf := Frm.refl H S
  refine CW_region ?_
  refine OW_mv rfl ?_
  refine OW_mv rfl ?_
  refine OW_opS (fun K hK r => ?_)
  simp only [x_buildSlice, List.map_toArray, List.map_cons, List.map_nil, eX, ↓reduceIte, Nat.reduceEqDiff, Int.reduceToNat]
  refine Lt_buildSlice (vs := [_]) Try.underlying33 sz5 zr5 rfl bsA (by first | decide | (simp; done)) ?_
  simp only [List.flatMap_cons, List.flatMap_nil, Value.cells, List.append_nil, List.cons_append, List.nil_append, List.length_cons, List.length_nil, Nat.zero_add, Nat.reduceAdd]
  intro b6 hb6
  try simp only [eX, ↓reduceIte, Nat.reduceEqDiff, Int.reduceToNat]
  refine hK _ _ ?_; clear hK K
  refine OW_opS (fun K hK r => ?_)
  simp only [x_callF _ bd49, List.map_toArray, List.map_cons, List.map_nil, eX, ↓reduceIte, Nat.reduceEqDiff, Int.reduceToNat]
  have hwn := fun o => hw.new (o := o) hb6
  have hfn := fun o => hf.new (o := o) hb6
  refine (add_ok _ q (l) [n] _ (hwn _) _ ⟨rfl, .inr ⟨b6, 0, _, _, _, _, rfl, upd_same _ _ _, by simp, by simp⟩⟩ (by first | omega | (simp; omega))).mono ?_
  rintro v7 H7 ⟨S7, hw7, hf7⟩
  have hf7 := (hfn _).trans hf7
  try simp only [eX, ↓reduceIte, Nat.reduceEqDiff, Int.reduceToNat]
  refine hK _ _ ?_; clear hK K
  refine OW_nil ?_
  try simp only [Ex.thnH, Ex.inBlockH, ↓reduceIte, Nat.reduceEqDiff]
  exact ⟨[], trivial, _, Le.refl _, S7, hw7, hf7⟩

end Go.Proofs.Ytlkopcgoaldpeaa.HL
