/- A part of the proof. -/
import Derived.Test.YtlkopcgoaldpeaaP19
import Derived.Test.YtlkopcgoaldpeaaP16
import Derived.Test.YtlkopcgoaldpeaaMdPr5
namespace Go.Proofs.Ytlkopcgoaldpeaa.HL
open Go Go.Proofs
set_option linter.unusedSimpArgs false
set_option linter.unusedVariables false
attribute [local irreducible] Lt Lq CW OW TW CallH

set_option maxRecDepth 100000 in
set_option maxHeartbeats 4000000 in
theorem alive6_ok (H : Hp) : CallH Try.prog 7 #[] H (fun v H' => v = .bool true ∧ Le H H') := by
  refine CallH_enter (l := []) (rl := [.tmp 0]) (n := 22) Try.func7 rfl rfl rfl rfl rfl ?_
  simp only [envOf, Nat.reduceAdd]
  refine CW_seq (fun K1 hK1 => ?_)
  refine CW_region ?_
  refine OW_as rfl ?_
  refine OW_nil ?_
  try simp only [Ex.thnH, Ex.inBlockH, ↓reduceIte, Nat.reduceEqDiff]
  refine hK1 _ _ ?_; try clear hK1 K1
  refine CW_seq (fun K2 hK2 => ?_)
  refine CW_region ?_
  refine OW_opS (fun K hK r => ?_)
  simp only [x_build, bp47, List.map_toArray, List.map_cons, List.map_nil, eX, ↓reduceIte, Nat.reduceEqDiff, Int.reduceToNat]
  rw [fill_one rfl clA bdA]
  rw [fill_one rfl clA bdA]
  simp only [fill_nil, orF_some, List.setIfInBounds_toArray, List.set_cons_zero, List.set_cons_succ]
  try simp only [eX, ↓reduceIte, Nat.reduceEqDiff, Int.reduceToNat]
  refine hK _ _ ?_; clear hK K
  refine OW_opS (fun K hK r => ?_)
  simp only [x_buildSlice, List.map_toArray, List.map_cons, List.map_nil, eX, ↓reduceIte, Nat.reduceEqDiff, Int.reduceToNat]
  refine Lt_buildSlice (vs := [_]) Try.underlying22 sz47 zr47 rfl bsA (by first | decide | (simp; done)) ?_
  simp only [List.flatMap_cons, List.flatMap_nil, Value.cells, List.append_nil, List.cons_append, List.nil_append, List.length_cons, List.length_nil, Nat.zero_add, Nat.reduceAdd]
  intro b5 hb5
  have f5_H : H b5 = none := none_of_le lhA hb5
  try simp only [eX, ↓reduceIte, Nat.reduceEqDiff, Int.reduceToNat]
  refine hK _ _ ?_; clear hK K
  refine OW_opS (fun K hK r => ?_)
  simp only [x_build, bp24, List.map_toArray, List.map_cons, List.map_nil, eX, ↓reduceIte, Nat.reduceEqDiff, Int.reduceToNat]
  rw [fill_one rfl clA bdA]
  rw [fill_one rfl clA bdA]
  simp only [fill_nil, orF_some, List.setIfInBounds_toArray, List.set_cons_zero, List.set_cons_succ]
  try simp only [eX, ↓reduceIte, Nat.reduceEqDiff, Int.reduceToNat]
  refine hK _ _ ?_; clear hK K
  refine OW_opS (fun K hK r => ?_)
  simp only [x_callF _ bd14, List.map_toArray, List.map_cons, List.map_nil, eX, ↓reduceIte, Nat.reduceEqDiff, Int.reduceToNat]
  refine (encode_ok _ 5 _ [exC] ⟨rfl, .inr ⟨b5, 0, 1, _, _, _, rfl, hbA, by simp, by simp⟩⟩ (by decide) ex_ok).mono ?_
  rintro v7 H7 ⟨vb7, o7, rfl, hl7, ho7, hq7, rs7, hw7, hr7⟩
  obtain rfl := ho7.2 ex_check
  rw [show encB 5 [exC] = [5, 1, 15, 1] from by unfold encB; rw [if_pos ex_check, ex_bytes]] at hw7
  have hx7 : Holds H7 1 vb7 4 (u8s [5, 1, 15, 1]) := hw7.holds
  obtain ⟨a7, c7, rfl⟩ := hx7.form
  have lH7_H : Le H H7 := Le.trans lhA hl7
  try simp only [eX, ↓reduceIte, Nat.reduceEqDiff, Int.reduceToNat]
  refine hK _ _ ?_; clear hK K
  refine OW_mv rfl ?_
  refine OW_opS (fun K hK r => ?_)
  simp only [x_extract, i_extract, List.getElem?_toArray, List.getElem?_cons_zero, List.getElem?_cons_succ, orF_some, eX, ↓reduceIte, Nat.reduceEqDiff, Int.reduceToNat]
  refine hK _ _ ?_; clear hK K
  refine OW_opS (fun K hK r => ?_)
  simp only [x_extract, i_extract, List.getElem?_toArray, List.getElem?_cons_zero, List.getElem?_cons_succ, orF_some, eX, ↓reduceIte, Nat.reduceEqDiff, Int.reduceToNat]
  refine hK _ _ ?_; clear hK K
  refine OW_as rfl ?_
  refine OW_as rfl ?_
  refine OW_nil ?_
  try simp only [Ex.thnH, Ex.inBlockH, ↓reduceIte, Nat.reduceEqDiff]
  refine hK2 _ _ ?_; try clear hK2 K2
  refine CW_seq (fun K3 hK3 => ?_)
  refine CW_region ?_
  refine OW_mv rfl ?_
  refine OW_opS (fun K hK r => ?_)
  simp only [x_bin, g_int, g_bool, g_string, g_pointer, g_slice, g_map, g_func, g_nilFunc, g_err, g_ifv, g_iface, g_nil_iface, g_nil_r, g_nil_l, eX, ↓reduceIte, Nat.reduceEqDiff, Int.reduceToNat]
  first | rw [b_err_eql _ _ Try.underlying35] | rw [b_ifv_eql _ _ Try.underlying35] | (rw [e_eql _ _ _ _ (by simp), q_equal]; first | rw [q_iface_nil _ _ _ Try.underlying35] | rw [q_nil_iface _ _ _ Try.underlying35] | rw [q_nil_nil _ _ _ Try.underlying35])
  try simp only [eX, ↓reduceIte, Nat.reduceEqDiff, Int.reduceToNat]
  refine hK _ _ ?_; clear hK K
  refine OW_mv rfl ?_
  (first | refine OW_split (d := 12) rfl (fun g12 => ?_) (fun g12 => ?_) | skip)
  all_goals try (exfalso; exact cnA g12)
  all_goals (try simp only [decide_eq_true_eq, decide_eq_false_iff_not, Bool.not_eq_true, Bool.not_eq_false, Bool.and_eq_true, Bool.or_eq_true, Bool.or_eq_false_iff, Bool.not_eq_true, Bool.not_eq_eq_eq_not, Bool.not_true, Bool.not_false] at g12)
  all_goals
    try simp only [eX, ↓reduceIte, Nat.reduceEqDiff, Int.reduceToNat]
    first
    | refine OW_guardT rfl (lt_some (by decide)) rfl (fun K hK r => ?_)
      simp only [x_move, eX, ↓reduceIte, Nat.reduceEqDiff, Int.reduceToNat]
      refine hK _ _ ?_; clear hK K
    | refine OW_guardF rfl (lt_some (by decide)) rfl ?_
      simp only [eX, ↓reduceIte, Nat.reduceEqDiff, Int.reduceToNat]
    first
    | refine OW_guardT rfl (lt_some (by decide)) rfl (fun K hK r => ?_)
      simp only [x_convert, eX, ↓reduceIte, Nat.reduceEqDiff, Int.reduceToNat]
      refine Lt_convBS Try.underlying33 Try.underlying5 Try.underlying9 (l := [5, 1, 15, 1]) hx7 ?_
      refine hK _ _ ?_; clear hK K
    | refine OW_guardF rfl (lt_some (by decide)) rfl ?_
      simp only [eX, ↓reduceIte, Nat.reduceEqDiff, Int.reduceToNat]
    first
    | refine OW_guardT rfl (lt_some (by decide)) rfl (fun K hK r => ?_)
      simp only [x_bin, g_string, b_seql, eX, ↓reduceIte, Nat.reduceEqDiff, Int.reduceToNat]
      rw [show ((strOf [5, 1, 15, 1]).toList == (⟨#[5, 1, 15, 1]⟩ : ByteArray).toList) = true from strOf_beq (a := [5, 1, 15, 1]) (b := [5, 1, 15, 1]) (by intro x hx; simp at hx; omega) (by intro x hx; simp at hx; omega)]
      refine hK _ _ ?_; clear hK K
    | refine OW_guardF rfl (lt_some (by decide)) rfl ?_
      simp only [eX, ↓reduceIte, Nat.reduceEqDiff, Int.reduceToNat]
    refine OW_opS (fun K hK r => ?_)
    simp only [x_pick, l_asBool, HL.ite_bool, if_true, if_false, Bool.false_eq_true, eX, ↓reduceIte, Nat.reduceEqDiff, Int.reduceToNat]
    refine hK _ _ ?_; clear hK K
    refine OW_mv rfl ?_
    (first | refine OW_split (d := 17) rfl (fun g17 => ?_) (fun g17 => ?_) | skip)
    all_goals try (exfalso; exact cnA g17)
    all_goals (try simp only [decide_eq_true_eq, decide_eq_false_iff_not, Bool.not_eq_true, Bool.not_eq_false, Bool.and_eq_true, Bool.or_eq_true, Bool.or_eq_false_iff, Bool.not_eq_true, Bool.not_eq_eq_eq_not, Bool.not_true, Bool.not_false] at g17)
    all_goals
      try simp only [eX, ↓reduceIte, Nat.reduceEqDiff, Int.reduceToNat]
      first
      | refine OW_guardT rfl (lt_some (by decide)) rfl (fun K hK r => ?_)
        simp only [x_build, bp24, List.map_toArray, List.map_cons, List.map_nil, eX, ↓reduceIte, Nat.reduceEqDiff, Int.reduceToNat]
        simp only [fill_nil, orF_some, List.setIfInBounds_toArray, List.set_cons_zero, List.set_cons_succ]
        try simp only [eX, ↓reduceIte, Nat.reduceEqDiff, Int.reduceToNat]
        refine hK _ _ ?_; clear hK K
      | refine OW_guardF rfl (lt_some (by decide)) rfl ?_
        simp only [eX, ↓reduceIte, Nat.reduceEqDiff, Int.reduceToNat]
      first
      | refine OW_guardT rfl (lt_some (by decide)) rfl (fun K hK r => ?_)
        simp only [x_callF _ bd24, List.map_toArray, List.map_cons, List.map_nil, eX, ↓reduceIte, Nat.reduceEqDiff, Int.reduceToNat]
        refine (check_ok _ 0 _ [] ⟨rfl, .inl ⟨none, 0, rfl, rfl⟩⟩ (by decide)).mono ?_
        rintro v19 H19 ⟨o19, rfl, hl19, ho19, hq19⟩
        obtain ⟨b19, rfl⟩ : ∃ b, o19 = some b := by
          cases o19 with
          | none => exact absurd (ho19.1 rfl) (by decide)
          | some b => exact ⟨b, rfl⟩
        have hf19 := (hq19 b19 rfl).2
        have lH19_H : Le H H19 := Le.trans lH7_H hl19
        try simp only [eX, ↓reduceIte, Nat.reduceEqDiff, Int.reduceToNat]
        refine hK _ _ ?_; clear hK K
      | refine OW_guardF rfl (lt_some (by decide)) rfl ?_
        simp only [eX, ↓reduceIte, Nat.reduceEqDiff, Int.reduceToNat]
      first
      | refine OW_guardT rfl (lt_some (by decide)) rfl (fun K hK r => ?_)
        simp only [x_callF _ bd16, List.map_toArray, List.map_cons, List.map_nil, eX, ↓reduceIte, Nat.reduceEqDiff, Int.reduceToNat]
        refine (num_Is_flt _ b19 _ hf19 5).mono ?_
        rintro v H' ⟨rfl, rfl⟩
        try simp only [eX, ↓reduceIte, Nat.reduceEqDiff, Int.reduceToNat]
        refine hK _ _ ?_; clear hK K
      | refine OW_guardF rfl (lt_some (by decide)) rfl ?_
        simp only [eX, ↓reduceIte, Nat.reduceEqDiff, Int.reduceToNat]
      refine OW_opS (fun K hK r => ?_)
      simp only [x_pick, l_asBool, HL.ite_bool, if_true, if_false, Bool.false_eq_true, eX, ↓reduceIte, Nat.reduceEqDiff, Int.reduceToNat]
      refine hK _ _ ?_; clear hK K
      refine OW_as rfl ?_
      refine OW_nil ?_
      try simp only [Ex.thnH, Ex.inBlockH, ↓reduceIte, Nat.reduceEqDiff]
      refine hK3 _ _ ?_; try clear hK3 K3
      refine CW_ret ?_
      try simp only [Ex.thnH, Ex.inBlockH, ↓reduceIte, Nat.reduceEqDiff]
      exact ⟨[_], ⟨rfl, trivial⟩, _, Le.refl _, rfl, lhA⟩

end Go.Proofs.Ytlkopcgoaldpeaa.HL
