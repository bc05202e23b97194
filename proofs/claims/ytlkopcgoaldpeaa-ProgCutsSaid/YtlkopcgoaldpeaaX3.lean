/- Parts of the proof, one behind the other: Q42, Q50, MdPr3, MdPr4, P19, Q43, Q44, Q45, Q46, P16, MdPr5. -/
import Derived.Test.YtlkopcgoaldpeaaX2
set_option linter.unusedSimpArgs false
set_option linter.unusedVariables false
section
namespace Go.Proofs.Ytlkopcgoaldpeaa.HL
open Go Go.Proofs
set_option linter.unusedSimpArgs false
set_option linter.unusedVariables false
attribute [local irreducible] Lt Lq CW OW TW CallH

set_option maxRecDepth 100000 in
set_option maxHeartbeats 1000000 in
theorem clone_ok (H : Hp) (v : Value) (l : List Int) (hv : Holds H 1 v l.length (u8s l)) (hl : l.length ≤ 10000000) : CallH Try.prog 50 #[v] H (fun v' H' => Le H H' ∧ ∃ rs, OwnS H' 5 1 v' l.length (u8s l) rs ∧ ∀ r, rs = some r → H r = none) := by
  refine CallH_enter (l := [_]) (rl := [.tmp 2]) (n := 8) Try.func50 rfl rfl rfl rfl rfl ?_
  simp only [envOf, Nat.reduceAdd]
  obtain ⟨a, cap, rfl⟩ := hv.form
  refine CW_seq (fun K1 hK1 => ?_)
  refine CW_region ?_
  refine OW_as rfl ?_
  refine OW_nil ?_
  try simp only [Ex.thnH, Ex.inBlockH, ↓reduceIte, Nat.reduceEqDiff]
  refine hK1 _ _ ?_; try clear hK1 K1
  refine CW_seq (fun K2 hK2 => ?_)
  refine CW_seq (fun K3 hK3 => ?_)
  refine CW_region ?_
  refine OW_mv rfl ?_
  refine OW_opS (fun K hK r => ?_)
  simp only [x_bin, g_int, g_bool, g_string, g_pointer, g_slice, g_map, g_func, g_nilFunc, g_iface, g_nil_iface, g_nil_r, g_nil_l, eX, ↓reduceIte, Nat.reduceEqDiff, Int.reduceToNat]
  rw [e_eql _ _ _ _ (by simp)]
  rw [q_equal, q_slice_nil _ _ _ Try.underlying33]
  try simp only [eX, ↓reduceIte, Nat.reduceEqDiff, Int.reduceToNat]
  refine hK _ _ ?_; clear hK K
  refine OW_nil ?_
  try simp only [Ex.thnH, Ex.inBlockH, ↓reduceIte, Nat.reduceEqDiff]
  refine hK3 _ _ ?_; try clear hK3 K3
  refine CW_cond (fun r => rfl) (fun c4 => ?_) (fun c4 => ?_)
  · first
    | (exfalso; exact cnA c4; done)
    | skip
      (try simp only [decide_eq_true_eq, decide_eq_false_iff_not, Bool.not_eq_true, Bool.not_eq_false, Bool.and_eq_true, Bool.or_eq_true, Bool.or_eq_false_iff, Bool.not_eq_true, Bool.not_eq_eq_eq_not, Bool.not_true, Bool.not_false] at c4)
      refine CW_seq (fun K4 hK4 => ?_)
      refine CW_region ?_
      refine OW_as rfl ?_
      refine OW_nil ?_
      try simp only [Ex.thnH, Ex.inBlockH, ↓reduceIte, Nat.reduceEqDiff]
      refine hK4 _ _ ?_; try clear hK4 K4
      refine CW_ret ?_
      try simp only [Ex.thnH, Ex.inBlockH, ↓reduceIte, Nat.reduceEqDiff]
      have ha : a = none := by cases a with
        | none => rfl
        | some A => simp at c4
      subst ha
      have h0 : l = [] := by
        obtain ⟨h1, ⟨_, _, h2, h3⟩ | ⟨b, o, c, _, _, _, h2, _⟩⟩ := hv
        · exact List.eq_nil_of_length_eq_zero h3
        · cases h2
      subst h0
      exact ⟨[_], ⟨rfl, trivial⟩, _, Le.refl _, Le.refl _, none, OwnS.nil _ _ _, fun r hr => by cases hr⟩
  · first
    | (exfalso; exact cnA c4; done)
    | skip
      (try simp only [decide_eq_true_eq, decide_eq_false_iff_not, Bool.not_eq_true, Bool.not_eq_false, Bool.and_eq_true, Bool.or_eq_true, Bool.or_eq_false_iff, Bool.not_eq_true, Bool.not_eq_eq_eq_not, Bool.not_true, Bool.not_false] at c4)
      refine CW_skip ?_
      try simp only [Ex.thnH, Ex.inBlockH, ↓reduceIte, Nat.reduceEqDiff]
      refine hK2 _ _ ?_; try clear hK2 K2
      refine CW_seq (fun K5 hK5 => ?_)
      refine CW_region ?_
      refine OW_opS (fun K hK r => ?_)
      simp only [x_buildSlice, List.map_toArray, List.map_cons, List.map_nil, eX, ↓reduceIte, Nat.reduceEqDiff, Int.reduceToNat]
      refine Lt_buildSlice (vs := []) Try.underlying33 sz5 zr5 rfl bsA (by first | decide | (simp; done)) ?_
      simp only [List.flatMap_cons, List.flatMap_nil, Value.cells, List.append_nil, List.cons_append, List.nil_append, List.length_cons, List.length_nil, Nat.zero_add, Nat.reduceAdd]
      intro b5 hb5
      have f5_H : H b5 = none := none_of_le lhA hb5
      try simp only [eX, ↓reduceIte, Nat.reduceEqDiff, Int.reduceToNat]
      refine hK _ _ ?_; clear hK K
      refine OW_mv rfl ?_
      refine OW_opS (fun K hK r => ?_)
      simp only [x_builtin, l_append, List.map_toArray, List.map_cons, List.map_nil, eX, ↓reduceIte, Nat.reduceEqDiff, Int.reduceToNat]
      refine Lt_appendNew Try.underlying33 sz5 by5 (by decide) zr5 rfl _ hbA (hv.le lhA) (PlainL.ints _ _) (by omega) ?_
      intro v7 H7 rs7 hg7 ho7 hr7
      have lH7_H : Le H H7 := hg7.le (H0 := H) lhA (fun r hr => by cases hr; exact f5_H)
      refine hK _ _ ?_; clear hK K
      refine OW_as rfl ?_
      refine OW_nil ?_
      try simp only [Ex.thnH, Ex.inBlockH, ↓reduceIte, Nat.reduceEqDiff]
      refine hK5 _ _ ?_; try clear hK5 K5
      refine CW_ret ?_
      try simp only [Ex.thnH, Ex.inBlockH, ↓reduceIte, Nat.reduceEqDiff]
      exact ⟨[_], ⟨rfl, trivial⟩, _, Le.refl _, lH7_H, rs7, ho7, fun r hr => by
        rcases hr7 r hr with h | h
        · subst h; exact f5_H
        · exact none_of_le lhA h⟩

set_option maxRecDepth 100000 in
set_option maxHeartbeats 1000000 in
theorem out_ok (H : Hp) (q : Nat) (l : List Int) (S : Nat → Prop) (hw : WR H q l S) (hl : l.length ≤ 10000000) : CallH Try.prog 30 #[.pointer (some ⟨q, 0, none⟩)] H (fun v' H' => Le H H' ∧ ∃ rs, OwnS H' 5 1 v' l.length (u8s l) rs ∧ ∀ r, rs = some r → H r = none) := by
  refine CallH_enter (l := [_]) (rl := [.tmp 2]) (n := 10) Try.func30 rfl rfl rfl rfl rfl ?_
  simp only [envOf, Nat.reduceAdd]
  obtain ⟨vw, rs, hq, how, hne, rfl⟩ := hw
  refine CW_seq (fun K1 hK1 => ?_)
  refine CW_region ?_
  refine OW_as rfl ?_
  refine OW_nil ?_
  try simp only [Ex.thnH, Ex.inBlockH, ↓reduceIte, Nat.reduceEqDiff]
  refine hK1 _ _ ?_; try clear hK1 K1
  refine CW_seq (fun K2 hK2 => ?_)
  refine CW_seq (fun K3 hK3 => ?_)
  refine CW_region ?_
  refine OW_mv rfl ?_
  refine OW_opS (fun K hK r => ?_)
  simp only [x_bin, g_int, g_bool, g_string, g_pointer, g_slice, g_map, g_func, g_nilFunc, g_iface, g_nil_iface, g_nil_r, g_nil_l, eX, ↓reduceIte, Nat.reduceEqDiff, Int.reduceToNat]
  rw [e_eql _ _ _ _ (by simp)]
  rw [q_equal]
  first | rw [q_ptr_nil _ _ _ Try.underlying56] | rw [q_nil_ptr _ _ _ Try.underlying56]
  try simp only [eX, ↓reduceIte, Nat.reduceEqDiff, Int.reduceToNat]
  refine hK _ _ ?_; clear hK K
  refine OW_nil ?_
  try simp only [Ex.thnH, Ex.inBlockH, ↓reduceIte, Nat.reduceEqDiff]
  refine hK3 _ _ ?_; try clear hK3 K3
  refine CW_cond (fun r => rfl) (fun c4 => ?_) (fun c4 => ?_)
  · first
    | (exfalso; exact cnA c4; done)
    | skip
      (try simp only [decide_eq_true_eq, decide_eq_false_iff_not, Bool.not_eq_true, Bool.not_eq_false, Bool.and_eq_true, Bool.or_eq_true, Bool.or_eq_false_iff, Bool.not_eq_true, Bool.not_eq_eq_eq_not, Bool.not_true, Bool.not_false] at c4)
      refine CW_seq (fun K4 hK4 => ?_)
      refine CW_region ?_
      refine OW_as rfl ?_
      refine OW_nil ?_
      try simp only [Ex.thnH, Ex.inBlockH, ↓reduceIte, Nat.reduceEqDiff]
      refine hK4 _ _ ?_; try clear hK4 K4
      refine CW_ret ?_
      try simp only [Ex.thnH, Ex.inBlockH, ↓reduceIte, Nat.reduceEqDiff]
      exfalso; simp_all
  · first
    | (exfalso; exact cnA c4; done)
    | skip
      (try simp only [decide_eq_true_eq, decide_eq_false_iff_not, Bool.not_eq_true, Bool.not_eq_false, Bool.and_eq_true, Bool.or_eq_true, Bool.or_eq_false_iff, Bool.not_eq_true, Bool.not_eq_eq_eq_not, Bool.not_true, Bool.not_false] at c4)
      refine CW_skip ?_
      try simp only [Ex.thnH, Ex.inBlockH, ↓reduceIte, Nat.reduceEqDiff]
      refine hK2 _ _ ?_; try clear hK2 K2
      refine CW_seq (fun K5 hK5 => ?_)
      refine CW_region ?_
      refine OW_mv rfl ?_
      refine OW_opS (fun K hK r => ?_)
      rw [x_nilCheck _ _ rfl]
      simp only [eX, ↓reduceIte, Nat.reduceEqDiff, Int.reduceToNat]
      refine hK _ _ ?_; clear hK K
      refine OW_opS (fun K hK r => ?_)
      simp only [x_fieldAddr, fa58_0, add_mk, Nat.reduceAdd, Nat.zero_add, eX, ↓reduceIte, Nat.reduceEqDiff, Int.reduceToNat]
      refine hK _ _ ?_; clear hK K
      refine OW_opS (fun K hK r => ?_)
      simp only [x_load, eX, ↓reduceIte, Nat.reduceEqDiff, Int.reduceToNat]
      refine Lt_loadAt1 Try.underlying33 rfl hbA ldA ?_
      try simp only [eX, ↓reduceIte, Nat.reduceEqDiff, Int.reduceToNat]
      refine hK _ _ ?_; clear hK K
      refine OW_opS (fun K hK r => ?_)
      simp only [x_callF _ bd50, List.map_toArray, List.map_cons, List.map_nil, eX, ↓reduceIte, Nat.reduceEqDiff, Int.reduceToNat]
      refine (clone_ok _ vw l how.holds hl).mono ?_
      rintro v9 H9 ⟨hl9, rs9, ho9, hr9⟩
      try simp only [eX, ↓reduceIte, Nat.reduceEqDiff, Int.reduceToNat]
      refine hK _ _ ?_; clear hK K
      refine OW_as rfl ?_
      refine OW_nil ?_
      try simp only [Ex.thnH, Ex.inBlockH, ↓reduceIte, Nat.reduceEqDiff]
      refine hK5 _ _ ?_; try clear hK5 K5
      refine CW_ret ?_
      try simp only [Ex.thnH, Ex.inBlockH, ↓reduceIte, Nat.reduceEqDiff]
      exact ⟨[_], ⟨rfl, trivial⟩, _, Le.refl _, hl9, rs9, ho9, hr9⟩

end Go.Proofs.Ytlkopcgoaldpeaa.HL
end
section
namespace Go.Proofs.Ytlkopcgoaldpeaa.HL
open Go Go.Proofs
set_option linter.unusedSimpArgs false
set_option linter.unusedVariables false
attribute [local irreducible] Lt Lq CW OW TW CallH

end Go.Proofs.Ytlkopcgoaldpeaa.HL
end
section
namespace Go.Proofs.Ytlkopcgoaldpeaa.HL
open Go
set_option linter.unusedSimpArgs false
theorem mem_of_getD {L : List Int} {l : Int} {k : Nat} (h : k < L.length) (he : L.getD k 0 = l) : l ∈ L := by
  rw [← he, List.getD_eq_getElem?_getD, List.getElem?_eq_getElem h]; exact List.getElem_mem h
end Go.Proofs.Ytlkopcgoaldpeaa.HL
end
section
namespace Go.Proofs.Ytlkopcgoaldpeaa.HL
open Go
set_option linter.unusedSimpArgs false
theorem le_both {A B : Hp} (h : Le A B) (b : Nat) (o : Obj) : Le (A.upd b o) (B.upd b o) := fun x o' hx => by
  by_cases e : x = b
  · subst e; rw [upd_same] at hx ⊢; exact hx
  · rw [upd_ne _ _ e] at hx ⊢; exact h x o' hx
theorem cd_mem {l : List Cd} {i : Nat} (h : i < l.length) : l.getD i default ∈ l := by
  rw [List.getD_eq_getElem?_getD, List.getElem?_eq_getElem h]; exact List.getElem_mem h
theorem cnt_wrap_len (z : Int) : (cnt (IntKind.u64.wrap z).toNat).length ≤ 10 := by
  refine cnt_len10 ?_
  have h1 := u64_lt z
  have h2 := u64_nonneg z
  omega
theorem encF_len {x : Cd} (h : x.ok) (l : Int) : (encF x l).length ≤ 10 := by
  unfold encF; split
  · exact cnt_len10 (zig_lt h.n1 h.n2)
  · exact cnt_wrap_len _
theorem ff_len {x : Cd} (h : x.ok) (l : List Int) : (l.flatMap (encF x)).length ≤ 10 * l.length := by
  induction l with
  | nil => simp
  | cons a l ih => rw [List.flatMap_cons, List.length_append, List.length_cons]; have := encF_len h a; omega
theorem encC_len {x : Cd} (h : x.ok) : (encC x).length ≤ 51 := by
  unfold encC; rw [List.length_cons]; have := ff_len h (shp x.op); have := shp_len x.op; omega
theorem fm_len {cs : List Cd} (h : ∀ x ∈ cs, x.ok) : (cs.flatMap encC).length ≤ 51 * cs.length := by
  induction cs with
  | nil => simp
  | cons a l ih =>
    rw [List.flatMap_cons, List.length_append, List.length_cons]
    have := encC_len (h a (by simp)); have := ih (fun x hx => h x (by simp [hx])); omega
theorem encCs_step {cs : List Cd} {k : Nat} (h : k < cs.length) : (cs.take (k + 1)).flatMap encC = (cs.take k).flatMap encC ++ encC (cs.getD k default) := by
  rw [List.take_succ_eq_append_getElem h, List.flatMap_append]; simp [List.getD_eq_getElem?_getD, h]
theorem encF_step (x : Cd) {l : List Int} {j : Nat} (h : j < l.length) : (l.take (j + 1)).flatMap (encF x) = (l.take j).flatMap (encF x) ++ encF x (l.getD j 0) := by
  rw [List.take_succ_eq_append_getElem h, List.flatMap_append]; simp [List.getD_eq_getElem?_getD, h]
theorem encF_n {x : Cd} {l : Int} (h : l = 110) : encF x l = cnt (zig x.n) := by unfold encF; rw [if_pos h]
theorem encF_o {x : Cd} {l : Int} (h : ¬ l = 110) : encF x l = cnt (IntKind.u64.wrap (x.fld l)).toNat := by unfold encF; rw [if_neg h]
end Go.Proofs.Ytlkopcgoaldpeaa.HL
end
section
namespace Go.Proofs.Ytlkopcgoaldpeaa.HL
open Go Go.Proofs
set_option linter.unusedSimpArgs false
set_option linter.unusedVariables false
attribute [local irreducible] Lt Lq CW OW TW CallH


/-- what Encode gives -/
def encB (fuel : Int) (cs : List Cd) : List Int := if checkP fuel cs = -2 then encP fuel cs else []

set_option maxRecDepth 100000 in
set_option maxHeartbeats 8000000 in
theorem encode_ok (H : Hp) (fuel : Int) (vc : Value) (cs : List Cd) (hv : Holds H 6 vc cs.length (cds cs)) (hn : cs.length ≤ 1000000) (hc : ∀ x ∈ cs, x.ok) : CallH Try.prog 14 #[.agg #[.int .i64 fuel, vc]] H (fun v H' => ∃ vb o, v = .tuple #[vb, fltV o] ∧ Le H H' ∧ (o = none ↔ checkP fuel cs = -2) ∧ (∀ b, o = some b → H b = none ∧ H' b = some (fltO (checkP fuel cs))) ∧ ∃ rs, OwnS H' 5 1 vb (encB fuel cs).length (u8s (encB fuel cs)) rs ∧ ∀ r, rs = some r → H r = none) := by
  refine CallH_enter (l := [_]) (rl := [.tmp 2, .tmp 3]) (n := 74) Try.func14 rfl rfl rfl rfl rfl ?_
  simp only [envOf, Nat.reduceAdd]
  obtain ⟨av, kv, rfl⟩ := hv.form
  refine CW_seq (fun K1 hK1 => ?_)
  refine CW_region ?_
  refine OW_opS (fun K hK r => ?_)
  simp only [x_box, Value.cells, eX, ↓reduceIte, Nat.reduceEqDiff, Int.reduceToNat]
  intro b1 hb1
  have f1_H : H b1 = none := none_of_le lhA hb1
  try simp only [eX, ↓reduceIte, Nat.reduceEqDiff, Int.reduceToNat]
  refine hK _ _ ?_; clear hK K
  refine OW_as rfl ?_
  refine OW_as rfl ?_
  refine OW_nil ?_
  try simp only [Ex.thnH, Ex.inBlockH, ↓reduceIte, Nat.reduceEqDiff]
  refine hK1 _ _ ?_; try clear hK1 K1
  refine CW_seq (fun K2 hK2 => ?_)
  refine CW_seq (fun K3 hK3 => ?_)
  refine CW_region ?_
  refine OW_opS (fun K hK r => ?_)
  simp only [x_load, eX, ↓reduceIte, Nat.reduceEqDiff, Int.reduceToNat]
  first | refine Lt_loadAll Try.underlying24 rfl sz24 hbA bdA ?_ | refine Lt_loadAtA Try.underlying24 rfl sz24 hbA bdA ?_
  try simp only [List.extract_toArray, List.extract_eq_take_drop, Nat.zero_add, Nat.reduceAdd, Nat.reduceSub, Nat.sub_zero, List.drop_succ_cons, List.drop_zero, List.take_succ_cons, List.take_zero, List.take_nil, List.drop_nil]
  try simp only [eX, ↓reduceIte, Nat.reduceEqDiff, Int.reduceToNat]
  refine hK _ _ ?_; clear hK K
  refine OW_opS (fun K hK r => ?_)
  simp only [x_callF _ bd24, List.map_toArray, List.map_cons, List.map_nil, eX, ↓reduceIte, Nat.reduceEqDiff, Int.reduceToNat]
  refine (check_ok _ fuel _ cs (hv.le lhA) hn).mono ?_
  rintro v13 H13 ⟨o13, rfl, hl13, ho13, hq13⟩
  try have kH13_b1 := hl13 b1 _ hbA
  have lH13_H : Le H H13 := Le.trans lhA hl13
  try simp only [eX, ↓reduceIte, Nat.reduceEqDiff, Int.reduceToNat]
  refine hK _ _ ?_; clear hK K
  refine OW_as rfl ?_
  refine OW_nil ?_
  try simp only [Ex.thnH, Ex.inBlockH, ↓reduceIte, Nat.reduceEqDiff]
  refine hK3 _ _ ?_; try clear hK3 K3
  refine CW_seq (fun K4 hK4 => ?_)
  refine CW_region ?_
  refine OW_mv rfl ?_
  refine OW_opS (fun K hK r => ?_)
  simp only [x_bin, g_int, g_bool, g_string, g_pointer, g_slice, g_map, g_func, g_nilFunc, g_err, g_ifv, g_iface, g_nil_iface, g_nil_r, g_nil_l, eX, ↓reduceIte, Nat.reduceEqDiff, Int.reduceToNat]
  first | rw [b_err_neq _ _ Try.underlying35] | rw [b_ifv_neq _ _ Try.underlying35] | (rw [e_neq _ _ _ _ (by simp), q_equal]; first | rw [q_iface_nil _ _ _ Try.underlying35] | rw [q_nil_iface _ _ _ Try.underlying35] | rw [q_nil_nil _ _ _ Try.underlying35])
  try simp only [eX, ↓reduceIte, Nat.reduceEqDiff, Int.reduceToNat]
  refine hK _ _ ?_; clear hK K
  refine OW_nil ?_
  try simp only [Ex.thnH, Ex.inBlockH, ↓reduceIte, Nat.reduceEqDiff]
  refine hK4 _ _ ?_; try clear hK4 K4
  refine CW_cond (fun r => rfl) (fun c15 => ?_) (fun c15 => ?_)
  · first
    | (exfalso; exact cnA c15; done)
    | skip
      (try simp only [decide_eq_true_eq, decide_eq_false_iff_not, Bool.not_eq_true, Bool.not_eq_false, Bool.and_eq_true, Bool.or_eq_true, Bool.or_eq_false_iff, Bool.not_eq_true, Bool.not_eq_eq_eq_not, Bool.not_true, Bool.not_false] at c15)
      obtain ⟨b13, rfl⟩ : ∃ b, o13 = some b := Option.isSome_iff_exists.1 (by first | assumption | simp_all)
      have hne : checkP fuel cs ≠ -2 := fun h => by have := ho13.2 h; cases this
      refine CW_seq (fun K5 hK5 => ?_)
      refine CW_region ?_
      refine OW_mv rfl ?_
      refine OW_as rfl ?_
      refine OW_as rfl ?_
      refine OW_nil ?_
      try simp only [Ex.thnH, Ex.inBlockH, ↓reduceIte, Nat.reduceEqDiff]
      refine hK5 _ _ ?_; try clear hK5 K5
      refine CW_ret ?_
      try simp only [Ex.thnH, Ex.inBlockH, ↓reduceIte, Nat.reduceEqDiff]
      obtain ⟨hq1, hq2⟩ := hq13 b13 rfl
      refine ⟨[_, _], ⟨rfl, rfl, trivial⟩, _, Le.refl _, _, some b13, rfl, lhA, ⟨(fun h => by cases h), fun h => absurd h hne⟩, fun b hb => ?_, none, ?_, fun r hr => by cases hr⟩
      · cases hb; exact ⟨none_of_le lhA hq1, hq2⟩
      · have e : encB fuel cs = [] := by unfold encB; rw [if_neg hne]
        rw [e]; exact OwnS.nil _ _ _
  · first
    | (exfalso; exact cnA c15; done)
    | skip
      (try simp only [decide_eq_true_eq, decide_eq_false_iff_not, Bool.not_eq_true, Bool.not_eq_false, Bool.and_eq_true, Bool.or_eq_true, Bool.or_eq_false_iff, Bool.not_eq_true, Bool.not_eq_eq_eq_not, Bool.not_true, Bool.not_false] at c15)
      obtain rfl : o13 = none := by cases o13 with
        | none => rfl
        | some b => simp at c15
      have hck : checkP fuel cs = -2 := ho13.1 rfl
      have hr : 1 ≤ fuel ∧ fuel ≤ 1000 ∧ 1 ≤ cs.length ∧ cs.length ≤ 32 := by
        unfold checkP at hck; split at hck
        · assumption
        · omega
      obtain ⟨f, rfl⟩ : ∃ f : Nat, fuel = f := ⟨fuel.toNat, by omega⟩
      have hcf := cnt_len10 (n := f) (by omega)
      have hcl := cnt_len10 (n := cs.length) (by omega)
      obtain ⟨bv, ov, cv, Tv, Fv, rfl, hbv, hsv, atv⟩ := hv.at (by omega)
      try have n_bv_b1 : bv ≠ b1 := ne_of_none hbv f1_H
      refine CW_skip ?_
      try simp only [Ex.thnH, Ex.inBlockH, ↓reduceIte, Nat.reduceEqDiff]
      refine hK2 _ _ ?_; try clear hK2 K2
      refine CW_seq (fun K6 hK6 => ?_)
      refine CW_region ?_
      refine OW_opS (fun K hK r => ?_)
      simp only [x_build, bp58, List.map_toArray, List.map_cons, List.map_nil, eX, ↓reduceIte, Nat.reduceEqDiff, Int.reduceToNat]
      simp only [fill_nil, orF_some, List.setIfInBounds_toArray, List.set_cons_zero, List.set_cons_succ]
      try simp only [eX, ↓reduceIte, Nat.reduceEqDiff, Int.reduceToNat]
      refine hK _ _ ?_; clear hK K
      refine OW_opS (fun K hK r => ?_)
      simp only [x_box, Value.cells, eX, ↓reduceIte, Nat.reduceEqDiff, Int.reduceToNat]
      intro b18 hb18
      try have n18_b1 : b1 ≠ b18 := ne_of_none hbA hb18
      have f18_H : H b18 = none := none_of_le lhA hb18
      have hw18 : WR _ b18 [] (fun b => b = b18) := WR.fresh (H := H13.upd b18 (.cells #[.slice none 0 0] 58)) rfl (upd_same _ _ _)
      have hs18 : ∀ b, b = b18 → H13 b = none := fun b h => by subst h; exact hb18
      try simp only [eX, ↓reduceIte, Nat.reduceEqDiff, Int.reduceToNat]
      refine hK _ _ ?_; clear hK K
      refine OW_as rfl ?_
      refine OW_nil ?_
      try simp only [Ex.thnH, Ex.inBlockH, ↓reduceIte, Nat.reduceEqDiff]
      refine hK6 _ _ ?_; try clear hK6 K6
      refine CW_seq (fun K7 hK7 => ?_)
      refine CW_region ?_
      refine OW_mv rfl ?_
      refine OW_opS (fun K hK r => ?_)
      simp only [x_fieldAddr, fa24_0, add_mk, Nat.reduceAdd, Nat.zero_add, eX, ↓reduceIte, Nat.reduceEqDiff, Int.reduceToNat]
      refine hK _ _ ?_; clear hK K
      refine OW_opS (fun K hK r => ?_)
      simp only [x_load, eX, ↓reduceIte, Nat.reduceEqDiff, Int.reduceToNat]
      refine Lt_loadAt1 Try.underlying3 rfl hbA ldA ?_
      try simp only [eX, ↓reduceIte, Nat.reduceEqDiff, Int.reduceToNat]
      refine hK _ _ ?_; clear hK K
      refine OW_opS (fun K hK r => ?_)
      simp (disch := (first | omega | decide)) only [x_convert, c_int _ _ _ _ Try.underlying3 Try.underlying60, wrap_i64, wrap_u64, wrap_u32, wrap_u8, eX, ↓reduceIte, Nat.reduceEqDiff, Int.reduceToNat]
      refine hK _ _ ?_; clear hK K
      refine OW_opS (fun K hK r => ?_)
      simp only [x_callF _ bd26, List.map_toArray, List.map_cons, List.map_nil, eX, ↓reduceIte, Nat.reduceEqDiff, Int.reduceToNat]
      refine (wCount_ok _ b18 _ _ hw18 f (by omega) (by simp)).mono ?_
      rintro v23 H23 ⟨S23, hw23, hf23⟩
      have hl23 := hf23.le (le_upd _ _ _ hb18) hs18
      have hs23 := hf23.sep (le_upd _ _ _ hb18) hs18
      have kH23_b1 := hl23 b1 _ hbA
      have lH23_H : Le H H23 := Le.trans lhA hl23
      try simp only [eX, ↓reduceIte, Nat.reduceEqDiff, Int.reduceToNat]
      refine hK _ _ ?_; clear hK K
      refine OW_nil ?_
      try simp only [Ex.thnH, Ex.inBlockH, ↓reduceIte, Nat.reduceEqDiff]
      refine hK7 _ _ ?_; try clear hK7 K7
      refine CW_seq (fun K8 hK8 => ?_)
      refine CW_region ?_
      refine OW_mv rfl ?_
      refine OW_opS (fun K hK r => ?_)
      simp only [x_fieldAddr, fa24_1, add_mk, Nat.reduceAdd, Nat.zero_add, eX, ↓reduceIte, Nat.reduceEqDiff, Int.reduceToNat]
      refine hK _ _ ?_; clear hK K
      refine OW_opS (fun K hK r => ?_)
      simp only [x_load, eX, ↓reduceIte, Nat.reduceEqDiff, Int.reduceToNat]
      refine Lt_loadAt1 Try.underlying22 rfl hbA ldA ?_
      try simp only [eX, ↓reduceIte, Nat.reduceEqDiff, Int.reduceToNat]
      refine hK _ _ ?_; clear hK K
      refine OW_opS (fun K hK r => ?_)
      simp only [x_builtin, l_len, List.map_toArray, List.map_cons, List.map_nil, i_len_slice _ _ Try.underlying22, eX, ↓reduceIte, Nat.reduceEqDiff, Int.reduceToNat]
      refine hK _ _ ?_; clear hK K
      refine OW_opS (fun K hK r => ?_)
      simp (disch := (first | omega | decide)) only [x_convert, c_int _ _ _ _ Try.underlying3 Try.underlying60, wrap_i64, wrap_u64, wrap_u32, wrap_u8, eX, ↓reduceIte, Nat.reduceEqDiff, Int.reduceToNat]
      refine hK _ _ ?_; clear hK K
      refine OW_opS (fun K hK r => ?_)
      simp only [x_callF _ bd26, List.map_toArray, List.map_cons, List.map_nil, eX, ↓reduceIte, Nat.reduceEqDiff, Int.reduceToNat]
      refine (wCount_ok _ b18 _ _ hw23 cs.length (by omega) (by simp only [List.length_append, List.length_nil, List.length_cons] at *; omega)).mono ?_
      rintro v29 H29 ⟨S29, hw29, hf29⟩
      have hl29 := hf29.le hl23 hs23
      have hs29 := hf29.sep hl23 hs23
      have kH29_b1 := hl29 b1 _ hbA
      have lH29_H : Le H H29 := Le.trans lhA hl29
      try simp only [eX, ↓reduceIte, Nat.reduceEqDiff, Int.reduceToNat]
      refine hK _ _ ?_; clear hK K
      refine OW_nil ?_
      try simp only [Ex.thnH, Ex.inBlockH, ↓reduceIte, Nat.reduceEqDiff]
      refine hK8 _ _ ?_; try clear hK8 K8
      refine CW_seq (fun K9 hK9 => ?_)
      refine CW_seq (fun K10 hK10 => ?_)
      refine CW_region ?_
      refine OW_opS (fun K hK r => ?_)
      simp only [x_fieldAddr, fa24_1, add_mk, Nat.reduceAdd, Nat.zero_add, eX, ↓reduceIte, Nat.reduceEqDiff, Int.reduceToNat]
      refine hK _ _ ?_; clear hK K
      refine OW_opS (fun K hK r => ?_)
      simp only [x_load, eX, ↓reduceIte, Nat.reduceEqDiff, Int.reduceToNat]
      refine Lt_loadAt1 Try.underlying22 rfl hbA ldA ?_
      try simp only [eX, ↓reduceIte, Nat.reduceEqDiff, Int.reduceToNat]
      refine hK _ _ ?_; clear hK K
      refine OW_opS (fun K hK r => ?_)
      simp only [x_builtin, l_len, List.map_toArray, List.map_cons, List.map_nil, i_len_slice _ _ Try.underlying22, eX, ↓reduceIte, Nat.reduceEqDiff, Int.reduceToNat]
      refine hK _ _ ?_; clear hK K
      refine OW_mv rfl ?_
      refine OW_nil ?_
      try simp only [Ex.thnH, Ex.inBlockH, ↓reduceIte, Nat.reduceEqDiff]
      refine hK10 _ _ ?_; try clear hK10 K10
      refine CW_block ?_
      refine CW_loop (fun m e H_ => ∃ (k : Nat) (S1 : Nat → Prop), k ≤ cs.length ∧ m = cs.length - k ∧ WR H_ b18 (cnt f ++ cnt cs.length ++ (cs.take k).flatMap encC) S1 ∧ Le H13 H_ ∧ (∀ b, S1 b → H13 b = none) ∧ Env.has [(1, .pointer (some ⟨b1, 0, none⟩)), (5, .pointer (some ⟨b18, 0, none⟩)), (31, .slice (some ⟨bv, ov, none⟩) cs.length kv), (32, .int .i64 cs.length), (33, .int .i64 k)] e) (cs.length) ?_ ?_
      · skip
        exact ⟨0, S29, by omega, by omega, (by simpa using hw29), hl29, hs29, ⟨rfl, rfl, rfl, rfl, rfl, trivial⟩⟩
      intro m_ e_ H_ hI_
      obtain ⟨k, S1, hk, rfl, hw, hle, hs1, he⟩ := hI_
      refine CW_env he.sub ?_; clear he e_
      have hbv_ : H_ bv = _ := hle _ _ (lH13_H _ _ hbv)
      have hb1_ := hle _ _ kH13_b1
      have hlen := fm_len (cs := cs.take k) (fun x hx => hc x (List.mem_of_mem_take hx))
      have htk : (cs.take k).length ≤ 32 := by rw [List.length_take]; omega
      have hln : (cnt f ++ cnt cs.length ++ (cs.take k).flatMap encC).length ≤ 2000 := by simp only [List.length_append]; omega
      have hlH : Le H H_ := Le.trans lH13_H hle
      refine CW_seq (fun K11 hK11 => ?_)
      refine CW_region ?_
      refine OW_opS (fun K hK r => ?_)
      simp (disch := (first | omega | decide)) only [x_bin, g_int, b_lss, dec_lt_t, dec_lt_f, dec_le_t, dec_le_f, dec_eq_t, dec_eq_f, Bool.not_true, Bool.not_false, eX, ↓reduceIte, Nat.reduceEqDiff, Int.reduceToNat]
      refine hK _ _ ?_; clear hK K
      refine OW_nil ?_
      try simp only [Ex.thnH, Ex.inBlockH, ↓reduceIte, Nat.reduceEqDiff]
      refine hK11 _ _ ?_; try clear hK11 K11
      refine CW_seq (fun K12 hK12 => ?_)
      refine CW_cond (fun r => rfl) (fun c34 => ?_) (fun c34 => ?_)
      · first
        | (exfalso; exact cnA c34; done)
        | skip
          (try simp only [decide_eq_true_eq, decide_eq_false_iff_not, Bool.not_eq_true, Bool.not_eq_false, Bool.and_eq_true, Bool.or_eq_true, Bool.or_eq_false_iff, Bool.not_eq_true, Bool.not_eq_eq_eq_not, Bool.not_true, Bool.not_false] at c34)
          refine CW_skip ?_
          try simp only [Ex.thnH, Ex.inBlockH, ↓reduceIte, Nat.reduceEqDiff]
          refine hK12 _ _ ?_; try clear hK12 K12
          refine CW_seq (fun K13 hK13 => ?_)
          refine CW_block ?_
          refine CW_seq (fun K14 hK14 => ?_)
          refine CW_region ?_
          refine OW_opS (fun K hK r => ?_)
          simp only [x_indexAddr, eX, ↓reduceIte, Nat.reduceEqDiff, Int.reduceToNat]
          refine Lt_indexS Try.underlying22 sz47 ixA ixA ?_
          try simp only [add_mk, Nat.mul_one, Nat.zero_add, Int.reduceToNat]
          try simp only [eX, ↓reduceIte, Nat.reduceEqDiff, Int.reduceToNat]
          refine hK _ _ ?_; clear hK K
          refine OW_opS (fun K hK r => ?_)
          simp only [x_load, eX, ↓reduceIte, Nat.reduceEqDiff, Int.reduceToNat]
          refine Lt_loadAtA Try.underlying47 rfl sz47 hbA (by simp only [Int.toNat_natCast]; omega) ?_
          simp only [Int.toNat_natCast]
          rw [ext_at Cd.len atv rfl k (by omega) hsv]
          refine hK _ _ ?_; clear hK K
          refine OW_opS (fun K hK r => ?_)
          simp only [x_alloc, zr47, orF_some, Value.cells, eX, ↓reduceIte, Nat.reduceEqDiff, Int.reduceToNat]
          intro b7 hb7
          try have n7_b1 : b1 ≠ b7 := ne_of_none hbA hb7
          try have n7_b18 : b18 ≠ b7 := ne_of_none hbA hb7
          have f7_H : H b7 = none := none_of_le lhA hb7
          try simp only [eX, ↓reduceIte, Nat.reduceEqDiff, Int.reduceToNat]
          refine hK _ _ ?_; clear hK K
          refine OW_op rfl (lt_none) (fun K hK r => ?_)
          simp only [x_store, eX, ↓reduceIte, Nat.reduceEqDiff, Int.reduceToNat]
          first | refine Lt_storeAll sz47 bdA hbA bdA plA (by decide) ?_ | refine Lt_storeAtA sz47 bdA hbA bdA plA (by decide) ?_
          try simp only [eX, ↓reduceIte, Nat.reduceEqDiff, Int.reduceToNat]
          refine hK _ _ ?_; clear hK K
          refine OW_nil ?_
          try simp only [Ex.thnH, Ex.inBlockH, ↓reduceIte, Nat.reduceEqDiff]
          refine hK14 _ _ ?_; try clear hK14 K14
          refine CW_seq (fun K15 hK15 => ?_)
          refine CW_region ?_
          refine OW_opS (fun K hK r => ?_)
          simp only [x_move, eX, ↓reduceIte, Nat.reduceEqDiff, Int.reduceToNat]
          have hw7 := fun o => hw.new (o := o) hb7
          have hle7 : ∀ o, Le (H13.upd b7 o) (H_.upd b7 o) := fun o => le_both hle b7 o
          have hs7 : ∀ o b, S1 b → (H13.upd b7 o) b = none := fun o b hb => by
            rw [upd_ne _ _ (fun e => hw.known b hb (by rw [e]; exact hb7))]; exact hs1 b hb
          refine hK _ _ ?_; clear hK K
          refine OW_opS (fun K hK r => ?_)
          simp only [x_fieldAddr, fa47_0, add_mk, Nat.reduceAdd, Nat.zero_add, eX, ↓reduceIte, Nat.reduceEqDiff, Int.reduceToNat]
          refine hK _ _ ?_; clear hK K
          refine OW_opS (fun K hK r => ?_)
          simp only [x_load, eX, ↓reduceIte, Nat.reduceEqDiff, Int.reduceToNat]
          refine Lt_loadAt1 Try.underlying3 rfl hbA ldA ?_
          try simp only [eX, ↓reduceIte, Nat.reduceEqDiff, Int.reduceToNat]
          refine hK _ _ ?_; clear hK K
          refine OW_opS (fun K hK r => ?_)
          simp (disch := (first | omega | decide)) only [x_convert, c_int _ _ _ _ Try.underlying3 Try.underlying5, wrap_i64, wrap_u64, wrap_u32, wrap_u8, eX, ↓reduceIte, Nat.reduceEqDiff, Int.reduceToNat]
          refine hK _ _ ?_; clear hK K
          refine OW_opS (fun K hK r => ?_)
          simp only [x_callF _ bd27, List.map_toArray, List.map_cons, List.map_nil, eX, ↓reduceIte, Nat.reduceEqDiff, Int.reduceToNat]
          refine (wByte_ok _ b18 _ _ (hw7 _) _ (by simp only [List.length_append, List.length_nil, List.length_cons] at *; omega)).mono ?_
          rintro v41 H41 ⟨S41, hw41, hf41⟩
          have hl41 := hf41.le (hle7 _) (hs7 _)
          have hs41 := hf41.sep (hle7 _) (hs7 _)
          have kH41_b7 := hl41 b7 _ (upd_same _ _ _)
          have kH41_b1 := hl41 b1 _ hbA
          have lH41_H : Le H H41 := Le.trans lhA hl41
          try simp only [eX, ↓reduceIte, Nat.reduceEqDiff, Int.reduceToNat]
          refine hK _ _ ?_; clear hK K
          refine OW_nil ?_
          try simp only [Ex.thnH, Ex.inBlockH, ↓reduceIte, Nat.reduceEqDiff]
          refine hK15 _ _ ?_; try clear hK15 K15
          refine CW_seq (fun K16 hK16 => ?_)
          refine CW_region ?_
          refine OW_opS (fun K hK r => ?_)
          simp only [x_fieldAddr, fa47_0, add_mk, Nat.reduceAdd, Nat.zero_add, eX, ↓reduceIte, Nat.reduceEqDiff, Int.reduceToNat]
          refine hK _ _ ?_; clear hK K
          refine OW_opS (fun K hK r => ?_)
          simp only [x_load, eX, ↓reduceIte, Nat.reduceEqDiff, Int.reduceToNat]
          refine Lt_loadAt1 Try.underlying3 rfl hbA ldA ?_
          try simp only [eX, ↓reduceIte, Nat.reduceEqDiff, Int.reduceToNat]
          refine hK _ _ ?_; clear hK K
          refine OW_opS (fun K hK r => ?_)
          simp only [x_callF _ bd9, List.map_toArray, List.map_cons, List.map_nil, eX, ↓reduceIte, Nat.reduceEqDiff, Int.reduceToNat]
          refine (shape_ok _ (cs.getD k default).op).mono ?_
          rintro v H' ⟨rfl, rfl⟩
          try simp only [eX, ↓reduceIte, Nat.reduceEqDiff, Int.reduceToNat]
          refine hK _ _ ?_; clear hK K
          refine OW_mv rfl ?_
          refine OW_opS (fun K hK r => ?_)
          simp only [x_extract, i_extract, List.getElem?_toArray, List.getElem?_cons_zero, List.getElem?_cons_succ, orF_some, eX, ↓reduceIte, Nat.reduceEqDiff, Int.reduceToNat]
          refine hK _ _ ?_; clear hK K
          refine OW_opS (fun K hK r => ?_)
          simp only [x_extract, i_extract, List.getElem?_toArray, List.getElem?_cons_zero, List.getElem?_cons_succ, orF_some, eX, ↓reduceIte, Nat.reduceEqDiff, Int.reduceToNat]
          refine hK _ _ ?_; clear hK K
          refine OW_as rfl ?_
          refine OW_as rfl ?_
          refine OW_nil ?_
          try simp only [Ex.thnH, Ex.inBlockH, ↓reduceIte, Nat.reduceEqDiff]
          refine hK16 _ _ ?_; try clear hK16 K16
          refine CW_seq (fun K17 hK17 => ?_)
          refine CW_region ?_
          refine OW_mv rfl ?_
          refine OW_opS (fun K hK r => ?_)
          simp only [x_builtin, l_len, List.map_toArray, List.map_cons, List.map_nil, i_len_string _ Try.underlying9, eX, ↓reduceIte, Nat.reduceEqDiff, Int.reduceToNat]
          try simp only [strOf_size]
          refine hK _ _ ?_; clear hK K
          refine OW_mv rfl ?_
          refine OW_nil ?_
          try simp only [Ex.thnH, Ex.inBlockH, ↓reduceIte, Nat.reduceEqDiff]
          refine hK17 _ _ ?_; try clear hK17 K17
          refine CW_block ?_
          refine CW_loop (fun m e H_ => ∃ (j : Nat) (S2 : Nat → Prop), j ≤ (shp (cs.getD k default).op).length ∧ m = (shp (cs.getD k default).op).length - j ∧ WR H_ b18 (cnt f ++ cnt cs.length ++ (cs.take k).flatMap encC ++ (((cs.getD k default).op % 256) :: ((shp (cs.getD k default).op).take j).flatMap (encF (cs.getD k default)))) S2 ∧ Le (H13.upd b7 (.cells (cs.getD k default).cells.toArray 47)) H_ ∧ (∀ b, S2 b → (H13.upd b7 (.cells (cs.getD k default).cells.toArray 47)) b = none) ∧ Env.has [(1, .pointer (some ⟨b1, 0, none⟩)), (5, .pointer (some ⟨b18, 0, none⟩)), (7, .pointer (some ⟨b7, 0, none⟩)), (8, .string (strOf (shp (cs.getD k default).op))), (31, .slice (some ⟨bv, ov, none⟩) cs.length kv), (32, .int .i64 cs.length), (33, .int .i64 k), (49, .int .i64 (shp (cs.getD k default).op).length), (50, .int .i64 j)] e) ((shp (cs.getD k default).op).length) ?_ ?_
          · skip
            refine ⟨0, S41, by omega, by omega, ?_, hl41, hs41, ⟨rfl, rfl, rfl, rfl, rfl, rfl, rfl, rfl, rfl, trivial⟩⟩
            rw [w_u8] at hw41
            exact hw41
          intro m_ e_ H_ hI_
          obtain ⟨j, S2, hj, rfl, hwj, hlj, hsj, he⟩ := hI_
          refine CW_env he.sub ?_; clear he e_
          have hl5 := shp_len (cs.getD k default).op
          have hb7_ := hlj b7 _ (upd_same _ _ _)
          have hxk : (cs.getD k default).ok := hc _ (cd_mem (by omega))
          have hfl := ff_len hxk ((shp (cs.getD k default).op).take j)
          have htj : ((shp (cs.getD k default).op).take j).length ≤ 5 := by rw [List.length_take]; omega
          have hlnj : (cnt f ++ cnt cs.length ++ (cs.take k).flatMap encC ++ (((cs.getD k default).op % 256) :: ((shp (cs.getD k default).op).take j).flatMap (encF (cs.getD k default)))).length ≤ 2100 := by
            rw [List.length_append, List.length_cons]; omega
          refine CW_seq (fun K18 hK18 => ?_)
          refine CW_region ?_
          refine OW_opS (fun K hK r => ?_)
          simp (disch := (first | omega | decide)) only [x_bin, g_int, b_lss, dec_lt_t, dec_lt_f, dec_le_t, dec_le_f, dec_eq_t, dec_eq_f, Bool.not_true, Bool.not_false, eX, ↓reduceIte, Nat.reduceEqDiff, Int.reduceToNat]
          refine hK _ _ ?_; clear hK K
          refine OW_nil ?_
          try simp only [Ex.thnH, Ex.inBlockH, ↓reduceIte, Nat.reduceEqDiff]
          refine hK18 _ _ ?_; try clear hK18 K18
          refine CW_seq (fun K19 hK19 => ?_)
          refine CW_cond (fun r => rfl) (fun c51 => ?_) (fun c51 => ?_)
          · first
            | (exfalso; exact cnA c51; done)
            | skip
              (try simp only [decide_eq_true_eq, decide_eq_false_iff_not, Bool.not_eq_true, Bool.not_eq_false, Bool.and_eq_true, Bool.or_eq_true, Bool.or_eq_false_iff, Bool.not_eq_true, Bool.not_eq_eq_eq_not, Bool.not_true, Bool.not_false] at c51)
              refine CW_skip ?_
              try simp only [Ex.thnH, Ex.inBlockH, ↓reduceIte, Nat.reduceEqDiff]
              refine hK19 _ _ ?_; try clear hK19 K19
              refine CW_seq (fun K20 hK20 => ?_)
              refine CW_block ?_
              refine CW_seq (fun K21 hK21 => ?_)
              refine CW_region ?_
              refine OW_mv rfl ?_
              refine OW_as rfl ?_
              refine OW_nil ?_
              try simp only [Ex.thnH, Ex.inBlockH, ↓reduceIte, Nat.reduceEqDiff]
              refine hK21 _ _ ?_; try clear hK21 K21
              refine CW_seq (fun K22 hK22 => ?_)
              refine CW_region ?_
              refine OW_mv rfl ?_
              refine OW_mv rfl ?_
              refine OW_opS (fun K hK r => ?_)
              simp only [x_index, eX, ↓reduceIte, Nat.reduceEqDiff, Int.reduceToNat]
              refine Lt_letter Try.underlying9 (shp_bytes _) (by omega) ?_
              refine hK _ _ ?_; clear hK K
              refine OW_opS (fun K hK r => ?_)
              simp only [x_callF _ bd28, List.map_toArray, List.map_cons, List.map_nil, eX, ↓reduceIte, Nat.reduceEqDiff, Int.reduceToNat]
              refine (field_ok _ b7 (cs.getD k default) ((shp (cs.getD k default).op).getD j 0) hbA).mono ?_
              rintro v H' ⟨rfl, rfl⟩
              try simp only [eX, ↓reduceIte, Nat.reduceEqDiff, Int.reduceToNat]
              refine hK _ _ ?_; clear hK K
              refine OW_opS (fun K hK r => ?_)
              rw [x_nilCheck _ _ rfl]
              simp only [eX, ↓reduceIte, Nat.reduceEqDiff, Int.reduceToNat]
              refine hK _ _ ?_; clear hK K
              refine OW_opS (fun K hK r => ?_)
              simp only [x_load, eX, ↓reduceIte, Nat.reduceEqDiff, Int.reduceToNat]
              refine Lt_loadAt1 Try.underlying3 rfl hbA (v := .int .i64 ((cs.getD k default).fld ((shp (cs.getD k default).op).getD j 0))) (by rw [List.getElem?_toArray]; exact foff_get _ _) ?_
              refine hK _ _ ?_; clear hK K
              refine OW_as rfl ?_
              refine OW_nil ?_
              try simp only [Ex.thnH, Ex.inBlockH, ↓reduceIte, Nat.reduceEqDiff]
              refine hK22 _ _ ?_; try clear hK22 K22
              refine CW_seq (fun K23 hK23 => ?_)
              refine CW_region ?_
              refine OW_mv rfl ?_
              refine OW_mv rfl ?_
              refine OW_opS (fun K hK r => ?_)
              simp only [x_index, eX, ↓reduceIte, Nat.reduceEqDiff, Int.reduceToNat]
              refine Lt_letter Try.underlying9 (shp_bytes _) (by omega) ?_
              refine hK _ _ ?_; clear hK K
              refine OW_opS (fun K hK r => ?_)
              simp (disch := (first | omega | decide)) only [x_bin, g_int, b_eql, dec_lt_t, dec_lt_f, dec_le_t, dec_le_f, dec_eq_t, dec_eq_f, Bool.not_true, Bool.not_false, eX, ↓reduceIte, Nat.reduceEqDiff, Int.reduceToNat]
              refine hK _ _ ?_; clear hK K
              refine OW_nil ?_
              try simp only [Ex.thnH, Ex.inBlockH, ↓reduceIte, Nat.reduceEqDiff]
              refine hK23 _ _ ?_; try clear hK23 K23
              refine CW_cond (fun r => rfl) (fun c62 => ?_) (fun c62 => ?_)
              · first
                | (exfalso; exact cnA c62; done)
                | skip
                  (try simp only [decide_eq_true_eq, decide_eq_false_iff_not, Bool.not_eq_true, Bool.not_eq_false, Bool.and_eq_true, Bool.or_eq_true, Bool.or_eq_false_iff, Bool.not_eq_true, Bool.not_eq_eq_eq_not, Bool.not_true, Bool.not_false] at c62)
                  have e110 : (shp (cs.getD k default).op).getD j 0 = 110 := by first | assumption | simp_all
                  have efld : (cs.getD k default).fld ((shp (cs.getD k default).op).getD j 0) = (cs.getD k default).n := by rw [e110]; rfl
                  try simp only [efld]
                  refine CW_region ?_
                  refine OW_mv rfl ?_
                  refine OW_mv rfl ?_
                  refine OW_opS (fun K hK r => ?_)
                  simp only [x_callF _ bd29, List.map_toArray, List.map_cons, List.map_nil, eX, ↓reduceIte, Nat.reduceEqDiff, Int.reduceToNat]
                  refine (wNum_ok _ b18 _ _ hwj (cs.getD k default).n hxk.n1 hxk.n2 (by simp only [List.length_append, List.length_nil, List.length_cons] at *; omega)).mono ?_
                  rintro v65 H65 ⟨S65, hw65, hf65⟩
                  have hl65 := hf65.le hlj hsj
                  have hs65 := hf65.sep hlj hsj
                  have kH65_b7 := hl65 b7 _ (upd_same _ _ _)
                  have kH65_b1 := hl65 b1 _ hbA
                  have lH65_H : Le H H65 := Le.trans lhA hl65
                  try simp only [eX, ↓reduceIte, Nat.reduceEqDiff, Int.reduceToNat]
                  refine hK _ _ ?_; clear hK K
                  refine OW_nil ?_
                  try simp only [Ex.thnH, Ex.inBlockH, ↓reduceIte, Nat.reduceEqDiff]
                  refine hK20 _ _ ?_; try clear hK20 K20
                  refine CW_region ?_
                  refine OW_opS (fun K hK r => ?_)
                  simp (disch := (first | omega | decide)) only [x_bin, g_int, b_add, wrap_i64, wrap_u64, wrap_u32, wrap_u8, eX, ↓reduceIte, Nat.reduceEqDiff, Int.reduceToNat]
                  refine hK _ _ ?_; clear hK K
                  refine OW_mv rfl ?_
                  refine OW_nil ?_
                  try simp only [Ex.thnH, Ex.inBlockH, ↓reduceIte, Nat.reduceEqDiff]
                  first
                  | exact ⟨(shp (cs.getD k default).op).length - (j + 1), by omega, j + 1, S65, by omega, rfl, (by rw [encF_step _ (by omega), encF_n (by assumption)]; have h := hw65; rw [List.append_assoc, List.cons_append] at h; exact h), hl65, hs65, ⟨rfl, rfl, rfl, rfl, rfl, rfl, rfl, rfl, rfl, trivial⟩⟩
                  | exact ⟨(shp (cs.getD k default).op).length - (j + 1), by omega, j + 1, S69, by omega, rfl, (by rw [encF_step _ (by omega), encF_o (by assumption)]; have h := hw69; rw [List.append_assoc, List.cons_append] at h; exact h), hl69, hs69, ⟨rfl, rfl, rfl, rfl, rfl, rfl, rfl, rfl, rfl, trivial⟩⟩
              · first
                | (exfalso; exact cnA c62; done)
                | skip
                  (try simp only [decide_eq_true_eq, decide_eq_false_iff_not, Bool.not_eq_true, Bool.not_eq_false, Bool.and_eq_true, Bool.or_eq_true, Bool.or_eq_false_iff, Bool.not_eq_true, Bool.not_eq_eq_eq_not, Bool.not_true, Bool.not_false] at c62)
                  refine CW_region ?_
                  refine OW_mv rfl ?_
                  refine OW_mv rfl ?_
                  refine OW_opS (fun K hK r => ?_)
                  simp (disch := (first | omega | decide)) only [x_convert, c_int _ _ _ _ Try.underlying3 Try.underlying60, wrap_i64, wrap_u64, wrap_u32, wrap_u8, eX, ↓reduceIte, Nat.reduceEqDiff, Int.reduceToNat]
                  try rw [show IntKind.u64.wrap ((cs.getD k default).fld ((shp (cs.getD k default).op).getD j 0)) = (((IntKind.u64.wrap ((cs.getD k default).fld ((shp (cs.getD k default).op).getD j 0))).toNat : Nat) : Int) from (Int.toNat_of_nonneg (u64_nonneg _)).symm]
                  refine hK _ _ ?_; clear hK K
                  refine OW_opS (fun K hK r => ?_)
                  simp only [x_callF _ bd26, List.map_toArray, List.map_cons, List.map_nil, eX, ↓reduceIte, Nat.reduceEqDiff, Int.reduceToNat]
                  refine (wCount_ok _ b18 _ _ hwj (IntKind.u64.wrap ((cs.getD k default).fld ((shp (cs.getD k default).op).getD j 0))).toNat (by have := u64_lt ((cs.getD k default).fld ((shp (cs.getD k default).op).getD j 0)); omega) (by simp only [List.length_append, List.length_nil, List.length_cons] at *; omega)).mono ?_
                  rintro v69 H69 ⟨S69, hw69, hf69⟩
                  have hl69 := hf69.le hlj hsj
                  have hs69 := hf69.sep hlj hsj
                  have kH69_b7 := hl69 b7 _ (upd_same _ _ _)
                  have kH69_b1 := hl69 b1 _ hbA
                  have lH69_H : Le H H69 := Le.trans lhA hl69
                  try simp only [eX, ↓reduceIte, Nat.reduceEqDiff, Int.reduceToNat]
                  refine hK _ _ ?_; clear hK K
                  refine OW_nil ?_
                  try simp only [Ex.thnH, Ex.inBlockH, ↓reduceIte, Nat.reduceEqDiff]
                  refine hK20 _ _ ?_; try clear hK20 K20
                  refine CW_region ?_
                  refine OW_opS (fun K hK r => ?_)
                  simp (disch := (first | omega | decide)) only [x_bin, g_int, b_add, wrap_i64, wrap_u64, wrap_u32, wrap_u8, eX, ↓reduceIte, Nat.reduceEqDiff, Int.reduceToNat]
                  refine hK _ _ ?_; clear hK K
                  refine OW_mv rfl ?_
                  refine OW_nil ?_
                  try simp only [Ex.thnH, Ex.inBlockH, ↓reduceIte, Nat.reduceEqDiff]
                  first
                  | exact ⟨(shp (cs.getD k default).op).length - (j + 1), by omega, j + 1, S65, by omega, rfl, (by rw [encF_step _ (by omega), encF_n (by assumption)]; have h := hw65; rw [List.append_assoc, List.cons_append] at h; exact h), hl65, hs65, ⟨rfl, rfl, rfl, rfl, rfl, rfl, rfl, rfl, rfl, trivial⟩⟩
                  | exact ⟨(shp (cs.getD k default).op).length - (j + 1), by omega, j + 1, S69, by omega, rfl, (by rw [encF_step _ (by omega), encF_o (by assumption)]; have h := hw69; rw [List.append_assoc, List.cons_append] at h; exact h), hl69, hs69, ⟨rfl, rfl, rfl, rfl, rfl, rfl, rfl, rfl, rfl, trivial⟩⟩
          · first
            | (exfalso; exact cnA c51; done)
            | skip
              (try simp only [decide_eq_true_eq, decide_eq_false_iff_not, Bool.not_eq_true, Bool.not_eq_false, Bool.and_eq_true, Bool.or_eq_true, Bool.or_eq_false_iff, Bool.not_eq_true, Bool.not_eq_eq_eq_not, Bool.not_true, Bool.not_false] at c51)
              refine CW_exit ?_
              try simp only [Ex.thnH, Ex.inBlockH, ↓reduceIte, Nat.reduceEqDiff]
              refine hK13 _ _ ?_; try clear hK13 K13
              refine CW_region ?_
              refine OW_opS (fun K hK r => ?_)
              simp (disch := (first | omega | decide)) only [x_bin, g_int, b_add, wrap_i64, wrap_u64, wrap_u32, wrap_u8, eX, ↓reduceIte, Nat.reduceEqDiff, Int.reduceToNat]
              refine hK _ _ ?_; clear hK K
              refine OW_mv rfl ?_
              refine OW_nil ?_
              try simp only [Ex.thnH, Ex.inBlockH, ↓reduceIte, Nat.reduceEqDiff]
              have hj : j = (shp (cs.getD k default).op).length := by omega
              subst hj
              refine ⟨cs.length - (k + 1), by omega, k + 1, S2, by omega, rfl, ?_, Le.trans (le_upd _ _ _ (none_of_le hle hb7)) hlj, (fun b hb => none_of_le (le_upd _ _ _ (none_of_le hle hb7)) (hsj b hb)), ⟨rfl, rfl, rfl, rfl, rfl, trivial⟩⟩
              rw [List.take_length] at hwj
              rw [encCs_step (by omega), ← List.append_assoc]; exact hwj
      · first
        | (exfalso; exact cnA c34; done)
        | skip
          (try simp only [decide_eq_true_eq, decide_eq_false_iff_not, Bool.not_eq_true, Bool.not_eq_false, Bool.and_eq_true, Bool.or_eq_true, Bool.or_eq_false_iff, Bool.not_eq_true, Bool.not_eq_eq_eq_not, Bool.not_true, Bool.not_false] at c34)
          refine CW_exit ?_
          try simp only [Ex.thnH, Ex.inBlockH, ↓reduceIte, Nat.reduceEqDiff]
          refine hK9 _ _ ?_; try clear hK9 K9
          refine CW_seq (fun K24 hK24 => ?_)
          refine CW_region ?_
          refine OW_mv rfl ?_
          refine OW_opS (fun K hK r => ?_)
          simp only [x_callF _ bd30, List.map_toArray, List.map_cons, List.map_nil, eX, ↓reduceIte, Nat.reduceEqDiff, Int.reduceToNat]
          refine (out_ok _ b18 _ _ hw (by omega)).mono ?_
          rintro v73 H73 ⟨hl73, rs73, ho73, hr73⟩
          try simp only [eX, ↓reduceIte, Nat.reduceEqDiff, Int.reduceToNat]
          refine hK _ _ ?_; clear hK K
          refine OW_as rfl ?_
          refine OW_as rfl ?_
          refine OW_nil ?_
          try simp only [Ex.thnH, Ex.inBlockH, ↓reduceIte, Nat.reduceEqDiff]
          refine hK24 _ _ ?_; try clear hK24 K24
          refine CW_ret ?_
          try simp only [Ex.thnH, Ex.inBlockH, ↓reduceIte, Nat.reduceEqDiff]
          have ek : k = cs.length := by omega
          subst ek
          refine ⟨[_, _], ⟨rfl, rfl, trivial⟩, _, Le.refl _, _, none, rfl, (by exact Le.trans hlH hl73), ⟨fun _ => hck, fun _ => rfl⟩, (fun b hb => by cases hb), rs73, ?_, fun r hr => none_of_le hlH (hr73 r hr)⟩
          have e : encB f cs = cnt f ++ cnt cs.length ++ (cs.take cs.length).flatMap encC := by
            unfold encB encP; rw [if_pos hck, List.take_length]
            rw [show (IntKind.u64.wrap (f : Int)).toNat = f from by rw [wrap_u64 _ (by omega) (by omega)]; omega]
          rw [e]; exact ho73

end Go.Proofs.Ytlkopcgoaldpeaa.HL
end
section
namespace Go.Proofs.Ytlkopcgoaldpeaa.HL
open Go Go.Proofs
set_option linter.unusedSimpArgs false
set_option linter.unusedVariables false
attribute [local irreducible] Lt Lq CW OW TW CallH


theorem Holds.upd_no {H : Hp} {v : Value} {n : Nat} {k : IntKind} {l : List Int} (h : Holds H 1 v n (l.map (Value.int k ·))) {b : Nat} {c : Array Value} {T : TypeId} {f : Nat × Nat} (hb : H b = some (.cells c T f)) (hc : ∀ (i : Nat) (x : Int), c[i]? ≠ some (.int k x)) (o : Obj) : Holds (H.upd b o) 1 v n (l.map (Value.int k ·)) := by
  obtain ⟨h1, h2 | ⟨r, o', cap, c', E, f', rfl, h3, h4, h5⟩⟩ := h
  · exact ⟨h1, .inl h2⟩
  · by_cases hn : n = 0
    · subst hn; exact ⟨h1, .inl ⟨_, _, rfl, rfl⟩⟩
    · refine ⟨h1, .inr ⟨r, o', cap, c', E, f', rfl, ?_, h4, h5⟩⟩
      rw [upd_ne]
      · exact h3
      · intro e; subst e
        rw [hb] at h3; cases h3
        have h6 := congrArg (fun z => z[0]?) h5
        simp only [Array.toList_extract, List.extract_eq_take_drop] at h6
        rw [List.getElem?_take_of_lt (by omega), List.getElem?_drop, List.getElem?_map] at h6
        cases hl : l[0]? with
        | none => rw [List.getElem?_eq_none_iff] at hl; simp at h1; omega
        | some z => rw [hl] at h6; simp only [Option.map_some, Nat.add_zero, Array.getElem?_toList] at h6; exact hc _ _ h6
theorem addr_block (A : Addr) (n : Nat) : (A.add n).block = A.block := by
  unfold Addr.add; first | rfl | (split <;> rfl) | (cases A; split <;> rfl)
/-- A reader at p: its slice, what it has not read, whether it is bad. -/
def RD (H : Hp) (p : Nat) (a : Option Addr) (cap : Nat) (l : List Int) (bad : Bool) : Prop := H p = some (.cells #[.slice a l.length cap, .bool bad] 93) ∧ l.length ≤ cap ∧ Holds H 1 (.slice a l.length cap) l.length (u8s l) ∧ (bad = true → l = [])
abbrev rst (H : Hp) (p : Nat) (a : Option Addr) (n cap : Nat) (bad : Bool) : Hp := H.upd p (.cells #[.slice a n cap, .bool bad] 93)
theorem two_no {x y : Value} (hx : ∀ k z, x ≠ .int k z) (hy : ∀ k z, y ≠ .int k z) {k : IntKind} : ∀ (i : Nat) (z : Int), (#[x, y] : Array Value)[i]? ≠ some (.int k z)
  | 0, z => by simpa using hx k z
  | 1, z => by simpa using hy k z
  | i + 2, z => by simp
theorem Holds.rst {H : Hp} {v : Value} {n : Nat} {l : List Int} {p : Nat} {a : Option Addr} {m cap : Nat} {bad : Bool} (h : Holds H 1 v n (u8s l)) (hp : H p = some (.cells #[.slice a m cap, .bool bad] 93)) (o : Obj) : Holds (H.upd p o) 1 v n (u8s l) :=
  Holds.upd_no h hp (two_no (by simp) (by simp)) o
theorem RD.bad (H : Hp) (p : Nat) : RD (rst H p none 0 0 true) p none 0 [] true := ⟨upd_same _ _ _, Nat.le_refl _, ⟨rfl, .inl ⟨_, _, rfl, rfl⟩⟩, fun _ => rfl⟩
theorem RD.nil {H : Hp} {p : Nat} {a : Option Addr} {cap : Nat} {l : List Int} (h : RD H p a cap l true) : l = [] := h.2.2.2 rfl

set_option maxRecDepth 100000 in
set_option maxHeartbeats 1000000 in
theorem fail_ok (H : Hp) (p : Nat) (x : Value) (b : Bool) (hp : H p = some (.cells #[x, .bool b] 93)) : CallH Try.prog 61 #[.pointer (some ⟨p, 0, none⟩)] H (fun _ H' => H' = rst H p none 0 0 true) := by
  refine CallH_enter (l := [_]) (rl := []) (n := 10) Try.func61 rfl rfl rfl rfl rfl ?_
  simp only [envOf, Nat.reduceAdd]
  refine CW_seq (fun K1 hK1 => ?_)
  refine CW_region ?_
  refine OW_mv rfl ?_
  refine OW_opS (fun K hK r => ?_)
  simp only [x_bin, g_int, g_bool, g_string, g_pointer, g_slice, g_map, g_func, g_nilFunc, g_iface, g_nil_iface, g_nil_r, g_nil_l, eX, ↓reduceIte, Nat.reduceEqDiff, Int.reduceToNat]
  rw [e_neq _ _ _ _ (by simp)]
  rw [q_equal]
  first | rw [q_ptr_nil _ _ _ Try.underlying72] | rw [q_nil_ptr _ _ _ Try.underlying72]
  try simp only [eX, ↓reduceIte, Nat.reduceEqDiff, Int.reduceToNat]
  refine hK _ _ ?_; clear hK K
  refine OW_nil ?_
  try simp only [Ex.thnH, Ex.inBlockH, ↓reduceIte, Nat.reduceEqDiff]
  refine hK1 _ _ ?_; try clear hK1 K1
  refine CW_cond (fun r => rfl) (fun c3 => ?_) (fun c3 => ?_)
  · first
    | (exfalso; exact cnA c3; done)
    | skip
      (try simp only [decide_eq_true_eq, decide_eq_false_iff_not, Bool.not_eq_true, Bool.not_eq_false, Bool.and_eq_true, Bool.or_eq_true, Bool.or_eq_false_iff, Bool.not_eq_true, Bool.not_eq_eq_eq_not, Bool.not_true, Bool.not_false] at c3)
      refine CW_region ?_
      refine OW_mv rfl ?_
      refine OW_mv rfl ?_
      refine OW_opS (fun K hK r => ?_)
      rw [x_nilCheck _ _ rfl]
      simp only [eX, ↓reduceIte, Nat.reduceEqDiff, Int.reduceToNat]
      refine hK _ _ ?_; clear hK K
      refine OW_opS (fun K hK r => ?_)
      simp only [x_fieldAddr, fa93_0, add_mk, Nat.reduceAdd, Nat.zero_add, eX, ↓reduceIte, Nat.reduceEqDiff, Int.reduceToNat]
      refine hK _ _ ?_; clear hK K
      refine OW_op rfl (lt_none) (fun K hK r => ?_)
      simp only [x_store, eX, ↓reduceIte, Nat.reduceEqDiff, Int.reduceToNat]
      refine Lt_storeAt1 sz33 hbA bdA plA fzA ?_
      try simp only [setL0, setL1, setL2, setL3, setL4, setL5, setL6, setL7, setL8, setL9]
      try simp only [eX, ↓reduceIte, Nat.reduceEqDiff, Int.reduceToNat]
      refine hK _ _ ?_; clear hK K
      refine OW_opS (fun K hK r => ?_)
      rw [x_nilCheck _ _ rfl]
      simp only [eX, ↓reduceIte, Nat.reduceEqDiff, Int.reduceToNat]
      refine hK _ _ ?_; clear hK K
      refine OW_opS (fun K hK r => ?_)
      simp only [x_fieldAddr, fa93_1, add_mk, Nat.reduceAdd, Nat.zero_add, eX, ↓reduceIte, Nat.reduceEqDiff, Int.reduceToNat]
      refine hK _ _ ?_; clear hK K
      refine OW_op rfl (lt_none) (fun K hK r => ?_)
      simp only [x_store, eX, ↓reduceIte, Nat.reduceEqDiff, Int.reduceToNat]
      refine Lt_storeAt1 sz4 hbA bdA plA fzA ?_
      try simp only [setL0, setL1, setL2, setL3, setL4, setL5, setL6, setL7, setL8, setL9]
      try simp only [eX, ↓reduceIte, Nat.reduceEqDiff, Int.reduceToNat]
      refine hK _ _ ?_; clear hK K
      refine OW_nil ?_
      try simp only [Ex.thnH, Ex.inBlockH, ↓reduceIte, Nat.reduceEqDiff]
      exact ⟨[], trivial, _, Le.refl _, rfl⟩
  · first
    | (exfalso; exact cnA c3; done)
    | skip
      (try simp only [decide_eq_true_eq, decide_eq_false_iff_not, Bool.not_eq_true, Bool.not_eq_false, Bool.and_eq_true, Bool.or_eq_true, Bool.or_eq_false_iff, Bool.not_eq_true, Bool.not_eq_eq_eq_not, Bool.not_true, Bool.not_false] at c3)
      refine CW_skip ?_
      try simp only [Ex.thnH, Ex.inBlockH, ↓reduceIte, Nat.reduceEqDiff]
      exact ⟨[], trivial, _, Le.refl _, rfl⟩

set_option maxRecDepth 100000 in
set_option maxHeartbeats 1000000 in
theorem take_bad (H : Hp) (p : Nat) (a : Option Addr) (cap : Nat) (l : List Int) (hr : RD H p a cap l true) (n : Nat) : CallH Try.prog 60 #[.pointer (some ⟨p, 0, none⟩), .int .u64 n] H (fun v H' => v = .tuple #[.slice none 0 0, .bool false] ∧ H' = H) := by
  refine CallH_enter (l := [_, _]) (rl := [.tmp 4, .tmp 5]) (n := 42) Try.func60 rfl rfl rfl rfl rfl ?_
  simp only [envOf, Nat.reduceAdd]
  obtain ⟨hp, hcap, hh, hbad⟩ := hr
  refine CW_seq (fun K1 hK1 => ?_)
  refine CW_region ?_
  refine OW_as rfl ?_
  refine OW_as rfl ?_
  refine OW_nil ?_
  try simp only [Ex.thnH, Ex.inBlockH, ↓reduceIte, Nat.reduceEqDiff]
  refine hK1 _ _ ?_; try clear hK1 K1
  refine CW_seq (fun K2 hK2 => ?_)
  refine CW_seq (fun K3 hK3 => ?_)
  refine CW_region ?_
  refine OW_mv rfl ?_
  refine OW_opS (fun K hK r => ?_)
  simp only [x_bin, g_int, g_bool, g_string, g_pointer, g_slice, g_map, g_func, g_nilFunc, g_iface, g_nil_iface, g_nil_r, g_nil_l, eX, ↓reduceIte, Nat.reduceEqDiff, Int.reduceToNat]
  rw [e_eql _ _ _ _ (by simp)]
  rw [q_equal]
  first | rw [q_ptr_nil _ _ _ Try.underlying72] | rw [q_nil_ptr _ _ _ Try.underlying72]
  try simp only [eX, ↓reduceIte, Nat.reduceEqDiff, Int.reduceToNat]
  refine hK _ _ ?_; clear hK K
  refine OW_mv rfl ?_
  (first | refine OW_split (d := 9) rfl (fun g9 => ?_) (fun g9 => ?_) | skip)
  all_goals try (exfalso; exact cnA g9)
  all_goals (try simp only [decide_eq_true_eq, decide_eq_false_iff_not, Bool.not_eq_true, Bool.not_eq_false, Bool.and_eq_true, Bool.or_eq_true, Bool.or_eq_false_iff, Bool.not_eq_true, Bool.not_eq_eq_eq_not, Bool.not_true, Bool.not_false] at g9)
  all_goals
    try simp only [eX, ↓reduceIte, Nat.reduceEqDiff, Int.reduceToNat]
    first
    | refine OW_guardT rfl (lt_some (by decide)) rfl (fun K hK r => ?_)
      simp only [x_move, eX, ↓reduceIte, Nat.reduceEqDiff, Int.reduceToNat]
      refine hK _ _ ?_; clear hK K
    | refine OW_guardF rfl (lt_some (by decide)) rfl ?_
      simp only [eX, ↓reduceIte, Nat.reduceEqDiff, Int.reduceToNat]
    first
    | refine OW_guardT rfl (lt_some (by decide)) rfl (fun K hK r => ?_)
      rw [x_nilCheck _ _ rfl]
      simp only [eX, ↓reduceIte, Nat.reduceEqDiff, Int.reduceToNat]
      refine hK _ _ ?_; clear hK K
    | refine OW_guardF rfl (lt_some (by decide)) rfl ?_
      simp only [eX, ↓reduceIte, Nat.reduceEqDiff, Int.reduceToNat]
    first
    | refine OW_guardT rfl (lt_some (by decide)) rfl (fun K hK r => ?_)
      simp only [x_fieldAddr, fa93_1, add_mk, Nat.reduceAdd, Nat.zero_add, eX, ↓reduceIte, Nat.reduceEqDiff, Int.reduceToNat]
      refine hK _ _ ?_; clear hK K
    | refine OW_guardF rfl (lt_some (by decide)) rfl ?_
      simp only [eX, ↓reduceIte, Nat.reduceEqDiff, Int.reduceToNat]
    first
    | refine OW_guardT rfl (lt_some (by decide)) rfl (fun K hK r => ?_)
      simp only [x_load, eX, ↓reduceIte, Nat.reduceEqDiff, Int.reduceToNat]
      refine Lt_loadAt1 Try.underlying4 rfl hbA ldA ?_
      try simp only [eX, ↓reduceIte, Nat.reduceEqDiff, Int.reduceToNat]
      refine hK _ _ ?_; clear hK K
    | refine OW_guardF rfl (lt_some (by decide)) rfl ?_
      simp only [eX, ↓reduceIte, Nat.reduceEqDiff, Int.reduceToNat]
    refine OW_opS (fun K hK r => ?_)
    simp only [x_pick, l_asBool, HL.ite_bool, if_true, if_false, Bool.false_eq_true, eX, ↓reduceIte, Nat.reduceEqDiff, Int.reduceToNat]
    refine hK _ _ ?_; clear hK K
    refine OW_nil ?_
    try simp only [Ex.thnH, Ex.inBlockH, ↓reduceIte, Nat.reduceEqDiff]
    refine hK3 _ _ ?_; try clear hK3 K3
    refine CW_cond (fun r => rfl) (fun c14 => ?_) (fun c14 => ?_)
    · first
      | (exfalso; exact cnA c14; done)
      | skip
        (try simp only [decide_eq_true_eq, decide_eq_false_iff_not, Bool.not_eq_true, Bool.not_eq_false, Bool.and_eq_true, Bool.or_eq_true, Bool.or_eq_false_iff, Bool.not_eq_true, Bool.not_eq_eq_eq_not, Bool.not_true, Bool.not_false] at c14)
        refine CW_seq (fun K4 hK4 => ?_)
        refine CW_region ?_
        refine OW_as rfl ?_
        refine OW_as rfl ?_
        refine OW_nil ?_
        try simp only [Ex.thnH, Ex.inBlockH, ↓reduceIte, Nat.reduceEqDiff]
        refine hK4 _ _ ?_; try clear hK4 K4
        refine CW_ret ?_
        try simp only [Ex.thnH, Ex.inBlockH, ↓reduceIte, Nat.reduceEqDiff]
        exact ⟨[_, _], ⟨rfl, rfl, trivial⟩, _, Le.refl _, rfl, rfl⟩
    · first
      | (exfalso; exact cnA c14; done)
      | skip
        (try simp only [decide_eq_true_eq, decide_eq_false_iff_not, Bool.not_eq_true, Bool.not_eq_false, Bool.and_eq_true, Bool.or_eq_true, Bool.or_eq_false_iff, Bool.not_eq_true, Bool.not_eq_eq_eq_not, Bool.not_true, Bool.not_false] at c14)
        refine CW_skip ?_
        try simp only [Ex.thnH, Ex.inBlockH, ↓reduceIte, Nat.reduceEqDiff]
        refine hK2 _ _ ?_; try clear hK2 K2
        refine CW_seq (fun K5 hK5 => ?_)
        refine CW_seq (fun K6 hK6 => ?_)
        refine CW_region ?_
        refine OW_mv rfl ?_
        refine OW_mv rfl ?_
        refine OW_opS (fun K hK r => ?_)
        rw [x_nilCheck _ _ rfl]
        simp only [eX, ↓reduceIte, Nat.reduceEqDiff, Int.reduceToNat]
        refine hK _ _ ?_; clear hK K
        refine OW_opS (fun K hK r => ?_)
        simp only [x_fieldAddr, fa93_0, add_mk, Nat.reduceAdd, Nat.zero_add, eX, ↓reduceIte, Nat.reduceEqDiff, Int.reduceToNat]
        refine hK _ _ ?_; clear hK K
        refine OW_opS (fun K hK r => ?_)
        simp only [x_load, eX, ↓reduceIte, Nat.reduceEqDiff, Int.reduceToNat]
        refine Lt_loadAt1 Try.underlying33 rfl hbA ldA ?_
        try simp only [eX, ↓reduceIte, Nat.reduceEqDiff, Int.reduceToNat]
        refine hK _ _ ?_; clear hK K
        refine OW_opS (fun K hK r => ?_)
        simp only [x_builtin, l_len, List.map_toArray, List.map_cons, List.map_nil, i_len_slice _ _ Try.underlying33, eX, ↓reduceIte, Nat.reduceEqDiff, Int.reduceToNat]
        refine hK _ _ ?_; clear hK K
        refine OW_opS (fun K hK r => ?_)
        simp (disch := (first | omega | decide)) only [x_convert, c_int _ _ _ _ Try.underlying3 Try.underlying60, wrap_i64, wrap_u64, wrap_u32, wrap_u8, eX, ↓reduceIte, Nat.reduceEqDiff, Int.reduceToNat]
        refine hK _ _ ?_; clear hK K
        refine OW_opS (fun K hK r => ?_)
        simp (disch := (first | omega | decide)) only [x_bin, g_int, b_gtr, dec_lt_t, dec_lt_f, dec_le_t, dec_le_f, dec_eq_t, dec_eq_f, Bool.not_true, Bool.not_false, eX, ↓reduceIte, Nat.reduceEqDiff, Int.reduceToNat]
        refine hK _ _ ?_; clear hK K
        refine OW_nil ?_
        try simp only [Ex.thnH, Ex.inBlockH, ↓reduceIte, Nat.reduceEqDiff]
        refine hK6 _ _ ?_; try clear hK6 K6
        refine CW_cond (fun r => rfl) (fun c22 => ?_) (fun c22 => ?_)
        · first
          | (exfalso; exact cnA c22; done)
          | skip
            (try simp only [decide_eq_true_eq, decide_eq_false_iff_not, Bool.not_eq_true, Bool.not_eq_false, Bool.and_eq_true, Bool.or_eq_true, Bool.or_eq_false_iff, Bool.not_eq_true, Bool.not_eq_eq_eq_not, Bool.not_true, Bool.not_false] at c22)
            refine CW_seq (fun K7 hK7 => ?_)
            refine CW_region ?_
            refine OW_mv rfl ?_
            refine OW_opS (fun K hK r => ?_)
            simp only [x_callF _ bd61, List.map_toArray, List.map_cons, List.map_nil, eX, ↓reduceIte, Nat.reduceEqDiff, Int.reduceToNat]
            refine (fail_ok _ p _ _ hp).mono ?_
            rintro v24 H24 rfl
            try simp only [eX, ↓reduceIte, Nat.reduceEqDiff, Int.reduceToNat]
            refine hK _ _ ?_; clear hK K
            refine OW_nil ?_
            try simp only [Ex.thnH, Ex.inBlockH, ↓reduceIte, Nat.reduceEqDiff]
            refine hK7 _ _ ?_; try clear hK7 K7
            refine CW_seq (fun K8 hK8 => ?_)
            refine CW_region ?_
            refine OW_as rfl ?_
            refine OW_as rfl ?_
            refine OW_nil ?_
            try simp only [Ex.thnH, Ex.inBlockH, ↓reduceIte, Nat.reduceEqDiff]
            refine hK8 _ _ ?_; try clear hK8 K8
            refine CW_ret ?_
            try simp only [Ex.thnH, Ex.inBlockH, ↓reduceIte, Nat.reduceEqDiff]
            exfalso; simp_all
        · first
          | (exfalso; exact cnA c22; done)
          | skip
            (try simp only [decide_eq_true_eq, decide_eq_false_iff_not, Bool.not_eq_true, Bool.not_eq_false, Bool.and_eq_true, Bool.or_eq_true, Bool.or_eq_false_iff, Bool.not_eq_true, Bool.not_eq_eq_eq_not, Bool.not_true, Bool.not_false] at c22)
            refine CW_skip ?_
            try simp only [Ex.thnH, Ex.inBlockH, ↓reduceIte, Nat.reduceEqDiff]
            refine hK5 _ _ ?_; try clear hK5 K5
            refine CW_seq (fun K9 hK9 => ?_)
            refine CW_region ?_
            refine OW_mv rfl ?_
            refine OW_opS (fun K hK r => ?_)
            rw [x_nilCheck _ _ rfl]
            simp only [eX, ↓reduceIte, Nat.reduceEqDiff, Int.reduceToNat]
            refine hK _ _ ?_; clear hK K
            refine OW_opS (fun K hK r => ?_)
            simp only [x_fieldAddr, fa93_0, add_mk, Nat.reduceAdd, Nat.zero_add, eX, ↓reduceIte, Nat.reduceEqDiff, Int.reduceToNat]
            refine hK _ _ ?_; clear hK K
            refine OW_opS (fun K hK r => ?_)
            simp only [x_load, eX, ↓reduceIte, Nat.reduceEqDiff, Int.reduceToNat]
            refine Lt_loadAt1 Try.underlying33 rfl hbA ldA ?_
            try simp only [eX, ↓reduceIte, Nat.reduceEqDiff, Int.reduceToNat]
            refine hK _ _ ?_; clear hK K
            refine OW_mv rfl ?_
            refine OW_mv rfl ?_
            refine OW_opS (fun K hK r => ?_)
            simp only [x_slice, Option.map_some, Option.map_none, eX, ↓reduceIte, Nat.reduceEqDiff, Int.reduceToNat]
            refine Lt_sliceS Try.underlying33 sz5 (bound_some ixA) (bound_some ixA) bound_none bxA bxA bxA (by simp) ?_
            try simp only [add_mk, Nat.mul_one, Nat.zero_add, Int.reduceToNat, Nat.reduceSub, Nat.reduceEqDiff, ↓reduceIte]
            try simp only [eX, ↓reduceIte, Nat.reduceEqDiff, Int.reduceToNat]
            refine hK _ _ ?_; clear hK K
            refine OW_as rfl ?_
            refine OW_nil ?_
            try simp only [Ex.thnH, Ex.inBlockH, ↓reduceIte, Nat.reduceEqDiff]
            refine hK9 _ _ ?_; try clear hK9 K9
            refine CW_seq (fun K10 hK10 => ?_)
            refine CW_region ?_
            refine OW_mv rfl ?_
            refine OW_mv rfl ?_
            refine OW_opS (fun K hK r => ?_)
            rw [x_nilCheck _ _ rfl]
            simp only [eX, ↓reduceIte, Nat.reduceEqDiff, Int.reduceToNat]
            refine hK _ _ ?_; clear hK K
            refine OW_opS (fun K hK r => ?_)
            simp only [x_fieldAddr, fa93_0, add_mk, Nat.reduceAdd, Nat.zero_add, eX, ↓reduceIte, Nat.reduceEqDiff, Int.reduceToNat]
            refine hK _ _ ?_; clear hK K
            refine OW_opS (fun K hK r => ?_)
            simp only [x_load, eX, ↓reduceIte, Nat.reduceEqDiff, Int.reduceToNat]
            refine Lt_loadAt1 Try.underlying33 rfl hbA ldA ?_
            try simp only [eX, ↓reduceIte, Nat.reduceEqDiff, Int.reduceToNat]
            refine hK _ _ ?_; clear hK K
            refine OW_mv rfl ?_
            refine OW_opS (fun K hK r => ?_)
            simp only [x_slice, Option.map_some, Option.map_none, eX, ↓reduceIte, Nat.reduceEqDiff, Int.reduceToNat]
            refine Lt_sliceS Try.underlying33 sz5 bound_none bound_none (bound_some ixA) bxA bxA bxA (by simp) ?_
            try simp only [add_mk, Nat.mul_one, Nat.zero_add, Int.reduceToNat, Nat.reduceSub, Nat.reduceEqDiff, ↓reduceIte]
            try simp only [eX, ↓reduceIte, Nat.reduceEqDiff, Int.reduceToNat]
            refine hK _ _ ?_; clear hK K
            refine OW_opS (fun K hK r => ?_)
            rw [x_nilCheck _ _ rfl]
            simp only [eX, ↓reduceIte, Nat.reduceEqDiff, Int.reduceToNat]
            refine hK _ _ ?_; clear hK K
            refine OW_opS (fun K hK r => ?_)
            simp only [x_fieldAddr, fa93_0, add_mk, Nat.reduceAdd, Nat.zero_add, eX, ↓reduceIte, Nat.reduceEqDiff, Int.reduceToNat]
            refine hK _ _ ?_; clear hK K
            refine OW_op rfl (lt_none) (fun K hK r => ?_)
            simp only [x_store, eX, ↓reduceIte, Nat.reduceEqDiff, Int.reduceToNat]
            refine Lt_storeAt1 sz33 hbA bdA plA fzA ?_
            try simp only [setL0, setL1, setL2, setL3, setL4, setL5, setL6, setL7, setL8, setL9]
            try simp only [eX, ↓reduceIte, Nat.reduceEqDiff, Int.reduceToNat]
            refine hK _ _ ?_; clear hK K
            refine OW_nil ?_
            try simp only [Ex.thnH, Ex.inBlockH, ↓reduceIte, Nat.reduceEqDiff]
            refine hK10 _ _ ?_; try clear hK10 K10
            refine CW_seq (fun K11 hK11 => ?_)
            refine CW_region ?_
            refine OW_mv rfl ?_
            refine OW_as rfl ?_
            refine OW_as rfl ?_
            refine OW_nil ?_
            try simp only [Ex.thnH, Ex.inBlockH, ↓reduceIte, Nat.reduceEqDiff]
            refine hK11 _ _ ?_; try clear hK11 K11
            refine CW_ret ?_
            try simp only [Ex.thnH, Ex.inBlockH, ↓reduceIte, Nat.reduceEqDiff]
            exfalso; simp_all

set_option maxRecDepth 100000 in
set_option maxHeartbeats 1000000 in
theorem take_few (H : Hp) (p : Nat) (a : Option Addr) (cap : Nat) (l : List Int) (hr : RD H p a cap l false) (n : Nat) (hn : l.length < n) (hl : l.length ≤ 10000000) : CallH Try.prog 60 #[.pointer (some ⟨p, 0, none⟩), .int .u64 n] H (fun v H' => v = .tuple #[.slice none 0 0, .bool false] ∧ H' = rst H p none 0 0 true) := by
  refine CallH_enter (l := [_, _]) (rl := [.tmp 4, .tmp 5]) (n := 42) Try.func60 rfl rfl rfl rfl rfl ?_
  simp only [envOf, Nat.reduceAdd]
  obtain ⟨hp, hcap, hh, hbad⟩ := hr
  refine CW_seq (fun K1 hK1 => ?_)
  refine CW_region ?_
  refine OW_as rfl ?_
  refine OW_as rfl ?_
  refine OW_nil ?_
  try simp only [Ex.thnH, Ex.inBlockH, ↓reduceIte, Nat.reduceEqDiff]
  refine hK1 _ _ ?_; try clear hK1 K1
  refine CW_seq (fun K2 hK2 => ?_)
  refine CW_seq (fun K3 hK3 => ?_)
  refine CW_region ?_
  refine OW_mv rfl ?_
  refine OW_opS (fun K hK r => ?_)
  simp only [x_bin, g_int, g_bool, g_string, g_pointer, g_slice, g_map, g_func, g_nilFunc, g_iface, g_nil_iface, g_nil_r, g_nil_l, eX, ↓reduceIte, Nat.reduceEqDiff, Int.reduceToNat]
  rw [e_eql _ _ _ _ (by simp)]
  rw [q_equal]
  first | rw [q_ptr_nil _ _ _ Try.underlying72] | rw [q_nil_ptr _ _ _ Try.underlying72]
  try simp only [eX, ↓reduceIte, Nat.reduceEqDiff, Int.reduceToNat]
  refine hK _ _ ?_; clear hK K
  refine OW_mv rfl ?_
  (first | refine OW_split (d := 9) rfl (fun g9 => ?_) (fun g9 => ?_) | skip)
  all_goals try (exfalso; exact cnA g9)
  all_goals (try simp only [decide_eq_true_eq, decide_eq_false_iff_not, Bool.not_eq_true, Bool.not_eq_false, Bool.and_eq_true, Bool.or_eq_true, Bool.or_eq_false_iff, Bool.not_eq_true, Bool.not_eq_eq_eq_not, Bool.not_true, Bool.not_false] at g9)
  all_goals
    try simp only [eX, ↓reduceIte, Nat.reduceEqDiff, Int.reduceToNat]
    first
    | refine OW_guardT rfl (lt_some (by decide)) rfl (fun K hK r => ?_)
      simp only [x_move, eX, ↓reduceIte, Nat.reduceEqDiff, Int.reduceToNat]
      refine hK _ _ ?_; clear hK K
    | refine OW_guardF rfl (lt_some (by decide)) rfl ?_
      simp only [eX, ↓reduceIte, Nat.reduceEqDiff, Int.reduceToNat]
    first
    | refine OW_guardT rfl (lt_some (by decide)) rfl (fun K hK r => ?_)
      rw [x_nilCheck _ _ rfl]
      simp only [eX, ↓reduceIte, Nat.reduceEqDiff, Int.reduceToNat]
      refine hK _ _ ?_; clear hK K
    | refine OW_guardF rfl (lt_some (by decide)) rfl ?_
      simp only [eX, ↓reduceIte, Nat.reduceEqDiff, Int.reduceToNat]
    first
    | refine OW_guardT rfl (lt_some (by decide)) rfl (fun K hK r => ?_)
      simp only [x_fieldAddr, fa93_1, add_mk, Nat.reduceAdd, Nat.zero_add, eX, ↓reduceIte, Nat.reduceEqDiff, Int.reduceToNat]
      refine hK _ _ ?_; clear hK K
    | refine OW_guardF rfl (lt_some (by decide)) rfl ?_
      simp only [eX, ↓reduceIte, Nat.reduceEqDiff, Int.reduceToNat]
    first
    | refine OW_guardT rfl (lt_some (by decide)) rfl (fun K hK r => ?_)
      simp only [x_load, eX, ↓reduceIte, Nat.reduceEqDiff, Int.reduceToNat]
      refine Lt_loadAt1 Try.underlying4 rfl hbA ldA ?_
      try simp only [eX, ↓reduceIte, Nat.reduceEqDiff, Int.reduceToNat]
      refine hK _ _ ?_; clear hK K
    | refine OW_guardF rfl (lt_some (by decide)) rfl ?_
      simp only [eX, ↓reduceIte, Nat.reduceEqDiff, Int.reduceToNat]
    refine OW_opS (fun K hK r => ?_)
    simp only [x_pick, l_asBool, HL.ite_bool, if_true, if_false, Bool.false_eq_true, eX, ↓reduceIte, Nat.reduceEqDiff, Int.reduceToNat]
    refine hK _ _ ?_; clear hK K
    refine OW_nil ?_
    try simp only [Ex.thnH, Ex.inBlockH, ↓reduceIte, Nat.reduceEqDiff]
    refine hK3 _ _ ?_; try clear hK3 K3
    refine CW_cond (fun r => rfl) (fun c14 => ?_) (fun c14 => ?_)
    · first
      | (exfalso; exact cnA c14; done)
      | skip
        (try simp only [decide_eq_true_eq, decide_eq_false_iff_not, Bool.not_eq_true, Bool.not_eq_false, Bool.and_eq_true, Bool.or_eq_true, Bool.or_eq_false_iff, Bool.not_eq_true, Bool.not_eq_eq_eq_not, Bool.not_true, Bool.not_false] at c14)
        refine CW_seq (fun K4 hK4 => ?_)
        refine CW_region ?_
        refine OW_as rfl ?_
        refine OW_as rfl ?_
        refine OW_nil ?_
        try simp only [Ex.thnH, Ex.inBlockH, ↓reduceIte, Nat.reduceEqDiff]
        refine hK4 _ _ ?_; try clear hK4 K4
        refine CW_ret ?_
        try simp only [Ex.thnH, Ex.inBlockH, ↓reduceIte, Nat.reduceEqDiff]
        exfalso; simp_all
    · first
      | (exfalso; exact cnA c14; done)
      | skip
        (try simp only [decide_eq_true_eq, decide_eq_false_iff_not, Bool.not_eq_true, Bool.not_eq_false, Bool.and_eq_true, Bool.or_eq_true, Bool.or_eq_false_iff, Bool.not_eq_true, Bool.not_eq_eq_eq_not, Bool.not_true, Bool.not_false] at c14)
        refine CW_skip ?_
        try simp only [Ex.thnH, Ex.inBlockH, ↓reduceIte, Nat.reduceEqDiff]
        refine hK2 _ _ ?_; try clear hK2 K2
        refine CW_seq (fun K5 hK5 => ?_)
        refine CW_seq (fun K6 hK6 => ?_)
        refine CW_region ?_
        refine OW_mv rfl ?_
        refine OW_mv rfl ?_
        refine OW_opS (fun K hK r => ?_)
        rw [x_nilCheck _ _ rfl]
        simp only [eX, ↓reduceIte, Nat.reduceEqDiff, Int.reduceToNat]
        refine hK _ _ ?_; clear hK K
        refine OW_opS (fun K hK r => ?_)
        simp only [x_fieldAddr, fa93_0, add_mk, Nat.reduceAdd, Nat.zero_add, eX, ↓reduceIte, Nat.reduceEqDiff, Int.reduceToNat]
        refine hK _ _ ?_; clear hK K
        refine OW_opS (fun K hK r => ?_)
        simp only [x_load, eX, ↓reduceIte, Nat.reduceEqDiff, Int.reduceToNat]
        refine Lt_loadAt1 Try.underlying33 rfl hbA ldA ?_
        try simp only [eX, ↓reduceIte, Nat.reduceEqDiff, Int.reduceToNat]
        refine hK _ _ ?_; clear hK K
        refine OW_opS (fun K hK r => ?_)
        simp only [x_builtin, l_len, List.map_toArray, List.map_cons, List.map_nil, i_len_slice _ _ Try.underlying33, eX, ↓reduceIte, Nat.reduceEqDiff, Int.reduceToNat]
        refine hK _ _ ?_; clear hK K
        refine OW_opS (fun K hK r => ?_)
        simp (disch := (first | omega | decide)) only [x_convert, c_int _ _ _ _ Try.underlying3 Try.underlying60, wrap_i64, wrap_u64, wrap_u32, wrap_u8, eX, ↓reduceIte, Nat.reduceEqDiff, Int.reduceToNat]
        refine hK _ _ ?_; clear hK K
        refine OW_opS (fun K hK r => ?_)
        simp (disch := (first | omega | decide)) only [x_bin, g_int, b_gtr, dec_lt_t, dec_lt_f, dec_le_t, dec_le_f, dec_eq_t, dec_eq_f, Bool.not_true, Bool.not_false, eX, ↓reduceIte, Nat.reduceEqDiff, Int.reduceToNat]
        refine hK _ _ ?_; clear hK K
        refine OW_nil ?_
        try simp only [Ex.thnH, Ex.inBlockH, ↓reduceIte, Nat.reduceEqDiff]
        refine hK6 _ _ ?_; try clear hK6 K6
        refine CW_cond (fun r => rfl) (fun c22 => ?_) (fun c22 => ?_)
        · first
          | (exfalso; exact cnA c22; done)
          | skip
            (try simp only [decide_eq_true_eq, decide_eq_false_iff_not, Bool.not_eq_true, Bool.not_eq_false, Bool.and_eq_true, Bool.or_eq_true, Bool.or_eq_false_iff, Bool.not_eq_true, Bool.not_eq_eq_eq_not, Bool.not_true, Bool.not_false] at c22)
            refine CW_seq (fun K7 hK7 => ?_)
            refine CW_region ?_
            refine OW_mv rfl ?_
            refine OW_opS (fun K hK r => ?_)
            simp only [x_callF _ bd61, List.map_toArray, List.map_cons, List.map_nil, eX, ↓reduceIte, Nat.reduceEqDiff, Int.reduceToNat]
            refine (fail_ok _ p _ _ hp).mono ?_
            rintro v24 H24 rfl
            try simp only [eX, ↓reduceIte, Nat.reduceEqDiff, Int.reduceToNat]
            refine hK _ _ ?_; clear hK K
            refine OW_nil ?_
            try simp only [Ex.thnH, Ex.inBlockH, ↓reduceIte, Nat.reduceEqDiff]
            refine hK7 _ _ ?_; try clear hK7 K7
            refine CW_seq (fun K8 hK8 => ?_)
            refine CW_region ?_
            refine OW_as rfl ?_
            refine OW_as rfl ?_
            refine OW_nil ?_
            try simp only [Ex.thnH, Ex.inBlockH, ↓reduceIte, Nat.reduceEqDiff]
            refine hK8 _ _ ?_; try clear hK8 K8
            refine CW_ret ?_
            try simp only [Ex.thnH, Ex.inBlockH, ↓reduceIte, Nat.reduceEqDiff]
            exact ⟨[_, _], ⟨rfl, rfl, trivial⟩, _, Le.refl _, rfl, rfl⟩
        · first
          | (exfalso; exact cnA c22; done)
          | skip
            (try simp only [decide_eq_true_eq, decide_eq_false_iff_not, Bool.not_eq_true, Bool.not_eq_false, Bool.and_eq_true, Bool.or_eq_true, Bool.or_eq_false_iff, Bool.not_eq_true, Bool.not_eq_eq_eq_not, Bool.not_true, Bool.not_false] at c22)
            refine CW_skip ?_
            try simp only [Ex.thnH, Ex.inBlockH, ↓reduceIte, Nat.reduceEqDiff]
            refine hK5 _ _ ?_; try clear hK5 K5
            refine CW_seq (fun K9 hK9 => ?_)
            refine CW_region ?_
            refine OW_mv rfl ?_
            refine OW_opS (fun K hK r => ?_)
            rw [x_nilCheck _ _ rfl]
            simp only [eX, ↓reduceIte, Nat.reduceEqDiff, Int.reduceToNat]
            refine hK _ _ ?_; clear hK K
            refine OW_opS (fun K hK r => ?_)
            simp only [x_fieldAddr, fa93_0, add_mk, Nat.reduceAdd, Nat.zero_add, eX, ↓reduceIte, Nat.reduceEqDiff, Int.reduceToNat]
            refine hK _ _ ?_; clear hK K
            refine OW_opS (fun K hK r => ?_)
            simp only [x_load, eX, ↓reduceIte, Nat.reduceEqDiff, Int.reduceToNat]
            refine Lt_loadAt1 Try.underlying33 rfl hbA ldA ?_
            try simp only [eX, ↓reduceIte, Nat.reduceEqDiff, Int.reduceToNat]
            refine hK _ _ ?_; clear hK K
            refine OW_mv rfl ?_
            refine OW_mv rfl ?_
            refine OW_opS (fun K hK r => ?_)
            simp only [x_slice, Option.map_some, Option.map_none, eX, ↓reduceIte, Nat.reduceEqDiff, Int.reduceToNat]
            refine Lt_sliceS Try.underlying33 sz5 (bound_some ixA) (bound_some ixA) bound_none bxA bxA bxA (by simp) ?_
            try simp only [add_mk, Nat.mul_one, Nat.zero_add, Int.reduceToNat, Nat.reduceSub, Nat.reduceEqDiff, ↓reduceIte]
            try simp only [eX, ↓reduceIte, Nat.reduceEqDiff, Int.reduceToNat]
            refine hK _ _ ?_; clear hK K
            refine OW_as rfl ?_
            refine OW_nil ?_
            try simp only [Ex.thnH, Ex.inBlockH, ↓reduceIte, Nat.reduceEqDiff]
            refine hK9 _ _ ?_; try clear hK9 K9
            refine CW_seq (fun K10 hK10 => ?_)
            refine CW_region ?_
            refine OW_mv rfl ?_
            refine OW_mv rfl ?_
            refine OW_opS (fun K hK r => ?_)
            rw [x_nilCheck _ _ rfl]
            simp only [eX, ↓reduceIte, Nat.reduceEqDiff, Int.reduceToNat]
            refine hK _ _ ?_; clear hK K
            refine OW_opS (fun K hK r => ?_)
            simp only [x_fieldAddr, fa93_0, add_mk, Nat.reduceAdd, Nat.zero_add, eX, ↓reduceIte, Nat.reduceEqDiff, Int.reduceToNat]
            refine hK _ _ ?_; clear hK K
            refine OW_opS (fun K hK r => ?_)
            simp only [x_load, eX, ↓reduceIte, Nat.reduceEqDiff, Int.reduceToNat]
            refine Lt_loadAt1 Try.underlying33 rfl hbA ldA ?_
            try simp only [eX, ↓reduceIte, Nat.reduceEqDiff, Int.reduceToNat]
            refine hK _ _ ?_; clear hK K
            refine OW_mv rfl ?_
            refine OW_opS (fun K hK r => ?_)
            simp only [x_slice, Option.map_some, Option.map_none, eX, ↓reduceIte, Nat.reduceEqDiff, Int.reduceToNat]
            refine Lt_sliceS Try.underlying33 sz5 bound_none bound_none (bound_some ixA) bxA bxA bxA (by simp) ?_
            try simp only [add_mk, Nat.mul_one, Nat.zero_add, Int.reduceToNat, Nat.reduceSub, Nat.reduceEqDiff, ↓reduceIte]
            try simp only [eX, ↓reduceIte, Nat.reduceEqDiff, Int.reduceToNat]
            refine hK _ _ ?_; clear hK K
            refine OW_opS (fun K hK r => ?_)
            rw [x_nilCheck _ _ rfl]
            simp only [eX, ↓reduceIte, Nat.reduceEqDiff, Int.reduceToNat]
            refine hK _ _ ?_; clear hK K
            refine OW_opS (fun K hK r => ?_)
            simp only [x_fieldAddr, fa93_0, add_mk, Nat.reduceAdd, Nat.zero_add, eX, ↓reduceIte, Nat.reduceEqDiff, Int.reduceToNat]
            refine hK _ _ ?_; clear hK K
            refine OW_op rfl (lt_none) (fun K hK r => ?_)
            simp only [x_store, eX, ↓reduceIte, Nat.reduceEqDiff, Int.reduceToNat]
            refine Lt_storeAt1 sz33 hbA bdA plA fzA ?_
            try simp only [setL0, setL1, setL2, setL3, setL4, setL5, setL6, setL7, setL8, setL9]
            try simp only [eX, ↓reduceIte, Nat.reduceEqDiff, Int.reduceToNat]
            refine hK _ _ ?_; clear hK K
            refine OW_nil ?_
            try simp only [Ex.thnH, Ex.inBlockH, ↓reduceIte, Nat.reduceEqDiff]
            refine hK10 _ _ ?_; try clear hK10 K10
            refine CW_seq (fun K11 hK11 => ?_)
            refine CW_region ?_
            refine OW_mv rfl ?_
            refine OW_as rfl ?_
            refine OW_as rfl ?_
            refine OW_nil ?_
            try simp only [Ex.thnH, Ex.inBlockH, ↓reduceIte, Nat.reduceEqDiff]
            refine hK11 _ _ ?_; try clear hK11 K11
            refine CW_ret ?_
            try simp only [Ex.thnH, Ex.inBlockH, ↓reduceIte, Nat.reduceEqDiff]
            exfalso; first | omega | simp_all


theorem hold_take {H : Hp} {a : Option Addr} {cap n : Nat} {l : List Int} (h : Holds H 1 (.slice a l.length cap) l.length (u8s l)) (hn : n ≤ l.length) : Holds H 1 (.slice (if n = 0 then a else a.map (·.add 0)) n n) n (u8s (l.take n)) := by
  have hs := Holds.slice (l := 0) (h := n) (m := n) h (by omega) hn (Nat.le_refl _)
  have e : (List.drop (0 * 1) (u8s l)).take ((n - 0) * 1) = u8s (l.take n) := by simp only [Nat.zero_mul, List.drop_zero, Nat.mul_one, Nat.sub_zero, List.map_take]
  rw [e] at hs; exact hs
theorem hold_drop {H : Hp} {a : Option Addr} {cap n : Nat} {l : List Int} (h : Holds H 1 (.slice a l.length cap) l.length (u8s l)) (hn : n ≤ l.length) (hc : l.length ≤ cap) : Holds H 1 (.slice (if cap = n then a else a.map (·.add n)) (l.length - n) (cap - n)) (l.length - n) (u8s (l.drop n)) := by
  have hs := Holds.slice (l := n) (h := l.length) (m := cap) h hn (Nat.le_refl _) hc
  have e : (List.drop (n * 1) (u8s l)).take ((l.length - n) * 1) = u8s (l.drop n) := by
    rw [Nat.mul_one, Nat.mul_one, List.take_of_length_le (by simp)]; simp only [List.map_drop]
  rw [e] at hs; simp only [Nat.mul_one] at hs; exact hs

set_option maxRecDepth 100000 in
set_option maxHeartbeats 1000000 in
theorem take_ok (H : Hp) (p : Nat) (a : Option Addr) (cap : Nat) (l : List Int) (hr : RD H p a cap l false) (n : Nat) (hn : n ≤ l.length) (hl : l.length ≤ 10000000) : CallH Try.prog 60 #[.pointer (some ⟨p, 0, none⟩), .int .u64 n] H (fun v H' => ∃ a0 a1, v = .tuple #[.slice a0 n n, .bool true] ∧ H' = rst H p a1 (l.length - n) (cap - n) false ∧ RD H' p a1 (cap - n) (l.drop n) false ∧ Holds H' 1 (.slice a0 n n) n (u8s (l.take n)) ∧ (∀ B o, a = some ⟨B, o, none⟩ → a0 = some ⟨B, o, none⟩ ∧ (n < l.length → a1 = some ⟨B, o + n, none⟩)) ∧ (∀ A, a1 = some A → ∃ A0, a = some A0 ∧ A0.block = A.block)) := by
  refine CallH_enter (l := [_, _]) (rl := [.tmp 4, .tmp 5]) (n := 42) Try.func60 rfl rfl rfl rfl rfl ?_
  simp only [envOf, Nat.reduceAdd]
  obtain ⟨hp, hcap, hh, hbad⟩ := hr
  have ht := hold_take hh hn
  have hd := hold_drop hh hn hcap
  refine CW_seq (fun K1 hK1 => ?_)
  refine CW_region ?_
  refine OW_as rfl ?_
  refine OW_as rfl ?_
  refine OW_nil ?_
  try simp only [Ex.thnH, Ex.inBlockH, ↓reduceIte, Nat.reduceEqDiff]
  refine hK1 _ _ ?_; try clear hK1 K1
  refine CW_seq (fun K2 hK2 => ?_)
  refine CW_seq (fun K3 hK3 => ?_)
  refine CW_region ?_
  refine OW_mv rfl ?_
  refine OW_opS (fun K hK r => ?_)
  simp only [x_bin, g_int, g_bool, g_string, g_pointer, g_slice, g_map, g_func, g_nilFunc, g_iface, g_nil_iface, g_nil_r, g_nil_l, eX, ↓reduceIte, Nat.reduceEqDiff, Int.reduceToNat]
  rw [e_eql _ _ _ _ (by simp)]
  rw [q_equal]
  first | rw [q_ptr_nil _ _ _ Try.underlying72] | rw [q_nil_ptr _ _ _ Try.underlying72]
  try simp only [eX, ↓reduceIte, Nat.reduceEqDiff, Int.reduceToNat]
  refine hK _ _ ?_; clear hK K
  refine OW_mv rfl ?_
  (first | refine OW_split (d := 9) rfl (fun g9 => ?_) (fun g9 => ?_) | skip)
  all_goals try (exfalso; exact cnA g9)
  all_goals (try simp only [decide_eq_true_eq, decide_eq_false_iff_not, Bool.not_eq_true, Bool.not_eq_false, Bool.and_eq_true, Bool.or_eq_true, Bool.or_eq_false_iff, Bool.not_eq_true, Bool.not_eq_eq_eq_not, Bool.not_true, Bool.not_false] at g9)
  all_goals
    try simp only [eX, ↓reduceIte, Nat.reduceEqDiff, Int.reduceToNat]
    first
    | refine OW_guardT rfl (lt_some (by decide)) rfl (fun K hK r => ?_)
      simp only [x_move, eX, ↓reduceIte, Nat.reduceEqDiff, Int.reduceToNat]
      refine hK _ _ ?_; clear hK K
    | refine OW_guardF rfl (lt_some (by decide)) rfl ?_
      simp only [eX, ↓reduceIte, Nat.reduceEqDiff, Int.reduceToNat]
    first
    | refine OW_guardT rfl (lt_some (by decide)) rfl (fun K hK r => ?_)
      rw [x_nilCheck _ _ rfl]
      simp only [eX, ↓reduceIte, Nat.reduceEqDiff, Int.reduceToNat]
      refine hK _ _ ?_; clear hK K
    | refine OW_guardF rfl (lt_some (by decide)) rfl ?_
      simp only [eX, ↓reduceIte, Nat.reduceEqDiff, Int.reduceToNat]
    first
    | refine OW_guardT rfl (lt_some (by decide)) rfl (fun K hK r => ?_)
      simp only [x_fieldAddr, fa93_1, add_mk, Nat.reduceAdd, Nat.zero_add, eX, ↓reduceIte, Nat.reduceEqDiff, Int.reduceToNat]
      refine hK _ _ ?_; clear hK K
    | refine OW_guardF rfl (lt_some (by decide)) rfl ?_
      simp only [eX, ↓reduceIte, Nat.reduceEqDiff, Int.reduceToNat]
    first
    | refine OW_guardT rfl (lt_some (by decide)) rfl (fun K hK r => ?_)
      simp only [x_load, eX, ↓reduceIte, Nat.reduceEqDiff, Int.reduceToNat]
      refine Lt_loadAt1 Try.underlying4 rfl hbA ldA ?_
      try simp only [eX, ↓reduceIte, Nat.reduceEqDiff, Int.reduceToNat]
      refine hK _ _ ?_; clear hK K
    | refine OW_guardF rfl (lt_some (by decide)) rfl ?_
      simp only [eX, ↓reduceIte, Nat.reduceEqDiff, Int.reduceToNat]
    refine OW_opS (fun K hK r => ?_)
    simp only [x_pick, l_asBool, HL.ite_bool, if_true, if_false, Bool.false_eq_true, eX, ↓reduceIte, Nat.reduceEqDiff, Int.reduceToNat]
    refine hK _ _ ?_; clear hK K
    refine OW_nil ?_
    try simp only [Ex.thnH, Ex.inBlockH, ↓reduceIte, Nat.reduceEqDiff]
    refine hK3 _ _ ?_; try clear hK3 K3
    refine CW_cond (fun r => rfl) (fun c14 => ?_) (fun c14 => ?_)
    · first
      | (exfalso; exact cnA c14; done)
      | skip
        (try simp only [decide_eq_true_eq, decide_eq_false_iff_not, Bool.not_eq_true, Bool.not_eq_false, Bool.and_eq_true, Bool.or_eq_true, Bool.or_eq_false_iff, Bool.not_eq_true, Bool.not_eq_eq_eq_not, Bool.not_true, Bool.not_false] at c14)
        refine CW_seq (fun K4 hK4 => ?_)
        refine CW_region ?_
        refine OW_as rfl ?_
        refine OW_as rfl ?_
        refine OW_nil ?_
        try simp only [Ex.thnH, Ex.inBlockH, ↓reduceIte, Nat.reduceEqDiff]
        refine hK4 _ _ ?_; try clear hK4 K4
        refine CW_ret ?_
        try simp only [Ex.thnH, Ex.inBlockH, ↓reduceIte, Nat.reduceEqDiff]
        exfalso; simp_all
    · first
      | (exfalso; exact cnA c14; done)
      | skip
        (try simp only [decide_eq_true_eq, decide_eq_false_iff_not, Bool.not_eq_true, Bool.not_eq_false, Bool.and_eq_true, Bool.or_eq_true, Bool.or_eq_false_iff, Bool.not_eq_true, Bool.not_eq_eq_eq_not, Bool.not_true, Bool.not_false] at c14)
        refine CW_skip ?_
        try simp only [Ex.thnH, Ex.inBlockH, ↓reduceIte, Nat.reduceEqDiff]
        refine hK2 _ _ ?_; try clear hK2 K2
        refine CW_seq (fun K5 hK5 => ?_)
        refine CW_seq (fun K6 hK6 => ?_)
        refine CW_region ?_
        refine OW_mv rfl ?_
        refine OW_mv rfl ?_
        refine OW_opS (fun K hK r => ?_)
        rw [x_nilCheck _ _ rfl]
        simp only [eX, ↓reduceIte, Nat.reduceEqDiff, Int.reduceToNat]
        refine hK _ _ ?_; clear hK K
        refine OW_opS (fun K hK r => ?_)
        simp only [x_fieldAddr, fa93_0, add_mk, Nat.reduceAdd, Nat.zero_add, eX, ↓reduceIte, Nat.reduceEqDiff, Int.reduceToNat]
        refine hK _ _ ?_; clear hK K
        refine OW_opS (fun K hK r => ?_)
        simp only [x_load, eX, ↓reduceIte, Nat.reduceEqDiff, Int.reduceToNat]
        refine Lt_loadAt1 Try.underlying33 rfl hbA ldA ?_
        try simp only [eX, ↓reduceIte, Nat.reduceEqDiff, Int.reduceToNat]
        refine hK _ _ ?_; clear hK K
        refine OW_opS (fun K hK r => ?_)
        simp only [x_builtin, l_len, List.map_toArray, List.map_cons, List.map_nil, i_len_slice _ _ Try.underlying33, eX, ↓reduceIte, Nat.reduceEqDiff, Int.reduceToNat]
        refine hK _ _ ?_; clear hK K
        refine OW_opS (fun K hK r => ?_)
        simp (disch := (first | omega | decide)) only [x_convert, c_int _ _ _ _ Try.underlying3 Try.underlying60, wrap_i64, wrap_u64, wrap_u32, wrap_u8, eX, ↓reduceIte, Nat.reduceEqDiff, Int.reduceToNat]
        refine hK _ _ ?_; clear hK K
        refine OW_opS (fun K hK r => ?_)
        simp (disch := (first | omega | decide)) only [x_bin, g_int, b_gtr, dec_lt_t, dec_lt_f, dec_le_t, dec_le_f, dec_eq_t, dec_eq_f, Bool.not_true, Bool.not_false, eX, ↓reduceIte, Nat.reduceEqDiff, Int.reduceToNat]
        refine hK _ _ ?_; clear hK K
        refine OW_nil ?_
        try simp only [Ex.thnH, Ex.inBlockH, ↓reduceIte, Nat.reduceEqDiff]
        refine hK6 _ _ ?_; try clear hK6 K6
        refine CW_cond (fun r => rfl) (fun c22 => ?_) (fun c22 => ?_)
        · first
          | (exfalso; exact cnA c22; done)
          | skip
            (try simp only [decide_eq_true_eq, decide_eq_false_iff_not, Bool.not_eq_true, Bool.not_eq_false, Bool.and_eq_true, Bool.or_eq_true, Bool.or_eq_false_iff, Bool.not_eq_true, Bool.not_eq_eq_eq_not, Bool.not_true, Bool.not_false] at c22)
            refine CW_seq (fun K7 hK7 => ?_)
            refine CW_region ?_
            refine OW_mv rfl ?_
            refine OW_opS (fun K hK r => ?_)
            simp only [x_callF _ bd61, List.map_toArray, List.map_cons, List.map_nil, eX, ↓reduceIte, Nat.reduceEqDiff, Int.reduceToNat]
            refine (fail_ok _ p _ _ hp).mono ?_
            rintro v24 H24 rfl
            try simp only [eX, ↓reduceIte, Nat.reduceEqDiff, Int.reduceToNat]
            refine hK _ _ ?_; clear hK K
            refine OW_nil ?_
            try simp only [Ex.thnH, Ex.inBlockH, ↓reduceIte, Nat.reduceEqDiff]
            refine hK7 _ _ ?_; try clear hK7 K7
            refine CW_seq (fun K8 hK8 => ?_)
            refine CW_region ?_
            refine OW_as rfl ?_
            refine OW_as rfl ?_
            refine OW_nil ?_
            try simp only [Ex.thnH, Ex.inBlockH, ↓reduceIte, Nat.reduceEqDiff]
            refine hK8 _ _ ?_; try clear hK8 K8
            refine CW_ret ?_
            try simp only [Ex.thnH, Ex.inBlockH, ↓reduceIte, Nat.reduceEqDiff]
            exfalso; first | omega | simp_all
        · first
          | (exfalso; exact cnA c22; done)
          | skip
            (try simp only [decide_eq_true_eq, decide_eq_false_iff_not, Bool.not_eq_true, Bool.not_eq_false, Bool.and_eq_true, Bool.or_eq_true, Bool.or_eq_false_iff, Bool.not_eq_true, Bool.not_eq_eq_eq_not, Bool.not_true, Bool.not_false] at c22)
            refine CW_skip ?_
            try simp only [Ex.thnH, Ex.inBlockH, ↓reduceIte, Nat.reduceEqDiff]
            refine hK5 _ _ ?_; try clear hK5 K5
            refine CW_seq (fun K9 hK9 => ?_)
            refine CW_region ?_
            refine OW_mv rfl ?_
            refine OW_opS (fun K hK r => ?_)
            rw [x_nilCheck _ _ rfl]
            simp only [eX, ↓reduceIte, Nat.reduceEqDiff, Int.reduceToNat]
            refine hK _ _ ?_; clear hK K
            refine OW_opS (fun K hK r => ?_)
            simp only [x_fieldAddr, fa93_0, add_mk, Nat.reduceAdd, Nat.zero_add, eX, ↓reduceIte, Nat.reduceEqDiff, Int.reduceToNat]
            refine hK _ _ ?_; clear hK K
            refine OW_opS (fun K hK r => ?_)
            simp only [x_load, eX, ↓reduceIte, Nat.reduceEqDiff, Int.reduceToNat]
            refine Lt_loadAt1 Try.underlying33 rfl hbA ldA ?_
            try simp only [eX, ↓reduceIte, Nat.reduceEqDiff, Int.reduceToNat]
            refine hK _ _ ?_; clear hK K
            refine OW_mv rfl ?_
            refine OW_mv rfl ?_
            refine OW_opS (fun K hK r => ?_)
            simp only [x_slice, Option.map_some, Option.map_none, eX, ↓reduceIte, Nat.reduceEqDiff, Int.reduceToNat]
            refine Lt_sliceS Try.underlying33 sz5 (bound_some ixA) (bound_some ixA) bound_none bxA bxA bxA (by simp) ?_
            try simp only [add_mk, Nat.mul_one, Nat.zero_add, Int.reduceToNat, Nat.reduceSub, Nat.reduceEqDiff, ↓reduceIte]
            try simp only [Int.toNat_natCast]
            try simp only [eX, ↓reduceIte, Nat.reduceEqDiff, Int.reduceToNat]
            refine hK _ _ ?_; clear hK K
            refine OW_as rfl ?_
            refine OW_nil ?_
            try simp only [Ex.thnH, Ex.inBlockH, ↓reduceIte, Nat.reduceEqDiff]
            refine hK9 _ _ ?_; try clear hK9 K9
            refine CW_seq (fun K10 hK10 => ?_)
            refine CW_region ?_
            refine OW_mv rfl ?_
            refine OW_mv rfl ?_
            refine OW_opS (fun K hK r => ?_)
            rw [x_nilCheck _ _ rfl]
            simp only [eX, ↓reduceIte, Nat.reduceEqDiff, Int.reduceToNat]
            refine hK _ _ ?_; clear hK K
            refine OW_opS (fun K hK r => ?_)
            simp only [x_fieldAddr, fa93_0, add_mk, Nat.reduceAdd, Nat.zero_add, eX, ↓reduceIte, Nat.reduceEqDiff, Int.reduceToNat]
            refine hK _ _ ?_; clear hK K
            refine OW_opS (fun K hK r => ?_)
            simp only [x_load, eX, ↓reduceIte, Nat.reduceEqDiff, Int.reduceToNat]
            refine Lt_loadAt1 Try.underlying33 rfl hbA ldA ?_
            try simp only [eX, ↓reduceIte, Nat.reduceEqDiff, Int.reduceToNat]
            refine hK _ _ ?_; clear hK K
            refine OW_mv rfl ?_
            refine OW_opS (fun K hK r => ?_)
            simp only [x_slice, Option.map_some, Option.map_none, eX, ↓reduceIte, Nat.reduceEqDiff, Int.reduceToNat]
            refine Lt_sliceS Try.underlying33 sz5 bound_none bound_none (bound_some ixA) bxA bxA bxA (by simp) ?_
            try simp only [add_mk, Nat.mul_one, Nat.zero_add, Int.reduceToNat, Nat.reduceSub, Nat.reduceEqDiff, ↓reduceIte]
            try simp only [Int.toNat_natCast]
            try simp only [eX, ↓reduceIte, Nat.reduceEqDiff, Int.reduceToNat]
            refine hK _ _ ?_; clear hK K
            refine OW_opS (fun K hK r => ?_)
            rw [x_nilCheck _ _ rfl]
            simp only [eX, ↓reduceIte, Nat.reduceEqDiff, Int.reduceToNat]
            refine hK _ _ ?_; clear hK K
            refine OW_opS (fun K hK r => ?_)
            simp only [x_fieldAddr, fa93_0, add_mk, Nat.reduceAdd, Nat.zero_add, eX, ↓reduceIte, Nat.reduceEqDiff, Int.reduceToNat]
            refine hK _ _ ?_; clear hK K
            refine OW_op rfl (lt_none) (fun K hK r => ?_)
            simp only [x_store, eX, ↓reduceIte, Nat.reduceEqDiff, Int.reduceToNat]
            refine Lt_storeAt1 sz33 hbA bdA plA fzA ?_
            try simp only [setL0, setL1, setL2, setL3, setL4, setL5, setL6, setL7, setL8, setL9]
            try simp only [eX, ↓reduceIte, Nat.reduceEqDiff, Int.reduceToNat]
            refine hK _ _ ?_; clear hK K
            refine OW_nil ?_
            try simp only [Ex.thnH, Ex.inBlockH, ↓reduceIte, Nat.reduceEqDiff]
            refine hK10 _ _ ?_; try clear hK10 K10
            refine CW_seq (fun K11 hK11 => ?_)
            refine CW_region ?_
            refine OW_mv rfl ?_
            refine OW_as rfl ?_
            refine OW_as rfl ?_
            refine OW_nil ?_
            try simp only [Ex.thnH, Ex.inBlockH, ↓reduceIte, Nat.reduceEqDiff]
            refine hK11 _ _ ?_; try clear hK11 K11
            refine CW_ret ?_
            try simp only [Ex.thnH, Ex.inBlockH, ↓reduceIte, Nat.reduceEqDiff]
            refine ⟨[_, _], ⟨rfl, rfl, trivial⟩, _, Le.refl _, _, _, rfl, rfl, ⟨?_, by simp; omega, ?_, fun h => by cases h⟩, ht.rst hp _, fun B o e => ?_, fun A e => ?_⟩
            · rw [upd_same, List.length_drop]
            · rw [List.length_drop]; exact hd.rst hp _
            · subst e
              refine ⟨?_, fun h => ?_⟩
              · split <;> simp [add_mk]
              · rw [if_neg (by omega)]; simp [add_mk]
            · split at e
              · exact ⟨A, e, rfl⟩
              · simp only [Option.map_eq_some_iff] at e
                obtain ⟨A0, h1, rfl⟩ := e
                exact ⟨A0, h1, (addr_block A0 n).symm⟩

end Go.Proofs.Ytlkopcgoaldpeaa.HL
end
section
namespace Go.Proofs.Ytlkopcgoaldpeaa.HL
open Go Go.Proofs
set_option linter.unusedSimpArgs false
set_option linter.unusedVariables false
attribute [local irreducible] Lt Lq CW OW TW CallH


/-- what a reading of a count leaves: the count, the rest, whether it is bad then -/
def rcN (r : Option (Nat × List Int)) : Nat := match r with | some (u, _) => u | none => 0
def rcL (r : Option (Nat × List Int)) : List Int := match r with | some (_, l) => l | none => []
theorem shl_acc {p : List Int} {c : Int} (h0 : 0 ≤ c) (h1 : c ≤ 255) (hl : p.length ≤ 9) (hc : p.length = 9 → c ≤ 1) : IntKind.u64.wrap (BitVec.ofInt IntKind.u64.bits (valL p : Int) ||| BitVec.ofInt IntKind.u64.bits (IntKind.u64.wrap ((c % 128) * 2 ^ (min ((7 * (p.length : Int)).toNat) IntKind.u64.bits)))).toNat = (valL (p ++ [c]) : Int) ∧ valL (p ++ [c]) < 18446744073709551616 := by
  have e1 : (7 * (p.length : Int)).toNat = 7 * p.length := by omega
  have e2 : min (7 * p.length) IntKind.u64.bits = 7 * p.length := Nat.min_eq_left (by show 7 * p.length ≤ 64; omega)
  have e3 : (128 : Nat) ^ p.length = 2 ^ (7 * p.length) := by rw [Nat.pow_mul]
  have hv := valL_lt p
  have hstep := valL_step (p := p) h0
  have hc2 : c.toNat % 128 < 128 := by omega
  have hle : 2 ^ (7 * p.length) ≤ 2 ^ 63 := Nat.pow_le_pow_right (by omega) (by omega)
  have hprod : (c.toNat % 128) * 2 ^ (7 * p.length) + 2 ^ (7 * p.length) ≤ 18446744073709551616 := by
    by_cases h9 : p.length = 9
    · have := hc h9
      have h1 : c.toNat % 128 ≤ 1 := by omega
      have := Nat.mul_le_mul_right (2 ^ (7 * p.length)) h1
      omega
    · have h56 : 2 ^ (7 * p.length) ≤ 2 ^ 56 := Nat.pow_le_pow_right (by omega) (by omega)
      have := Nat.mul_le_mul_right (2 ^ (7 * p.length)) (show c.toNat % 128 + 1 ≤ 128 by omega)
      rw [Nat.add_mul, Nat.one_mul] at this
      omega
  rw [e3] at hv hstep
  have ec : c % 128 = ((c.toNat % 128 : Nat) : Int) := by omega
  have ep : (2 : Int) ^ (7 * p.length) = ((2 ^ (7 * p.length) : Nat) : Int) := by simp
  have hs : ((c.toNat % 128 : Nat) : Int) * 2 ^ (7 * p.length) < 18446744073709551616 := by
    rw [ep, ← Int.natCast_mul]; omega
  refine ⟨?_, by rw [hstep]; omega⟩
  rw [e1, e2, ec, shl_fits (by omega) hs, hstep]
  have hor := or_add (x := ((c.toNat % 128 : Nat) : Int)) (y := (valL p : Int)) (s := 7 * p.length) (by omega) (by omega) hs (by omega) (by rw [ep]; omega)
  rw [BitVec.or_comm, hor, ep, Int.natCast_add, Int.natCast_mul]; omega

set_option maxRecDepth 100000 in
set_option maxHeartbeats 1000000 in
theorem rCount_bad (H : Hp) (p : Nat) (a : Option Addr) (cap : Nat) (l : List Int) (hr : RD H p a cap l true) : CallH Try.prog 53 #[.pointer (some ⟨p, 0, none⟩)] H (fun v H' => v = .int .u64 0 ∧ H' = H) := by
  refine CallH_enter (l := [_]) (rl := [.tmp 2]) (n := 49) Try.func53 rfl rfl rfl rfl rfl ?_
  simp only [envOf, Nat.reduceAdd]
  refine CW_seq (fun K1 hK1 => ?_)
  refine CW_region ?_
  refine OW_as rfl ?_
  refine OW_nil ?_
  try simp only [Ex.thnH, Ex.inBlockH, ↓reduceIte, Nat.reduceEqDiff]
  refine hK1 _ _ ?_; try clear hK1 K1
  refine CW_seq (fun K2 hK2 => ?_)
  refine CW_region ?_
  refine OW_as rfl ?_
  refine OW_nil ?_
  try simp only [Ex.thnH, Ex.inBlockH, ↓reduceIte, Nat.reduceEqDiff]
  refine hK2 _ _ ?_; try clear hK2 K2
  refine CW_seq (fun K3 hK3 => ?_)
  refine CW_seq (fun K4 hK4 => ?_)
  refine CW_region ?_
  refine OW_mv rfl ?_
  refine OW_nil ?_
  try simp only [Ex.thnH, Ex.inBlockH, ↓reduceIte, Nat.reduceEqDiff]
  refine hK4 _ _ ?_; try clear hK4 K4
  refine CW_block ?_
  refine CW_loop (fun m e H_ => m = 0 ∧ Env.has [(0, .pointer (some ⟨p, 0, none⟩)), (8, .int .i64 0)] e ∧ H_ = H) (0) ?_ ?_
  · skip
    exact ⟨rfl, ⟨rfl, rfl, trivial⟩, rfl⟩
  intro m_ e_ H_ hI_
  obtain ⟨rfl, he, hH_⟩ := hI_
  subst hH_
  refine CW_env he.sub ?_; clear he e_
  refine CW_seq (fun K5 hK5 => ?_)
  refine CW_region ?_
  refine OW_opS (fun K hK r => ?_)
  simp (disch := (first | omega | decide)) only [x_bin, g_int, b_lss, dec_lt_t, dec_lt_f, dec_le_t, dec_le_f, dec_eq_t, dec_eq_f, Bool.not_true, Bool.not_false, eX, ↓reduceIte, Nat.reduceEqDiff, Int.reduceToNat]
  refine hK _ _ ?_; clear hK K
  refine OW_nil ?_
  try simp only [Ex.thnH, Ex.inBlockH, ↓reduceIte, Nat.reduceEqDiff]
  refine hK5 _ _ ?_; try clear hK5 K5
  refine CW_seq (fun K6 hK6 => ?_)
  refine CW_cond (fun r => rfl) (fun c9 => ?_) (fun c9 => ?_)
  · first
    | (exfalso; exact cnA c9; done)
    | skip
      (try simp only [decide_eq_true_eq, decide_eq_false_iff_not, Bool.not_eq_true, Bool.not_eq_false, Bool.and_eq_true, Bool.or_eq_true, Bool.or_eq_false_iff, Bool.not_eq_true, Bool.not_eq_eq_eq_not, Bool.not_true, Bool.not_false] at c9)
      refine CW_skip ?_
      try simp only [Ex.thnH, Ex.inBlockH, ↓reduceIte, Nat.reduceEqDiff]
      refine hK6 _ _ ?_; try clear hK6 K6
      refine CW_seq (fun K7 hK7 => ?_)
      refine CW_block ?_
      refine CW_seq (fun K8 hK8 => ?_)
      refine CW_region ?_
      refine OW_mv rfl ?_
      refine OW_as rfl ?_
      refine OW_nil ?_
      try simp only [Ex.thnH, Ex.inBlockH, ↓reduceIte, Nat.reduceEqDiff]
      refine hK8 _ _ ?_; try clear hK8 K8
      refine CW_seq (fun K9 hK9 => ?_)
      refine CW_region ?_
      refine OW_mv rfl ?_
      refine OW_opS (fun K hK r => ?_)
      simp only [x_callF _ bd60, List.map_toArray, List.map_cons, List.map_nil, eX, ↓reduceIte, Nat.reduceEqDiff, Int.reduceToNat]
      refine (take_bad _ p a cap l hr 1).mono ?_
      rintro v H' ⟨rfl, rfl⟩
      try simp only [eX, ↓reduceIte, Nat.reduceEqDiff, Int.reduceToNat]
      refine hK _ _ ?_; clear hK K
      refine OW_mv rfl ?_
      refine OW_opS (fun K hK r => ?_)
      simp only [x_extract, i_extract, List.getElem?_toArray, List.getElem?_cons_zero, List.getElem?_cons_succ, orF_some, eX, ↓reduceIte, Nat.reduceEqDiff, Int.reduceToNat]
      refine hK _ _ ?_; clear hK K
      refine OW_opS (fun K hK r => ?_)
      simp only [x_extract, i_extract, List.getElem?_toArray, List.getElem?_cons_zero, List.getElem?_cons_succ, orF_some, eX, ↓reduceIte, Nat.reduceEqDiff, Int.reduceToNat]
      refine hK _ _ ?_; clear hK K
      refine OW_as rfl ?_
      refine OW_as rfl ?_
      refine OW_nil ?_
      try simp only [Ex.thnH, Ex.inBlockH, ↓reduceIte, Nat.reduceEqDiff]
      refine hK9 _ _ ?_; try clear hK9 K9
      refine CW_seq (fun K10 hK10 => ?_)
      refine CW_seq (fun K11 hK11 => ?_)
      refine CW_region ?_
      refine OW_mv rfl ?_
      refine OW_opS (fun K hK r => ?_)
      simp only [x_un, u_not, eX, ↓reduceIte, Nat.reduceEqDiff, Int.reduceToNat]
      refine hK _ _ ?_; clear hK K
      refine OW_nil ?_
      try simp only [Ex.thnH, Ex.inBlockH, ↓reduceIte, Nat.reduceEqDiff]
      refine hK11 _ _ ?_; try clear hK11 K11
      refine CW_cond (fun r => rfl) (fun c17 => ?_) (fun c17 => ?_)
      · first
        | (exfalso; exact cnA c17; done)
        | skip
          (try simp only [decide_eq_true_eq, decide_eq_false_iff_not, Bool.not_eq_true, Bool.not_eq_false, Bool.and_eq_true, Bool.or_eq_true, Bool.or_eq_false_iff, Bool.not_eq_true, Bool.not_eq_eq_eq_not, Bool.not_true, Bool.not_false] at c17)
          refine CW_seq (fun K12 hK12 => ?_)
          refine CW_region ?_
          refine OW_as rfl ?_
          refine OW_nil ?_
          try simp only [Ex.thnH, Ex.inBlockH, ↓reduceIte, Nat.reduceEqDiff]
          refine hK12 _ _ ?_; try clear hK12 K12
          refine CW_ret ?_
          try simp only [Ex.thnH, Ex.inBlockH, ↓reduceIte, Nat.reduceEqDiff]
          exact ⟨[_], ⟨rfl, trivial⟩, _, Le.refl _, rfl, rfl⟩
      · first
        | (exfalso; exact cnA c17; done)
        | skip
          (try simp only [decide_eq_true_eq, decide_eq_false_iff_not, Bool.not_eq_true, Bool.not_eq_false, Bool.and_eq_true, Bool.or_eq_true, Bool.or_eq_false_iff, Bool.not_eq_true, Bool.not_eq_eq_eq_not, Bool.not_true, Bool.not_false] at c17)
          refine CW_skip ?_
          try simp only [Ex.thnH, Ex.inBlockH, ↓reduceIte, Nat.reduceEqDiff]
          refine hK10 _ _ ?_; try clear hK10 K10
          refine CW_seq (fun K13 hK13 => ?_)
          refine CW_region ?_
          refine OW_mv rfl ?_
          refine OW_opS (fun K hK r => ?_)
          simp only [x_indexAddr, eX, ↓reduceIte, Nat.reduceEqDiff, Int.reduceToNat]
          refine Lt_indexS Try.underlying33 sz5 ixA ixA ?_
          try simp only [add_mk, Nat.mul_one, Nat.zero_add, Int.reduceToNat]
          try simp only [eX, ↓reduceIte, Nat.reduceEqDiff, Int.reduceToNat]
          refine hK _ _ ?_; clear hK K
          refine OW_opS (fun K hK r => ?_)
          simp only [x_load, eX, ↓reduceIte, Nat.reduceEqDiff, Int.reduceToNat]
          refine Lt_loadAt1 Try.underlying5 rfl hbA ldA ?_
          try simp only [eX, ↓reduceIte, Nat.reduceEqDiff, Int.reduceToNat]
          refine hK _ _ ?_; clear hK K
          refine OW_as rfl ?_
          refine OW_nil ?_
          try simp only [Ex.thnH, Ex.inBlockH, ↓reduceIte, Nat.reduceEqDiff]
          refine hK13 _ _ ?_; try clear hK13 K13
          refine CW_seq (fun K14 hK14 => ?_)
          refine CW_seq (fun K15 hK15 => ?_)
          refine CW_region ?_
          refine OW_mv rfl ?_
          refine OW_opS (fun K hK r => ?_)
          simp (disch := (first | omega | decide)) only [x_bin, g_int, b_eql, dec_lt_t, dec_lt_f, dec_le_t, dec_le_f, dec_eq_t, dec_eq_f, Bool.not_true, Bool.not_false, eX, ↓reduceIte, Nat.reduceEqDiff, Int.reduceToNat]
          refine hK _ _ ?_; clear hK K
          refine OW_mv rfl ?_
          (first | refine OW_split (d := 23) rfl (fun g23 => ?_) (fun g23 => ?_) | skip)
          all_goals try (exfalso; exact cnA g23)
          all_goals (try simp only [decide_eq_true_eq, decide_eq_false_iff_not, Bool.not_eq_true, Bool.not_eq_false, Bool.and_eq_true, Bool.or_eq_true, Bool.or_eq_false_iff, Bool.not_eq_true, Bool.not_eq_eq_eq_not, Bool.not_true, Bool.not_false] at g23)
          all_goals
            try simp only [eX, ↓reduceIte, Nat.reduceEqDiff, Int.reduceToNat]
            first
            | refine OW_guardT rfl (lt_some (by decide)) rfl (fun K hK r => ?_)
              simp only [x_move, eX, ↓reduceIte, Nat.reduceEqDiff, Int.reduceToNat]
              refine hK _ _ ?_; clear hK K
            | refine OW_guardF rfl (lt_some (by decide)) rfl ?_
              simp only [eX, ↓reduceIte, Nat.reduceEqDiff, Int.reduceToNat]
            first
            | refine OW_guardT rfl (lt_some (by decide)) rfl (fun K hK r => ?_)
              simp (disch := (first | omega | decide)) only [x_bin, g_int, b_gtr, dec_lt_t, dec_lt_f, dec_le_t, dec_le_f, dec_eq_t, dec_eq_f, Bool.not_true, Bool.not_false, eX, ↓reduceIte, Nat.reduceEqDiff, Int.reduceToNat]
              refine hK _ _ ?_; clear hK K
            | refine OW_guardF rfl (lt_some (by decide)) rfl ?_
              simp only [eX, ↓reduceIte, Nat.reduceEqDiff, Int.reduceToNat]
            refine OW_opS (fun K hK r => ?_)
            simp only [x_pick, l_asBool, HL.ite_bool, if_true, if_false, Bool.false_eq_true, eX, ↓reduceIte, Nat.reduceEqDiff, Int.reduceToNat]
            refine hK _ _ ?_; clear hK K
            refine OW_mv rfl ?_
            (first | refine OW_split (d := 27) rfl (fun g27 => ?_) (fun g27 => ?_) | skip)
            all_goals try (exfalso; exact cnA g27)
            all_goals (try simp only [decide_eq_true_eq, decide_eq_false_iff_not, Bool.not_eq_true, Bool.not_eq_false, Bool.and_eq_true, Bool.or_eq_true, Bool.or_eq_false_iff, Bool.not_eq_true, Bool.not_eq_eq_eq_not, Bool.not_true, Bool.not_false] at g27)
            all_goals
              try simp only [eX, ↓reduceIte, Nat.reduceEqDiff, Int.reduceToNat]
              first
              | refine OW_guardT rfl (lt_some (by decide)) rfl (fun K hK r => ?_)
                simp only [x_move, eX, ↓reduceIte, Nat.reduceEqDiff, Int.reduceToNat]
                refine hK _ _ ?_; clear hK K
              | refine OW_guardF rfl (lt_some (by decide)) rfl ?_
                simp only [eX, ↓reduceIte, Nat.reduceEqDiff, Int.reduceToNat]
              first
              | refine OW_guardT rfl (lt_some (by decide)) rfl (fun K hK r => ?_)
                simp (disch := (first | omega | decide)) only [x_bin, g_int, b_gtr, dec_lt_t, dec_lt_f, dec_le_t, dec_le_f, dec_eq_t, dec_eq_f, Bool.not_true, Bool.not_false, eX, ↓reduceIte, Nat.reduceEqDiff, Int.reduceToNat]
                refine hK _ _ ?_; clear hK K
              | refine OW_guardF rfl (lt_some (by decide)) rfl ?_
                simp only [eX, ↓reduceIte, Nat.reduceEqDiff, Int.reduceToNat]
              first
              | refine OW_guardT rfl (lt_some (by decide)) rfl (fun K hK r => ?_)
                simp only [x_move, eX, ↓reduceIte, Nat.reduceEqDiff, Int.reduceToNat]
                refine hK _ _ ?_; clear hK K
              | refine OW_guardF rfl (lt_some (by decide)) rfl ?_
                simp only [eX, ↓reduceIte, Nat.reduceEqDiff, Int.reduceToNat]
              (first | refine OW_split (d := 30) rfl (fun g30 => ?_) (fun g30 => ?_) | skip)
              all_goals try (exfalso; exact cnA g30)
              all_goals (try simp only [decide_eq_true_eq, decide_eq_false_iff_not, Bool.not_eq_true, Bool.not_eq_false, Bool.and_eq_true, Bool.or_eq_true, Bool.or_eq_false_iff, Bool.not_eq_true, Bool.not_eq_eq_eq_not, Bool.not_true, Bool.not_false] at g30)
              all_goals
                try simp only [eX, ↓reduceIte, Nat.reduceEqDiff, Int.reduceToNat]
                first
                | refine OW_guardT rfl (lt_some (by decide)) rfl (fun K hK r => ?_)
                  simp only [x_move, eX, ↓reduceIte, Nat.reduceEqDiff, Int.reduceToNat]
                  refine hK _ _ ?_; clear hK K
                | refine OW_guardF rfl (lt_some (by decide)) rfl ?_
                  simp only [eX, ↓reduceIte, Nat.reduceEqDiff, Int.reduceToNat]
                first
                | refine OW_guardT rfl (lt_some (by decide)) rfl (fun K hK r => ?_)
                  simp (disch := (first | omega | decide)) only [x_bin, g_int, b_eql, dec_lt_t, dec_lt_f, dec_le_t, dec_le_f, dec_eq_t, dec_eq_f, Bool.not_true, Bool.not_false, eX, ↓reduceIte, Nat.reduceEqDiff, Int.reduceToNat]
                  refine hK _ _ ?_; clear hK K
                | refine OW_guardF rfl (lt_some (by decide)) rfl ?_
                  simp only [eX, ↓reduceIte, Nat.reduceEqDiff, Int.reduceToNat]
                first
                | refine OW_guardT rfl (lt_some (by decide)) rfl (fun K hK r => ?_)
                  simp only [x_pick, l_asBool, HL.ite_bool, if_true, if_false, Bool.false_eq_true, eX, ↓reduceIte, Nat.reduceEqDiff, Int.reduceToNat]
                  refine hK _ _ ?_; clear hK K
                | refine OW_guardF rfl (lt_some (by decide)) rfl ?_
                  simp only [eX, ↓reduceIte, Nat.reduceEqDiff, Int.reduceToNat]
                refine OW_opS (fun K hK r => ?_)
                simp only [x_pick, l_asBool, HL.ite_bool, if_true, if_false, Bool.false_eq_true, eX, ↓reduceIte, Nat.reduceEqDiff, Int.reduceToNat]
                refine hK _ _ ?_; clear hK K
                refine OW_nil ?_
                try simp only [Ex.thnH, Ex.inBlockH, ↓reduceIte, Nat.reduceEqDiff]
                refine hK15 _ _ ?_; try clear hK15 K15
                refine CW_cond (fun r => rfl) (fun c34 => ?_) (fun c34 => ?_)
                · first
                  | (exfalso; exact cnA c34; done)
                  | skip
                    (try simp only [decide_eq_true_eq, decide_eq_false_iff_not, Bool.not_eq_true, Bool.not_eq_false, Bool.and_eq_true, Bool.or_eq_true, Bool.or_eq_false_iff, Bool.not_eq_true, Bool.not_eq_eq_eq_not, Bool.not_true, Bool.not_false] at c34)
                    refine CW_exit ?_
                    try simp only [Ex.thnH, Ex.inBlockH, ↓reduceIte, Nat.reduceEqDiff]
                    refine hK3 _ _ ?_; try clear hK3 K3
                    refine CW_seq (fun K16 hK16 => ?_)
                    refine CW_region ?_
                    refine OW_mv rfl ?_
                    refine OW_opS (fun K hK r => ?_)
                    simp only [x_callF _ bd61, List.map_toArray, List.map_cons, List.map_nil, eX, ↓reduceIte, Nat.reduceEqDiff, Int.reduceToNat]
                    refine (fail_ok _ p _ _ hr.1).mono ?_
                    rintro v48 H48 rfl
                    try simp only [eX, ↓reduceIte, Nat.reduceEqDiff, Int.reduceToNat]
                    refine hK _ _ ?_; clear hK K
                    refine OW_nil ?_
                    try simp only [Ex.thnH, Ex.inBlockH, ↓reduceIte, Nat.reduceEqDiff]
                    refine hK16 _ _ ?_; try clear hK16 K16
                    refine CW_seq (fun K17 hK17 => ?_)
                    refine CW_region ?_
                    refine OW_as rfl ?_
                    refine OW_nil ?_
                    try simp only [Ex.thnH, Ex.inBlockH, ↓reduceIte, Nat.reduceEqDiff]
                    refine hK17 _ _ ?_; try clear hK17 K17
                    refine CW_ret ?_
                    try simp only [Ex.thnH, Ex.inBlockH, ↓reduceIte, Nat.reduceEqDiff]
                    exfalso; simp_all
                · first
                  | (exfalso; exact cnA c34; done)
                  | skip
                    (try simp only [decide_eq_true_eq, decide_eq_false_iff_not, Bool.not_eq_true, Bool.not_eq_false, Bool.and_eq_true, Bool.or_eq_true, Bool.or_eq_false_iff, Bool.not_eq_true, Bool.not_eq_eq_eq_not, Bool.not_true, Bool.not_false] at c34)
                    refine CW_skip ?_
                    try simp only [Ex.thnH, Ex.inBlockH, ↓reduceIte, Nat.reduceEqDiff]
                    refine hK14 _ _ ?_; try clear hK14 K14
                    refine CW_seq (fun K18 hK18 => ?_)
                    refine CW_region ?_
                    refine OW_mv rfl ?_
                    refine OW_mv rfl ?_
                    refine OW_opS (fun K hK r => ?_)
                    simp only [x_bin, g_int, b_and, eX, ↓reduceIte, Nat.reduceEqDiff, Int.reduceToNat]
                    refine hK _ _ ?_; clear hK K
                    refine OW_opS (fun K hK r => ?_)
                    simp (disch := (first | omega | decide)) only [x_convert, c_int _ _ _ _ Try.underlying5 Try.underlying60, wrap_i64, wrap_u64, wrap_u32, wrap_u8, eX, ↓reduceIte, Nat.reduceEqDiff, Int.reduceToNat]
                    refine hK _ _ ?_; clear hK K
                    refine OW_mv rfl ?_
                    refine OW_opS (fun K hK r => ?_)
                    simp (disch := (first | omega | decide)) only [x_bin, g_int, b_mul, wrap_i64, wrap_u64, wrap_u32, wrap_u8, eX, ↓reduceIte, Nat.reduceEqDiff, Int.reduceToNat]
                    refine hK _ _ ?_; clear hK K
                    refine OW_opS (fun K hK r => ?_)
                    simp (disch := (first | omega | decide)) only [x_bin, g_int, b_shl, wrap_i64, wrap_u64, wrap_u32, wrap_u8, eX, ↓reduceIte, Nat.reduceEqDiff, Int.reduceToNat]
                    refine hK _ _ ?_; clear hK K
                    refine OW_opS (fun K hK r => ?_)
                    simp only [x_bin, g_int, b_or, eX, ↓reduceIte, Nat.reduceEqDiff, Int.reduceToNat]
                    refine hK _ _ ?_; clear hK K
                    refine OW_as rfl ?_
                    refine OW_nil ?_
                    try simp only [Ex.thnH, Ex.inBlockH, ↓reduceIte, Nat.reduceEqDiff]
                    refine hK18 _ _ ?_; try clear hK18 K18
                    refine CW_seq (fun K19 hK19 => ?_)
                    refine CW_region ?_
                    refine OW_mv rfl ?_
                    refine OW_opS (fun K hK r => ?_)
                    simp (disch := (first | omega | decide)) only [x_bin, g_int, b_lss, dec_lt_t, dec_lt_f, dec_le_t, dec_le_f, dec_eq_t, dec_eq_f, Bool.not_true, Bool.not_false, eX, ↓reduceIte, Nat.reduceEqDiff, Int.reduceToNat]
                    refine hK _ _ ?_; clear hK K
                    refine OW_nil ?_
                    try simp only [Ex.thnH, Ex.inBlockH, ↓reduceIte, Nat.reduceEqDiff]
                    refine hK19 _ _ ?_; try clear hK19 K19
                    refine CW_cond (fun r => rfl) (fun c44 => ?_) (fun c44 => ?_)
                    · first
                      | (exfalso; exact cnA c44; done)
                      | skip
                        (try simp only [decide_eq_true_eq, decide_eq_false_iff_not, Bool.not_eq_true, Bool.not_eq_false, Bool.and_eq_true, Bool.or_eq_true, Bool.or_eq_false_iff, Bool.not_eq_true, Bool.not_eq_eq_eq_not, Bool.not_true, Bool.not_false] at c44)
                        refine CW_seq (fun K20 hK20 => ?_)
                        refine CW_region ?_
                        refine OW_mv rfl ?_
                        refine OW_as rfl ?_
                        refine OW_nil ?_
                        try simp only [Ex.thnH, Ex.inBlockH, ↓reduceIte, Nat.reduceEqDiff]
                        refine hK20 _ _ ?_; try clear hK20 K20
                        refine CW_ret ?_
                        try simp only [Ex.thnH, Ex.inBlockH, ↓reduceIte, Nat.reduceEqDiff]
                        exfalso; simp_all
                    · first
                      | (exfalso; exact cnA c44; done)
                      | skip
                        (try simp only [decide_eq_true_eq, decide_eq_false_iff_not, Bool.not_eq_true, Bool.not_eq_false, Bool.and_eq_true, Bool.or_eq_true, Bool.or_eq_false_iff, Bool.not_eq_true, Bool.not_eq_eq_eq_not, Bool.not_true, Bool.not_false] at c44)
                        refine CW_skip ?_
                        try simp only [Ex.thnH, Ex.inBlockH, ↓reduceIte, Nat.reduceEqDiff]
                        refine hK7 _ _ ?_; try clear hK7 K7
                        refine CW_region ?_
                        refine OW_opS (fun K hK r => ?_)
                        simp (disch := (first | omega | decide)) only [x_bin, g_int, b_add, wrap_i64, wrap_u64, wrap_u32, wrap_u8, eX, ↓reduceIte, Nat.reduceEqDiff, Int.reduceToNat]
                        refine hK _ _ ?_; clear hK K
                        refine OW_mv rfl ?_
                        refine OW_nil ?_
                        try simp only [Ex.thnH, Ex.inBlockH, ↓reduceIte, Nat.reduceEqDiff]
                        exfalso; simp_all
  · first
    | (exfalso; exact cnA c9; done)
    | skip
      (try simp only [decide_eq_true_eq, decide_eq_false_iff_not, Bool.not_eq_true, Bool.not_eq_false, Bool.and_eq_true, Bool.or_eq_true, Bool.or_eq_false_iff, Bool.not_eq_true, Bool.not_eq_eq_eq_not, Bool.not_true, Bool.not_false] at c9)
      refine CW_exit ?_
      try simp only [Ex.thnH, Ex.inBlockH, ↓reduceIte, Nat.reduceEqDiff]
      refine hK3 _ _ ?_; try clear hK3 K3
      refine CW_seq (fun K21 hK21 => ?_)
      refine CW_region ?_
      refine OW_mv rfl ?_
      refine OW_opS (fun K hK r => ?_)
      simp only [x_callF _ bd61, List.map_toArray, List.map_cons, List.map_nil, eX, ↓reduceIte, Nat.reduceEqDiff, Int.reduceToNat]
      refine (fail_ok _ p _ _ hr.1).mono ?_
      rintro v48 H48 rfl
      try simp only [eX, ↓reduceIte, Nat.reduceEqDiff, Int.reduceToNat]
      refine hK _ _ ?_; clear hK K
      refine OW_nil ?_
      try simp only [Ex.thnH, Ex.inBlockH, ↓reduceIte, Nat.reduceEqDiff]
      refine hK21 _ _ ?_; try clear hK21 K21
      refine CW_seq (fun K22 hK22 => ?_)
      refine CW_region ?_
      refine OW_as rfl ?_
      refine OW_nil ?_
      try simp only [Ex.thnH, Ex.inBlockH, ↓reduceIte, Nat.reduceEqDiff]
      refine hK22 _ _ ?_; try clear hK22 K22
      refine CW_ret ?_
      try simp only [Ex.thnH, Ex.inBlockH, ↓reduceIte, Nat.reduceEqDiff]
      exfalso; simp_all

end Go.Proofs.Ytlkopcgoaldpeaa.HL
end
section
namespace Go.Proofs.Ytlkopcgoaldpeaa.HL
open Go Go.Proofs
set_option linter.unusedSimpArgs false
set_option linter.unusedVariables false
attribute [local irreducible] Lt Lq CW OW TW CallH


theorem upd_id {H : Hp} {b : Nat} {o : Obj} (h : H b = some o) : H.upd b o = H := by
  funext x; by_cases e : x = b
  · subst e; rw [upd_same, h]
  · rw [upd_ne _ _ e]
def SameB (a a' : Option Addr) : Prop := ∀ A, a' = some A → ∃ A0, a = some A0 ∧ A0.block = A.block
theorem SameB.refl (a : Option Addr) : SameB a a := fun A h => ⟨A, h, rfl⟩
theorem SameB.none (a : Option Addr) : SameB a none := fun A h => by cases h
theorem SameB.trans {a b c : Option Addr} (h : SameB a b) (k : SameB b c) : SameB a c := fun A e => by
  obtain ⟨B, h1, h2⟩ := k A e
  obtain ⟨C, h3, h4⟩ := h B h1
  exact ⟨C, h3, h4.trans h2⟩
theorem take_all (H : Hp) (p : Nat) (a : Option Addr) (cap : Nat) (l : List Int) (hr : RD H p a cap l false) (n : Nat) (hl : l.length ≤ 10000000) : CallH Try.prog 60 #[.pointer (some ⟨p, 0, none⟩), .int .u64 n] H (fun v H' => ∃ w ok, v = .tuple #[w, .bool ok] ∧ (ok = false → l.length < n ∧ w = .slice none 0 0 ∧ H' = rst H p none 0 0 true) ∧ (ok = true → n ≤ l.length ∧ ∃ a0 a1, w = .slice a0 n n ∧ H' = rst H p a1 (l.length - n) (cap - n) false ∧ RD H' p a1 (cap - n) (l.drop n) false ∧ Holds H' 1 (.slice a0 n n) n (u8s (l.take n)) ∧ (∀ B o, a = some ⟨B, o, none⟩ → a0 = some ⟨B, o, none⟩ ∧ (n < l.length → a1 = some ⟨B, o + n, none⟩)) ∧ SameB a a1)) := by
  by_cases hn : n ≤ l.length
  · refine (take_ok H p a cap l hr n hn hl).mono ?_
    rintro v H' ⟨a0, a1, rfl, h⟩
    exact ⟨_, true, rfl, (fun h => by cases h), fun _ => ⟨hn, a0, a1, rfl, h⟩⟩
  · refine (take_few H p a cap l hr n (by omega) hl).mono ?_
    rintro v H' ⟨rfl, rfl⟩
    exact ⟨_, false, rfl, (fun _ => ⟨by omega, rfl, rfl⟩), (fun h => by cases h)⟩

set_option maxRecDepth 100000 in
set_option maxHeartbeats 4000000 in
theorem rCount_ok (H : Hp) (p : Nat) (a : Option Addr) (cap : Nat) (l : List Int) (hr : RD H p a cap l false) (hB : ByteL l) (hl : l.length ≤ 10000000) : CallH Try.prog 53 #[.pointer (some ⟨p, 0, none⟩)] H (fun v H' => ∃ res, RC l res ∧ v = .int .u64 (rcN res) ∧ ∃ a' cap', RD H' p a' cap' (rcL res) res.isNone ∧ (∃ o, H' = H.upd p o) ∧ SameB a a') := by
  refine CallH_enter (l := [_]) (rl := [.tmp 2]) (n := 49) Try.func53 rfl rfl rfl rfl rfl ?_
  simp only [envOf, Nat.reduceAdd]
  refine CW_seq (fun K1 hK1 => ?_)
  refine CW_region ?_
  refine OW_as rfl ?_
  refine OW_nil ?_
  try simp only [Ex.thnH, Ex.inBlockH, ↓reduceIte, Nat.reduceEqDiff]
  refine hK1 _ _ ?_; try clear hK1 K1
  refine CW_seq (fun K2 hK2 => ?_)
  refine CW_region ?_
  refine OW_as rfl ?_
  refine OW_nil ?_
  try simp only [Ex.thnH, Ex.inBlockH, ↓reduceIte, Nat.reduceEqDiff]
  refine hK2 _ _ ?_; try clear hK2 K2
  refine CW_seq (fun K3 hK3 => ?_)
  refine CW_seq (fun K4 hK4 => ?_)
  refine CW_region ?_
  refine OW_mv rfl ?_
  refine OW_nil ?_
  try simp only [Ex.thnH, Ex.inBlockH, ↓reduceIte, Nat.reduceEqDiff]
  refine hK4 _ _ ?_; try clear hK4 K4
  refine CW_block ?_
  refine CW_loop (fun m e H_ => ∃ (s rest : List Int) (a1 : Option Addr) (cap1 : Nat), m = 10 - s.length ∧ l = s ++ rest ∧ Big1 s ∧ s.length ≤ 9 ∧ RD H_ p a1 cap1 rest false ∧ (∃ o, H_ = H.upd p o) ∧ SameB a a1 ∧ Env.has [(0, .pointer (some ⟨p, 0, none⟩)), (3, .int .u64 (valL s)), (8, .int .i64 s.length)] e) (10) ?_ ?_
  · skip
    exact ⟨[], l, a, cap, rfl, rfl, Big1.nil, by simp, hr, ⟨_, (upd_id hr.1).symm⟩, SameB.refl _, rfl, rfl, rfl, trivial⟩
  intro m_ e_ H_ hI_
  obtain ⟨s, rest, a1, cap1, rfl, rfl, hs, hs9, hr1, ⟨o1, rfl⟩, hsb, he⟩ := hI_
  refine CW_env he.sub ?_; clear he e_
  have hlr : rest.length ≤ 10000000 := by simp at hl; omega
  refine CW_seq (fun K5 hK5 => ?_)
  refine CW_region ?_
  refine OW_opS (fun K hK r => ?_)
  simp (disch := (first | omega | decide)) only [x_bin, g_int, b_lss, dec_lt_t, dec_lt_f, dec_le_t, dec_le_f, dec_eq_t, dec_eq_f, Bool.not_true, Bool.not_false, eX, ↓reduceIte, Nat.reduceEqDiff, Int.reduceToNat]
  refine hK _ _ ?_; clear hK K
  refine OW_nil ?_
  try simp only [Ex.thnH, Ex.inBlockH, ↓reduceIte, Nat.reduceEqDiff]
  refine hK5 _ _ ?_; try clear hK5 K5
  refine CW_seq (fun K6 hK6 => ?_)
  refine CW_cond (fun r => rfl) (fun c9 => ?_) (fun c9 => ?_)
  · first
    | (exfalso; exact cnA c9; done)
    | skip
      (try simp only [decide_eq_true_eq, decide_eq_false_iff_not, Bool.not_eq_true, Bool.not_eq_false, Bool.and_eq_true, Bool.or_eq_true, Bool.or_eq_false_iff, Bool.not_eq_true, Bool.not_eq_eq_eq_not, Bool.not_true, Bool.not_false] at c9)
      refine CW_skip ?_
      try simp only [Ex.thnH, Ex.inBlockH, ↓reduceIte, Nat.reduceEqDiff]
      refine hK6 _ _ ?_; try clear hK6 K6
      refine CW_seq (fun K7 hK7 => ?_)
      refine CW_block ?_
      refine CW_seq (fun K8 hK8 => ?_)
      refine CW_region ?_
      refine OW_mv rfl ?_
      refine OW_as rfl ?_
      refine OW_nil ?_
      try simp only [Ex.thnH, Ex.inBlockH, ↓reduceIte, Nat.reduceEqDiff]
      refine hK8 _ _ ?_; try clear hK8 K8
      refine CW_seq (fun K9 hK9 => ?_)
      refine CW_region ?_
      refine OW_mv rfl ?_
      refine OW_opS (fun K hK r => ?_)
      simp only [x_callF _ bd60, List.map_toArray, List.map_cons, List.map_nil, eX, ↓reduceIte, Nat.reduceEqDiff, Int.reduceToNat]
      refine (take_all _ p a1 cap1 rest hr1 1 hlr).mono ?_
      rintro v13 H13 ⟨w13, ok, rfl, hno, hyes⟩
      try simp only [eX, ↓reduceIte, Nat.reduceEqDiff, Int.reduceToNat]
      refine hK _ _ ?_; clear hK K
      refine OW_mv rfl ?_
      refine OW_opS (fun K hK r => ?_)
      simp only [x_extract, i_extract, List.getElem?_toArray, List.getElem?_cons_zero, List.getElem?_cons_succ, orF_some, eX, ↓reduceIte, Nat.reduceEqDiff, Int.reduceToNat]
      refine hK _ _ ?_; clear hK K
      refine OW_opS (fun K hK r => ?_)
      simp only [x_extract, i_extract, List.getElem?_toArray, List.getElem?_cons_zero, List.getElem?_cons_succ, orF_some, eX, ↓reduceIte, Nat.reduceEqDiff, Int.reduceToNat]
      refine hK _ _ ?_; clear hK K
      refine OW_as rfl ?_
      refine OW_as rfl ?_
      refine OW_nil ?_
      try simp only [Ex.thnH, Ex.inBlockH, ↓reduceIte, Nat.reduceEqDiff]
      refine hK9 _ _ ?_; try clear hK9 K9
      refine CW_seq (fun K10 hK10 => ?_)
      refine CW_seq (fun K11 hK11 => ?_)
      refine CW_region ?_
      refine OW_mv rfl ?_
      refine OW_opS (fun K hK r => ?_)
      simp only [x_un, u_not, eX, ↓reduceIte, Nat.reduceEqDiff, Int.reduceToNat]
      refine hK _ _ ?_; clear hK K
      refine OW_nil ?_
      try simp only [Ex.thnH, Ex.inBlockH, ↓reduceIte, Nat.reduceEqDiff]
      refine hK11 _ _ ?_; try clear hK11 K11
      refine CW_cond (fun r => rfl) (fun c17 => ?_) (fun c17 => ?_)
      · first
        | (exfalso; exact cnA c17; done)
        | skip
          (try simp only [decide_eq_true_eq, decide_eq_false_iff_not, Bool.not_eq_true, Bool.not_eq_false, Bool.and_eq_true, Bool.or_eq_true, Bool.or_eq_false_iff, Bool.not_eq_true, Bool.not_eq_eq_eq_not, Bool.not_true, Bool.not_false] at c17)
          obtain ⟨hfew, rfl, hH13⟩ := hno (by first | assumption | simp_all)
          subst hH13
          have hre : rest = [] := List.eq_nil_of_length_eq_zero (by omega)
          subst hre
          refine CW_seq (fun K12 hK12 => ?_)
          refine CW_region ?_
          refine OW_as rfl ?_
          refine OW_nil ?_
          try simp only [Ex.thnH, Ex.inBlockH, ↓reduceIte, Nat.reduceEqDiff]
          refine hK12 _ _ ?_; try clear hK12 K12
          refine CW_ret ?_
          try simp only [Ex.thnH, Ex.inBlockH, ↓reduceIte, Nat.reduceEqDiff]
          exact ⟨[_], ⟨rfl, trivial⟩, _, Le.refl _, none, by rw [List.append_nil]; exact RC_end hs, rfl, none, 0, RD.bad _ _, ⟨_, (by first | rfl | exact upd_upd _ _ _ _)⟩, SameB.none _⟩
      · first
        | (exfalso; exact cnA c17; done)
        | skip
          (try simp only [decide_eq_true_eq, decide_eq_false_iff_not, Bool.not_eq_true, Bool.not_eq_false, Bool.and_eq_true, Bool.or_eq_true, Bool.or_eq_false_iff, Bool.not_eq_true, Bool.not_eq_eq_eq_not, Bool.not_true, Bool.not_false] at c17)
          obtain ⟨hge, a0, a13, rfl, hH13, hr13, hx13, hpos, hsb13⟩ := hyes (by first | assumption | simp_all)
          obtain ⟨c, t, rfl⟩ : ∃ c t, rest = c :: t := by
            cases rest with
            | nil => simp at hge
            | cons c t => exact ⟨c, t, rfl⟩
          simp only [List.drop_succ_cons, List.drop_zero, List.take_succ_cons, List.take_zero] at hr13 hx13
          have hcB : 0 ≤ c ∧ c ≤ 255 := by have := hB c (by simp); omega
          have hc255 := hcB.2
          obtain ⟨bI, oI, qI, TI, FI, rfl, hbI, hsI, atI⟩ := hx13.at (by omega)
          refine CW_skip ?_
          try simp only [Ex.thnH, Ex.inBlockH, ↓reduceIte, Nat.reduceEqDiff]
          refine hK10 _ _ ?_; try clear hK10 K10
          refine CW_seq (fun K13 hK13 => ?_)
          refine CW_region ?_
          refine OW_mv rfl ?_
          refine OW_opS (fun K hK r => ?_)
          simp only [x_indexAddr, eX, ↓reduceIte, Nat.reduceEqDiff, Int.reduceToNat]
          refine Lt_indexS Try.underlying33 sz5 ixA ixA ?_
          try simp only [add_mk, Nat.mul_one, Nat.zero_add, Int.reduceToNat]
          try simp only [eX, ↓reduceIte, Nat.reduceEqDiff, Int.reduceToNat]
          refine hK _ _ ?_; clear hK K
          refine OW_opS (fun K hK r => ?_)
          simp only [x_load, eX, ↓reduceIte, Nat.reduceEqDiff, Int.reduceToNat]
          refine Lt_loadAt1 Try.underlying5 rfl hbI (v := .int .u8 c) (by have := atI 0 (by simp); simpa using this) ?_
          refine hK _ _ ?_; clear hK K
          refine OW_as rfl ?_
          refine OW_nil ?_
          try simp only [Ex.thnH, Ex.inBlockH, ↓reduceIte, Nat.reduceEqDiff]
          refine hK13 _ _ ?_; try clear hK13 K13
          refine CW_seq (fun K14 hK14 => ?_)
          refine CW_seq (fun K15 hK15 => ?_)
          refine CW_region ?_
          refine OW_mv rfl ?_
          refine OW_opS (fun K hK r => ?_)
          simp (disch := (first | omega | decide)) only [x_bin, g_int, b_eql, dec_lt_t, dec_lt_f, dec_le_t, dec_le_f, dec_eq_t, dec_eq_f, Bool.not_true, Bool.not_false, eX, ↓reduceIte, Nat.reduceEqDiff, Int.reduceToNat]
          refine hK _ _ ?_; clear hK K
          refine OW_mv rfl ?_
          (first | refine OW_split (d := 23) rfl (fun g23 => ?_) (fun g23 => ?_) | skip)
          all_goals try (exfalso; exact cnA g23)
          all_goals (try simp only [decide_eq_true_eq, decide_eq_false_iff_not, Bool.not_eq_true, Bool.not_eq_false, Bool.and_eq_true, Bool.or_eq_true, Bool.or_eq_false_iff, Bool.not_eq_true, Bool.not_eq_eq_eq_not, Bool.not_true, Bool.not_false] at g23)
          all_goals
            try simp only [eX, ↓reduceIte, Nat.reduceEqDiff, Int.reduceToNat]
            first
            | refine OW_guardT rfl (lt_some (by decide)) rfl (fun K hK r => ?_)
              simp only [x_move, eX, ↓reduceIte, Nat.reduceEqDiff, Int.reduceToNat]
              refine hK _ _ ?_; clear hK K
            | refine OW_guardF rfl (lt_some (by decide)) rfl ?_
              simp only [eX, ↓reduceIte, Nat.reduceEqDiff, Int.reduceToNat]
            first
            | refine OW_guardT rfl (lt_some (by decide)) rfl (fun K hK r => ?_)
              simp (disch := (first | omega | decide)) only [x_bin, g_int, b_gtr, dec_lt_t, dec_lt_f, dec_le_t, dec_le_f, dec_eq_t, dec_eq_f, Bool.not_true, Bool.not_false, eX, ↓reduceIte, Nat.reduceEqDiff, Int.reduceToNat]
              refine hK _ _ ?_; clear hK K
            | refine OW_guardF rfl (lt_some (by decide)) rfl ?_
              simp only [eX, ↓reduceIte, Nat.reduceEqDiff, Int.reduceToNat]
            refine OW_opS (fun K hK r => ?_)
            simp only [x_pick, l_asBool, HL.ite_bool, if_true, if_false, Bool.false_eq_true, eX, ↓reduceIte, Nat.reduceEqDiff, Int.reduceToNat]
            refine hK _ _ ?_; clear hK K
            refine OW_mv rfl ?_
            (first | refine OW_split (d := 27) rfl (fun g27 => ?_) (fun g27 => ?_) | skip)
            all_goals try (exfalso; exact cnA g27)
            all_goals (try simp only [decide_eq_true_eq, decide_eq_false_iff_not, Bool.not_eq_true, Bool.not_eq_false, Bool.and_eq_true, Bool.or_eq_true, Bool.or_eq_false_iff, Bool.not_eq_true, Bool.not_eq_eq_eq_not, Bool.not_true, Bool.not_false] at g27)
            all_goals
              try simp only [eX, ↓reduceIte, Nat.reduceEqDiff, Int.reduceToNat]
              first
              | refine OW_guardT rfl (lt_some (by decide)) rfl (fun K hK r => ?_)
                simp only [x_move, eX, ↓reduceIte, Nat.reduceEqDiff, Int.reduceToNat]
                refine hK _ _ ?_; clear hK K
              | refine OW_guardF rfl (lt_some (by decide)) rfl ?_
                simp only [eX, ↓reduceIte, Nat.reduceEqDiff, Int.reduceToNat]
              first
              | refine OW_guardT rfl (lt_some (by decide)) rfl (fun K hK r => ?_)
                simp (disch := (first | omega | decide)) only [x_bin, g_int, b_gtr, dec_lt_t, dec_lt_f, dec_le_t, dec_le_f, dec_eq_t, dec_eq_f, Bool.not_true, Bool.not_false, eX, ↓reduceIte, Nat.reduceEqDiff, Int.reduceToNat]
                refine hK _ _ ?_; clear hK K
              | refine OW_guardF rfl (lt_some (by decide)) rfl ?_
                simp only [eX, ↓reduceIte, Nat.reduceEqDiff, Int.reduceToNat]
              first
              | refine OW_guardT rfl (lt_some (by decide)) rfl (fun K hK r => ?_)
                simp only [x_move, eX, ↓reduceIte, Nat.reduceEqDiff, Int.reduceToNat]
                refine hK _ _ ?_; clear hK K
              | refine OW_guardF rfl (lt_some (by decide)) rfl ?_
                simp only [eX, ↓reduceIte, Nat.reduceEqDiff, Int.reduceToNat]
              (first | refine OW_split (d := 30) rfl (fun g30 => ?_) (fun g30 => ?_) | skip)
              all_goals try (exfalso; exact cnA g30)
              all_goals (try simp only [decide_eq_true_eq, decide_eq_false_iff_not, Bool.not_eq_true, Bool.not_eq_false, Bool.and_eq_true, Bool.or_eq_true, Bool.or_eq_false_iff, Bool.not_eq_true, Bool.not_eq_eq_eq_not, Bool.not_true, Bool.not_false] at g30)
              all_goals
                try simp only [eX, ↓reduceIte, Nat.reduceEqDiff, Int.reduceToNat]
                first
                | refine OW_guardT rfl (lt_some (by decide)) rfl (fun K hK r => ?_)
                  simp only [x_move, eX, ↓reduceIte, Nat.reduceEqDiff, Int.reduceToNat]
                  refine hK _ _ ?_; clear hK K
                | refine OW_guardF rfl (lt_some (by decide)) rfl ?_
                  simp only [eX, ↓reduceIte, Nat.reduceEqDiff, Int.reduceToNat]
                first
                | refine OW_guardT rfl (lt_some (by decide)) rfl (fun K hK r => ?_)
                  simp (disch := (first | omega | decide)) only [x_bin, g_int, b_eql, dec_lt_t, dec_lt_f, dec_le_t, dec_le_f, dec_eq_t, dec_eq_f, Bool.not_true, Bool.not_false, eX, ↓reduceIte, Nat.reduceEqDiff, Int.reduceToNat]
                  refine hK _ _ ?_; clear hK K
                | refine OW_guardF rfl (lt_some (by decide)) rfl ?_
                  simp only [eX, ↓reduceIte, Nat.reduceEqDiff, Int.reduceToNat]
                first
                | refine OW_guardT rfl (lt_some (by decide)) rfl (fun K hK r => ?_)
                  simp only [x_pick, l_asBool, HL.ite_bool, if_true, if_false, Bool.false_eq_true, eX, ↓reduceIte, Nat.reduceEqDiff, Int.reduceToNat]
                  refine hK _ _ ?_; clear hK K
                | refine OW_guardF rfl (lt_some (by decide)) rfl ?_
                  simp only [eX, ↓reduceIte, Nat.reduceEqDiff, Int.reduceToNat]
                refine OW_opS (fun K hK r => ?_)
                simp only [x_pick, l_asBool, HL.ite_bool, if_true, if_false, Bool.false_eq_true, eX, ↓reduceIte, Nat.reduceEqDiff, Int.reduceToNat]
                refine hK _ _ ?_; clear hK K
                refine OW_nil ?_
                try simp only [Ex.thnH, Ex.inBlockH, ↓reduceIte, Nat.reduceEqDiff]
                refine hK15 _ _ ?_; try clear hK15 K15
                refine CW_cond (fun r => rfl) (fun c34 => ?_) (fun c34 => ?_)
                · first
                  | (exfalso; exact cnA c34; done)
                  | skip
                    have hnone : RC (s ++ c :: t) none := by
                      by_cases h9 : s.length = 9 ∧ 1 < c
                      · exact RC_over hs h9.1 h9.2 hc255
                      · have h0 : 0 < s.length ∧ c = 0 := by (try simp only [decide_eq_true_eq, decide_eq_false_iff_not, Bool.not_eq_true, Bool.not_eq_false, Bool.and_eq_true, Bool.or_eq_true, Bool.or_eq_false_iff, Bool.not_eq_true, Bool.not_eq_eq_eq_not, Bool.not_true, Bool.not_false] at c34); first | omega | (simp_all; done) | (simp_all; omega)
                        rw [h0.2]
                        exact RC_zero hs (fun e => by rw [e] at h0; simp at h0)
                    refine CW_exit ?_
                    try simp only [Ex.thnH, Ex.inBlockH, ↓reduceIte, Nat.reduceEqDiff]
                    refine hK3 _ _ ?_; try clear hK3 K3
                    refine CW_seq (fun K16 hK16 => ?_)
                    refine CW_region ?_
                    refine OW_mv rfl ?_
                    refine OW_opS (fun K hK r => ?_)
                    simp only [x_callF _ bd61, List.map_toArray, List.map_cons, List.map_nil, eX, ↓reduceIte, Nat.reduceEqDiff, Int.reduceToNat]
                    refine (fail_ok _ p _ _ hr13.1).mono ?_
                    rintro v48 H48 rfl
                    rw [hH13]
                    try simp only [eX, ↓reduceIte, Nat.reduceEqDiff, Int.reduceToNat]
                    refine hK _ _ ?_; clear hK K
                    refine OW_nil ?_
                    try simp only [Ex.thnH, Ex.inBlockH, ↓reduceIte, Nat.reduceEqDiff]
                    refine hK16 _ _ ?_; try clear hK16 K16
                    refine CW_seq (fun K17 hK17 => ?_)
                    refine CW_region ?_
                    refine OW_as rfl ?_
                    refine OW_nil ?_
                    try simp only [Ex.thnH, Ex.inBlockH, ↓reduceIte, Nat.reduceEqDiff]
                    refine hK17 _ _ ?_; try clear hK17 K17
                    refine CW_ret ?_
                    try simp only [Ex.thnH, Ex.inBlockH, ↓reduceIte, Nat.reduceEqDiff]
                    exact ⟨[_], ⟨rfl, trivial⟩, _, Le.refl _, none, hnone, rfl, none, 0, RD.bad _ _, ⟨_, (by first | rfl | exact upd_upd _ _ _ _)⟩, SameB.none _⟩
                · first
                  | (exfalso; exact cnA c34; done)
                  | skip
                    have hgo : (s.length = 9 → c ≤ 1) ∧ (0 < s.length → c ≠ 0) := by (try simp only [decide_eq_true_eq, decide_eq_false_iff_not, Bool.not_eq_true, Bool.not_eq_false, Bool.and_eq_true, Bool.or_eq_true, Bool.or_eq_false_iff, Bool.not_eq_true, Bool.not_eq_eq_eq_not, Bool.not_true, Bool.not_false] at c34); first | omega | (simp_all; done) | (simp_all; omega)
                    have hacc := shl_acc (p := s) hcB.1 hcB.2 hs9 hgo.1
                    refine CW_skip ?_
                    try simp only [Ex.thnH, Ex.inBlockH, ↓reduceIte, Nat.reduceEqDiff]
                    refine hK14 _ _ ?_; try clear hK14 K14
                    refine CW_seq (fun K18 hK18 => ?_)
                    refine CW_region ?_
                    refine OW_mv rfl ?_
                    refine OW_mv rfl ?_
                    refine OW_opS (fun K hK r => ?_)
                    simp only [x_bin, g_int, b_and, eX, ↓reduceIte, Nat.reduceEqDiff, Int.reduceToNat]
                    rw [and127 hcB.1 hcB.2]
                    refine hK _ _ ?_; clear hK K
                    refine OW_opS (fun K hK r => ?_)
                    simp (disch := (first | omega | decide)) only [x_convert, c_int _ _ _ _ Try.underlying5 Try.underlying60, wrap_i64, wrap_u64, wrap_u32, wrap_u8, eX, ↓reduceIte, Nat.reduceEqDiff, Int.reduceToNat]
                    refine hK _ _ ?_; clear hK K
                    refine OW_mv rfl ?_
                    refine OW_opS (fun K hK r => ?_)
                    simp (disch := (first | omega | decide)) only [x_bin, g_int, b_mul, wrap_i64, wrap_u64, wrap_u32, wrap_u8, eX, ↓reduceIte, Nat.reduceEqDiff, Int.reduceToNat]
                    refine hK _ _ ?_; clear hK K
                    refine OW_opS (fun K hK r => ?_)
                    simp (disch := (first | omega | decide)) only [x_bin, g_int, b_shl, wrap_i64, wrap_u64, wrap_u32, wrap_u8, eX, ↓reduceIte, Nat.reduceEqDiff, Int.reduceToNat]
                    refine hK _ _ ?_; clear hK K
                    refine OW_opS (fun K hK r => ?_)
                    simp only [x_bin, g_int, b_or, eX, ↓reduceIte, Nat.reduceEqDiff, Int.reduceToNat]
                    rw [hacc.1]
                    refine hK _ _ ?_; clear hK K
                    refine OW_as rfl ?_
                    refine OW_nil ?_
                    try simp only [Ex.thnH, Ex.inBlockH, ↓reduceIte, Nat.reduceEqDiff]
                    refine hK18 _ _ ?_; try clear hK18 K18
                    refine CW_seq (fun K19 hK19 => ?_)
                    refine CW_region ?_
                    refine OW_mv rfl ?_
                    refine OW_opS (fun K hK r => ?_)
                    simp (disch := (first | omega | decide)) only [x_bin, g_int, b_lss, dec_lt_t, dec_lt_f, dec_le_t, dec_le_f, dec_eq_t, dec_eq_f, Bool.not_true, Bool.not_false, eX, ↓reduceIte, Nat.reduceEqDiff, Int.reduceToNat]
                    refine hK _ _ ?_; clear hK K
                    refine OW_nil ?_
                    try simp only [Ex.thnH, Ex.inBlockH, ↓reduceIte, Nat.reduceEqDiff]
                    refine hK19 _ _ ?_; try clear hK19 K19
                    refine CW_cond (fun r => rfl) (fun c44 => ?_) (fun c44 => ?_)
                    · first
                      | (exfalso; exact cnA c44; done)
                      | skip
                        (try simp only [decide_eq_true_eq, decide_eq_false_iff_not, Bool.not_eq_true, Bool.not_eq_false, Bool.and_eq_true, Bool.or_eq_true, Bool.or_eq_false_iff, Bool.not_eq_true, Bool.not_eq_eq_eq_not, Bool.not_true, Bool.not_false] at c44)
                        refine CW_seq (fun K20 hK20 => ?_)
                        refine CW_region ?_
                        refine OW_mv rfl ?_
                        refine OW_as rfl ?_
                        refine OW_nil ?_
                        try simp only [Ex.thnH, Ex.inBlockH, ↓reduceIte, Nat.reduceEqDiff]
                        refine hK20 _ _ ?_; try clear hK20 K20
                        refine CW_ret ?_
                        try simp only [Ex.thnH, Ex.inBlockH, ↓reduceIte, Nat.reduceEqDiff]
                        have hlt : c < 128 := by first | assumption | omega
                        exact ⟨[_], ⟨rfl, trivial⟩, _, Le.refl _, some (valL (s ++ [c]), t), RC_good hs hcB.1 hlt (by
                          by_cases h0 : s = []
                          · exact .inl h0
                          · exact .inr (hgo.2 (len_pos h0))) hacc.2, rfl, _, _, hr13, ⟨_, hH13.trans (upd_upd _ _ _ _)⟩, hsb.trans hsb13⟩
                    · first
                      | (exfalso; exact cnA c44; done)
                      | skip
                        (try simp only [decide_eq_true_eq, decide_eq_false_iff_not, Bool.not_eq_true, Bool.not_eq_false, Bool.and_eq_true, Bool.or_eq_true, Bool.or_eq_false_iff, Bool.not_eq_true, Bool.not_eq_eq_eq_not, Bool.not_true, Bool.not_false] at c44)
                        refine CW_skip ?_
                        try simp only [Ex.thnH, Ex.inBlockH, ↓reduceIte, Nat.reduceEqDiff]
                        refine hK7 _ _ ?_; try clear hK7 K7
                        refine CW_region ?_
                        refine OW_opS (fun K hK r => ?_)
                        simp (disch := (first | omega | decide)) only [x_bin, g_int, b_add, wrap_i64, wrap_u64, wrap_u32, wrap_u8, eX, ↓reduceIte, Nat.reduceEqDiff, Int.reduceToNat]
                        refine hK _ _ ?_; clear hK K
                        refine OW_mv rfl ?_
                        refine OW_nil ?_
                        try simp only [Ex.thnH, Ex.inBlockH, ↓reduceIte, Nat.reduceEqDiff]
                        refine ⟨10 - (s.length + 1), by omega, s ++ [c], t, a13, _, by simp, by simp, hs.snoc (by omega) hc255, ?_, hr13, ⟨_, hH13.trans (upd_upd _ _ _ _)⟩, hsb.trans hsb13, rfl, rfl, ?_, trivial⟩
                        · simp; omega
                        · show some (Value.int _ _) = some (Value.int _ _)
                          simp
  · first
    | (exfalso; exact cnA c9; done)
    | skip
      (try simp only [decide_eq_true_eq, decide_eq_false_iff_not, Bool.not_eq_true, Bool.not_eq_false, Bool.and_eq_true, Bool.or_eq_true, Bool.or_eq_false_iff, Bool.not_eq_true, Bool.not_eq_eq_eq_not, Bool.not_true, Bool.not_false] at c9)
      exfalso; omega
      refine CW_exit ?_
      try simp only [Ex.thnH, Ex.inBlockH, ↓reduceIte, Nat.reduceEqDiff]
      refine hK3 _ _ ?_; try clear hK3 K3
      refine CW_seq (fun K21 hK21 => ?_)
      refine CW_region ?_
      refine OW_mv rfl ?_
      refine OW_opS (fun K hK r => ?_)
      simp only [x_callF _ bd61, List.map_toArray, List.map_cons, List.map_nil, eX, ↓reduceIte, Nat.reduceEqDiff, Int.reduceToNat]
      refine (fail_ok _ p _ _ hr13.1).mono ?_
      rintro v48 H48 rfl
      rw [hH13]
      try simp only [eX, ↓reduceIte, Nat.reduceEqDiff, Int.reduceToNat]
      refine hK _ _ ?_; clear hK K
      refine OW_nil ?_
      try simp only [Ex.thnH, Ex.inBlockH, ↓reduceIte, Nat.reduceEqDiff]
      refine hK21 _ _ ?_; try clear hK21 K21
      refine CW_seq (fun K22 hK22 => ?_)
      refine CW_region ?_
      refine OW_as rfl ?_
      refine OW_nil ?_
      try simp only [Ex.thnH, Ex.inBlockH, ↓reduceIte, Nat.reduceEqDiff]
      refine hK22 _ _ ?_; try clear hK22 K22
      refine CW_ret ?_
      try simp only [Ex.thnH, Ex.inBlockH, ↓reduceIte, Nat.reduceEqDiff]
      exfalso; omega

end Go.Proofs.Ytlkopcgoaldpeaa.HL
end
section
namespace Go.Proofs.Ytlkopcgoaldpeaa.HL
open Go Go.Proofs
set_option linter.unusedSimpArgs false
set_option linter.unusedVariables false
attribute [local irreducible] Lt Lq CW OW TW CallH

set_option maxRecDepth 100000 in
set_option maxHeartbeats 1000000 in
theorem num_Num_nil (H : Hp) : CallH Try.prog 32 #[.nilIface] H (fun v H' => v = .int .i64 0 ∧ H' = H) := by
  refine CallH_enter (l := [_]) (rl := [.tmp 2]) (n := 45) Try.func32 rfl rfl rfl rfl rfl ?_
  simp only [envOf, Nat.reduceAdd]
  refine CW_seq (fun K1 hK1 => ?_)
  refine CW_region ?_
  refine OW_as rfl ?_
  refine OW_nil ?_
  try simp only [Ex.thnH, Ex.inBlockH, ↓reduceIte, Nat.reduceEqDiff]
  refine hK1 _ _ ?_; try clear hK1 K1
  refine CW_seq (fun K2 hK2 => ?_)
  refine CW_seq (fun K3 hK3 => ?_)
  refine CW_region ?_
  refine OW_mv rfl ?_
  refine OW_nil ?_
  try simp only [Ex.thnH, Ex.inBlockH, ↓reduceIte, Nat.reduceEqDiff]
  refine hK3 _ _ ?_; try clear hK3 K3
  refine CW_block ?_
  refine CW_loop (fun m e H_ => Env.has [(0, .nilIface), (7, .int .i64 0)] e ∧ H_ = H) (0) ?_ ?_
  · skip
    exact ⟨⟨rfl, rfl, trivial⟩, rfl⟩
  intro m_ e_ H_ hI_
  obtain ⟨he, rfl⟩ := hI_
  refine CW_env he.sub ?_; clear he e_
  refine CW_seq (fun K4 hK4 => ?_)
  refine CW_region ?_
  refine OW_opS (fun K hK r => ?_)
  simp (disch := (first | omega | decide)) only [x_bin, g_int, b_lss, dec_lt_t, dec_lt_f, dec_le_t, dec_le_f, dec_eq_t, dec_eq_f, Bool.not_true, Bool.not_false, eX, ↓reduceIte, Nat.reduceEqDiff, Int.reduceToNat]
  refine hK _ _ ?_; clear hK K
  refine OW_nil ?_
  try simp only [Ex.thnH, Ex.inBlockH, ↓reduceIte, Nat.reduceEqDiff]
  refine hK4 _ _ ?_; try clear hK4 K4
  refine CW_seq (fun K5 hK5 => ?_)
  refine CW_cond (fun r => rfl) (fun c8 => ?_) (fun c8 => ?_)
  · first
    | (exfalso; exact cnA c8; done)
    | skip
      (try simp only [decide_eq_true_eq, decide_eq_false_iff_not, Bool.not_eq_true, Bool.not_eq_false, Bool.and_eq_true, Bool.or_eq_true, Bool.or_eq_false_iff, Bool.not_eq_true, Bool.not_eq_eq_eq_not, Bool.not_true, Bool.not_false] at c8)
      refine CW_skip ?_
      try simp only [Ex.thnH, Ex.inBlockH, ↓reduceIte, Nat.reduceEqDiff]
      refine hK5 _ _ ?_; try clear hK5 K5
      refine CW_seq (fun K6 hK6 => ?_)
      refine CW_block ?_
      refine CW_seq (fun K7 hK7 => ?_)
      refine CW_seq (fun K8 hK8 => ?_)
      refine CW_region ?_
      refine OW_mv rfl ?_
      refine OW_opS (fun K hK r => ?_)
      simp only [x_bin, g_int, g_bool, g_string, g_pointer, g_slice, g_map, g_func, g_nilFunc, g_err, g_iface, g_nil_iface, g_nil_r, g_nil_l, eX, ↓reduceIte, Nat.reduceEqDiff, Int.reduceToNat]
      first | rw [b_err_eql _ _ Try.underlying35] | (rw [e_eql _ _ _ _ (by simp), q_equal]; first | rw [q_iface_nil _ _ _ Try.underlying35] | rw [q_nil_iface _ _ _ Try.underlying35] | rw [q_nil_nil _ _ _ Try.underlying35])
      try simp only [eX, ↓reduceIte, Nat.reduceEqDiff, Int.reduceToNat]
      refine hK _ _ ?_; clear hK K
      refine OW_nil ?_
      try simp only [Ex.thnH, Ex.inBlockH, ↓reduceIte, Nat.reduceEqDiff]
      refine hK8 _ _ ?_; try clear hK8 K8
      refine CW_cond (fun r => rfl) (fun c10 => ?_) (fun c10 => ?_)
      · first
        | (exfalso; exact cnA c10; done)
        | skip
          (try simp only [decide_eq_true_eq, decide_eq_false_iff_not, Bool.not_eq_true, Bool.not_eq_false, Bool.and_eq_true, Bool.or_eq_true, Bool.or_eq_false_iff, Bool.not_eq_true, Bool.not_eq_eq_eq_not, Bool.not_true, Bool.not_false] at c10)
          refine CW_seq (fun K9 hK9 => ?_)
          refine CW_region ?_
          refine OW_as rfl ?_
          refine OW_nil ?_
          try simp only [Ex.thnH, Ex.inBlockH, ↓reduceIte, Nat.reduceEqDiff]
          refine hK9 _ _ ?_; try clear hK9 K9
          refine CW_ret ?_
          try simp only [Ex.thnH, Ex.inBlockH, ↓reduceIte, Nat.reduceEqDiff]
          exact ⟨[_], ⟨rfl, trivial⟩, _, Le.refl _, rfl, rfl⟩
      · first
        | (exfalso; exact cnA c10; done)
        | skip
          (try simp only [decide_eq_true_eq, decide_eq_false_iff_not, Bool.not_eq_true, Bool.not_eq_false, Bool.and_eq_true, Bool.or_eq_true, Bool.or_eq_false_iff, Bool.not_eq_true, Bool.not_eq_eq_eq_not, Bool.not_true, Bool.not_false] at c10)
          refine CW_skip ?_
          try simp only [Ex.thnH, Ex.inBlockH, ↓reduceIte, Nat.reduceEqDiff]
          refine hK7 _ _ ?_; try clear hK7 K7
          refine CW_seq (fun K10 hK10 => ?_)
          refine CW_seq (fun K11 hK11 => ?_)
          refine CW_region ?_
          refine OW_mv rfl ?_
          refine OW_opS (fun K hK r => ?_)
          simp only [x_typeAssert, eX, ↓reduceIte, Nat.reduceEqDiff, Int.reduceToNat]
          first | rw [t_same _ _ _ Try.underlying40 (by simp)] | rw [t_other _ _ _ _ Try.underlying40 (by simp) (by decide) _ _ zr40] | rw [t_nil _ _ _ Try.underlying40 (by simp) _ zr40]
          try simp only [if_true, Bool.false_eq_true, if_false]
          try simp only [eX, ↓reduceIte, Nat.reduceEqDiff, Int.reduceToNat]
          refine hK _ _ ?_; clear hK K
          refine OW_mv rfl ?_
          refine OW_opS (fun K hK r => ?_)
          simp only [x_extract, i_extract, List.getElem?_toArray, List.getElem?_cons_zero, List.getElem?_cons_succ, orF_some, eX, ↓reduceIte, Nat.reduceEqDiff, Int.reduceToNat]
          refine hK _ _ ?_; clear hK K
          refine OW_opS (fun K hK r => ?_)
          simp only [x_extract, i_extract, List.getElem?_toArray, List.getElem?_cons_zero, List.getElem?_cons_succ, orF_some, eX, ↓reduceIte, Nat.reduceEqDiff, Int.reduceToNat]
          refine hK _ _ ?_; clear hK K
          refine OW_as rfl ?_
          refine OW_as rfl ?_
          refine OW_nil ?_
          try simp only [Ex.thnH, Ex.inBlockH, ↓reduceIte, Nat.reduceEqDiff]
          refine hK11 _ _ ?_; try clear hK11 K11
          refine CW_seq (fun K12 hK12 => ?_)
          refine CW_region ?_
          refine OW_mv rfl ?_
          refine OW_mv rfl ?_
          (first | refine OW_split (d := 17) rfl (fun g17 => ?_) (fun g17 => ?_) | skip)
          all_goals try (exfalso; exact cnA g17)
          all_goals (try simp only [decide_eq_true_eq, decide_eq_false_iff_not, Bool.not_eq_true, Bool.not_eq_false, Bool.and_eq_true, Bool.or_eq_true, Bool.or_eq_false_iff, Bool.not_eq_true, Bool.not_eq_eq_eq_not, Bool.not_true, Bool.not_false] at g17)
          all_goals
            try simp only [eX, ↓reduceIte, Nat.reduceEqDiff, Int.reduceToNat]
            first
            | refine OW_guardT rfl (lt_some (by decide)) rfl (fun K hK r => ?_)
              simp only [x_move, eX, ↓reduceIte, Nat.reduceEqDiff, Int.reduceToNat]
              refine hK _ _ ?_; clear hK K
            | refine OW_guardF rfl (lt_some (by decide)) rfl ?_
              simp only [eX, ↓reduceIte, Nat.reduceEqDiff, Int.reduceToNat]
            first
            | refine OW_guardT rfl (lt_some (by decide)) rfl (fun K hK r => ?_)
              simp (disch := (first | omega | decide)) only [x_bin, g_int, b_neq, dec_lt_t, dec_lt_f, dec_le_t, dec_le_f, dec_eq_t, dec_eq_f, Bool.not_true, Bool.not_false, eX, ↓reduceIte, Nat.reduceEqDiff, Int.reduceToNat]
              refine hK _ _ ?_; clear hK K
            | refine OW_guardF rfl (lt_some (by decide)) rfl ?_
              simp only [eX, ↓reduceIte, Nat.reduceEqDiff, Int.reduceToNat]
            refine OW_opS (fun K hK r => ?_)
            simp only [x_pick, l_asBool, HL.ite_bool, if_true, if_false, Bool.false_eq_true, eX, ↓reduceIte, Nat.reduceEqDiff, Int.reduceToNat]
            refine hK _ _ ?_; clear hK K
            refine OW_nil ?_
            try simp only [Ex.thnH, Ex.inBlockH, ↓reduceIte, Nat.reduceEqDiff]
            refine hK12 _ _ ?_; try clear hK12 K12
            refine CW_cond (fun r => rfl) (fun c20 => ?_) (fun c20 => ?_)
            · first
              | (exfalso; exact cnA c20; done)
              | skip
                (try simp only [decide_eq_true_eq, decide_eq_false_iff_not, Bool.not_eq_true, Bool.not_eq_false, Bool.and_eq_true, Bool.or_eq_true, Bool.or_eq_false_iff, Bool.not_eq_true, Bool.not_eq_eq_eq_not, Bool.not_true, Bool.not_false] at c20)
                refine CW_seq (fun K13 hK13 => ?_)
                refine CW_region ?_
                refine OW_mv rfl ?_
                refine OW_as rfl ?_
                refine OW_nil ?_
                try simp only [Ex.thnH, Ex.inBlockH, ↓reduceIte, Nat.reduceEqDiff]
                refine hK13 _ _ ?_; try clear hK13 K13
                refine CW_ret ?_
                try simp only [Ex.thnH, Ex.inBlockH, ↓reduceIte, Nat.reduceEqDiff]
                exact ⟨[_], ⟨rfl, trivial⟩, _, Le.refl _, rfl, rfl⟩
            · first
              | (exfalso; exact cnA c20; done)
              | skip
                (try simp only [decide_eq_true_eq, decide_eq_false_iff_not, Bool.not_eq_true, Bool.not_eq_false, Bool.and_eq_true, Bool.or_eq_true, Bool.or_eq_false_iff, Bool.not_eq_true, Bool.not_eq_eq_eq_not, Bool.not_true, Bool.not_false] at c20)
                refine CW_skip ?_
                try simp only [Ex.thnH, Ex.inBlockH, ↓reduceIte, Nat.reduceEqDiff]
                refine hK10 _ _ ?_; try clear hK10 K10
                refine CW_seq (fun K14 hK14 => ?_)
                refine CW_region ?_
                refine OW_mv rfl ?_
                refine OW_opS (fun K hK r => ?_)
                simp only [x_typeAssert, eX, ↓reduceIte, Nat.reduceEqDiff, Int.reduceToNat]
                first | rw [t_same _ _ _ Try.underlying68 (by simp)] | rw [t_other _ _ _ _ Try.underlying68 (by simp) (by decide) _ _ zr68] | rw [t_nil _ _ _ Try.underlying68 (by simp) _ zr68]
                try simp only [if_true, Bool.false_eq_true, if_false]
                try simp only [eX, ↓reduceIte, Nat.reduceEqDiff, Int.reduceToNat]
                refine hK _ _ ?_; clear hK K
                refine OW_mv rfl ?_
                refine OW_opS (fun K hK r => ?_)
                simp only [x_extract, i_extract, List.getElem?_toArray, List.getElem?_cons_zero, List.getElem?_cons_succ, orF_some, eX, ↓reduceIte, Nat.reduceEqDiff, Int.reduceToNat]
                refine hK _ _ ?_; clear hK K
                refine OW_opS (fun K hK r => ?_)
                simp only [x_extract, i_extract, List.getElem?_toArray, List.getElem?_cons_zero, List.getElem?_cons_succ, orF_some, eX, ↓reduceIte, Nat.reduceEqDiff, Int.reduceToNat]
                refine hK _ _ ?_; clear hK K
                refine OW_as rfl ?_
                refine OW_as rfl ?_
                refine OW_nil ?_
                try simp only [Ex.thnH, Ex.inBlockH, ↓reduceIte, Nat.reduceEqDiff]
                refine hK14 _ _ ?_; try clear hK14 K14
                refine CW_seq (fun K15 hK15 => ?_)
                refine CW_seq (fun K16 hK16 => ?_)
                refine CW_region ?_
                refine OW_mv rfl ?_
                refine OW_opS (fun K hK r => ?_)
                simp only [x_un, u_not, eX, ↓reduceIte, Nat.reduceEqDiff, Int.reduceToNat]
                refine hK _ _ ?_; clear hK K
                refine OW_mv rfl ?_
                (first | refine OW_split (d := 29) rfl (fun g29 => ?_) (fun g29 => ?_) | skip)
                all_goals try (exfalso; exact cnA g29)
                all_goals (try simp only [decide_eq_true_eq, decide_eq_false_iff_not, Bool.not_eq_true, Bool.not_eq_false, Bool.and_eq_true, Bool.or_eq_true, Bool.or_eq_false_iff, Bool.not_eq_true, Bool.not_eq_eq_eq_not, Bool.not_true, Bool.not_false] at g29)
                all_goals
                  try simp only [eX, ↓reduceIte, Nat.reduceEqDiff, Int.reduceToNat]
                  first
                  | refine OW_guardT rfl (lt_some (by decide)) rfl (fun K hK r => ?_)
                    simp only [x_move, eX, ↓reduceIte, Nat.reduceEqDiff, Int.reduceToNat]
                    refine hK _ _ ?_; clear hK K
                  | refine OW_guardF rfl (lt_some (by decide)) rfl ?_
                    simp only [eX, ↓reduceIte, Nat.reduceEqDiff, Int.reduceToNat]
                  first
                  | refine OW_guardT rfl (lt_some (by decide)) rfl (fun K hK r => ?_)
                    simp only [x_bin, g_int, g_bool, g_string, g_pointer, g_slice, g_map, g_func, g_nilFunc, g_iface, g_nil_iface, g_nil_r, g_nil_l, eX, ↓reduceIte, Nat.reduceEqDiff, Int.reduceToNat]
                    rw [e_eql _ _ _ _ (by simp)]
                    rw [q_equal]
                    first | rw [q_ptr_nil _ _ _ Try.underlying68] | rw [q_nil_ptr _ _ _ Try.underlying68]
                    try simp only [eX, ↓reduceIte, Nat.reduceEqDiff, Int.reduceToNat]
                    refine hK _ _ ?_; clear hK K
                  | refine OW_guardF rfl (lt_some (by decide)) rfl ?_
                    simp only [eX, ↓reduceIte, Nat.reduceEqDiff, Int.reduceToNat]
                  refine OW_opS (fun K hK r => ?_)
                  simp only [x_pick, l_asBool, HL.ite_bool, if_true, if_false, Bool.false_eq_true, eX, ↓reduceIte, Nat.reduceEqDiff, Int.reduceToNat]
                  refine hK _ _ ?_; clear hK K
                  refine OW_mv rfl ?_
                  (first | refine OW_split (d := 33) rfl (fun g33 => ?_) (fun g33 => ?_) | skip)
                  all_goals try (exfalso; exact cnA g33)
                  all_goals (try simp only [decide_eq_true_eq, decide_eq_false_iff_not, Bool.not_eq_true, Bool.not_eq_false, Bool.and_eq_true, Bool.or_eq_true, Bool.or_eq_false_iff, Bool.not_eq_true, Bool.not_eq_eq_eq_not, Bool.not_true, Bool.not_false] at g33)
                  all_goals
                    try simp only [eX, ↓reduceIte, Nat.reduceEqDiff, Int.reduceToNat]
                    first
                    | refine OW_guardT rfl (lt_some (by decide)) rfl (fun K hK r => ?_)
                      simp only [x_move, eX, ↓reduceIte, Nat.reduceEqDiff, Int.reduceToNat]
                      refine hK _ _ ?_; clear hK K
                    | refine OW_guardF rfl (lt_some (by decide)) rfl ?_
                      simp only [eX, ↓reduceIte, Nat.reduceEqDiff, Int.reduceToNat]
                    first
                    | refine OW_guardT rfl (lt_some (by decide)) rfl (fun K hK r => ?_)
                      rw [x_nilCheck _ _ rfl]
                      simp only [eX, ↓reduceIte, Nat.reduceEqDiff, Int.reduceToNat]
                      refine hK _ _ ?_; clear hK K
                    | refine OW_guardF rfl (lt_some (by decide)) rfl ?_
                      simp only [eX, ↓reduceIte, Nat.reduceEqDiff, Int.reduceToNat]
                    first
                    | refine OW_guardT rfl (lt_some (by decide)) rfl (fun K hK r => ?_)
                      simp only [x_fieldAddr, fa71_1, add_mk, Nat.reduceAdd, Nat.zero_add, eX, ↓reduceIte, Nat.reduceEqDiff, Int.reduceToNat]
                      refine hK _ _ ?_; clear hK K
                    | refine OW_guardF rfl (lt_some (by decide)) rfl ?_
                      simp only [eX, ↓reduceIte, Nat.reduceEqDiff, Int.reduceToNat]
                    first
                    | refine OW_guardT rfl (lt_some (by decide)) rfl (fun K hK r => ?_)
                      simp only [x_load, eX, ↓reduceIte, Nat.reduceEqDiff, Int.reduceToNat]
                      refine Lt_loadAt1 Try.underlying35 rfl hbA ldA ?_
                      try simp only [eX, ↓reduceIte, Nat.reduceEqDiff, Int.reduceToNat]
                      refine hK _ _ ?_; clear hK K
                    | refine OW_guardF rfl (lt_some (by decide)) rfl ?_
                      simp only [eX, ↓reduceIte, Nat.reduceEqDiff, Int.reduceToNat]
                    first
                    | refine OW_guardT rfl (lt_some (by decide)) rfl (fun K hK r => ?_)
                      simp only [x_bin, g_int, g_bool, g_string, g_pointer, g_slice, g_map, g_func, g_nilFunc, g_err, g_iface, g_nil_iface, g_nil_r, g_nil_l, eX, ↓reduceIte, Nat.reduceEqDiff, Int.reduceToNat]
                      first | rw [b_err_eql _ _ Try.underlying35] | (rw [e_eql _ _ _ _ (by simp), q_equal]; first | rw [q_iface_nil _ _ _ Try.underlying35] | rw [q_nil_iface _ _ _ Try.underlying35] | rw [q_nil_nil _ _ _ Try.underlying35])
                      try simp only [eX, ↓reduceIte, Nat.reduceEqDiff, Int.reduceToNat]
                      refine hK _ _ ?_; clear hK K
                    | refine OW_guardF rfl (lt_some (by decide)) rfl ?_
                      simp only [eX, ↓reduceIte, Nat.reduceEqDiff, Int.reduceToNat]
                    refine OW_opS (fun K hK r => ?_)
                    simp only [x_pick, l_asBool, HL.ite_bool, if_true, if_false, Bool.false_eq_true, eX, ↓reduceIte, Nat.reduceEqDiff, Int.reduceToNat]
                    refine hK _ _ ?_; clear hK K
                    refine OW_nil ?_
                    try simp only [Ex.thnH, Ex.inBlockH, ↓reduceIte, Nat.reduceEqDiff]
                    refine hK16 _ _ ?_; try clear hK16 K16
                    refine CW_cond (fun r => rfl) (fun c39 => ?_) (fun c39 => ?_)
                    · first
                      | (exfalso; exact cnA c39; done)
                      | skip
                        (try simp only [decide_eq_true_eq, decide_eq_false_iff_not, Bool.not_eq_true, Bool.not_eq_false, Bool.and_eq_true, Bool.or_eq_true, Bool.or_eq_false_iff, Bool.not_eq_true, Bool.not_eq_eq_eq_not, Bool.not_true, Bool.not_false] at c39)
                        refine CW_seq (fun K17 hK17 => ?_)
                        refine CW_region ?_
                        refine OW_as rfl ?_
                        refine OW_nil ?_
                        try simp only [Ex.thnH, Ex.inBlockH, ↓reduceIte, Nat.reduceEqDiff]
                        refine hK17 _ _ ?_; try clear hK17 K17
                        refine CW_ret ?_
                        try simp only [Ex.thnH, Ex.inBlockH, ↓reduceIte, Nat.reduceEqDiff]
                        exact ⟨[_], ⟨rfl, trivial⟩, _, Le.refl _, rfl, rfl⟩
                    · first
                      | (exfalso; exact cnA c39; done)
                      | skip
                        (try simp only [decide_eq_true_eq, decide_eq_false_iff_not, Bool.not_eq_true, Bool.not_eq_false, Bool.and_eq_true, Bool.or_eq_true, Bool.or_eq_false_iff, Bool.not_eq_true, Bool.not_eq_eq_eq_not, Bool.not_true, Bool.not_false] at c39)
                        refine CW_skip ?_
                        try simp only [Ex.thnH, Ex.inBlockH, ↓reduceIte, Nat.reduceEqDiff]
                        refine hK15 _ _ ?_; try clear hK15 K15
                        refine CW_region ?_
                        refine OW_mv rfl ?_
                        refine OW_opS (fun K hK r => ?_)
                        rw [x_nilCheck _ _ rfl]
                        simp only [eX, ↓reduceIte, Nat.reduceEqDiff, Int.reduceToNat]
                        refine hK _ _ ?_; clear hK K
                        refine OW_opS (fun K hK r => ?_)
                        simp only [x_fieldAddr, fa71_1, add_mk, Nat.reduceAdd, Nat.zero_add, eX, ↓reduceIte, Nat.reduceEqDiff, Int.reduceToNat]
                        refine hK _ _ ?_; clear hK K
                        refine OW_opS (fun K hK r => ?_)
                        simp only [x_load, eX, ↓reduceIte, Nat.reduceEqDiff, Int.reduceToNat]
                        refine Lt_loadAt1 Try.underlying35 rfl hbA ldA ?_
                        try simp only [eX, ↓reduceIte, Nat.reduceEqDiff, Int.reduceToNat]
                        refine hK _ _ ?_; clear hK K
                        refine OW_as rfl ?_
                        refine OW_nil ?_
                        try simp only [Ex.thnH, Ex.inBlockH, ↓reduceIte, Nat.reduceEqDiff]
                        refine hK6 _ _ ?_; try clear hK6 K6
                        refine CW_region ?_
                        refine OW_opS (fun K hK r => ?_)
                        simp (disch := (first | omega | decide)) only [x_bin, g_int, b_add, wrap_i64, wrap_u64, wrap_u32, wrap_u8, eX, ↓reduceIte, Nat.reduceEqDiff, Int.reduceToNat]
                        refine hK _ _ ?_; clear hK K
                        refine OW_mv rfl ?_
                        refine OW_nil ?_
                        try simp only [Ex.thnH, Ex.inBlockH, ↓reduceIte, Nat.reduceEqDiff]
                        exact absurd rfl (by assumption)
  · first
    | (exfalso; exact cnA c8; done)
    | skip
      (try simp only [decide_eq_true_eq, decide_eq_false_iff_not, Bool.not_eq_true, Bool.not_eq_false, Bool.and_eq_true, Bool.or_eq_true, Bool.or_eq_false_iff, Bool.not_eq_true, Bool.not_eq_eq_eq_not, Bool.not_true, Bool.not_false] at c8)
      refine CW_exit ?_
      try simp only [Ex.thnH, Ex.inBlockH, ↓reduceIte, Nat.reduceEqDiff]
      refine hK2 _ _ ?_; try clear hK2 K2
      refine CW_seq (fun K18 hK18 => ?_)
      refine CW_region ?_
      refine OW_as rfl ?_
      refine OW_nil ?_
      try simp only [Ex.thnH, Ex.inBlockH, ↓reduceIte, Nat.reduceEqDiff]
      refine hK18 _ _ ?_; try clear hK18 K18
      refine CW_ret ?_
      try simp only [Ex.thnH, Ex.inBlockH, ↓reduceIte, Nat.reduceEqDiff]
      exact ⟨[_], ⟨rfl, trivial⟩, _, Le.refl _, rfl, rfl⟩

set_option maxRecDepth 100000 in
set_option maxHeartbeats 1000000 in
theorem num_Num_errno (H : Hp) (k : Int) (hk : k ≠ 0) (h1 : -9223372036854775808 ≤ k) (h2 : k ≤ 9223372036854775807) : CallH Try.prog 32 #[.iface 40 (.int .i64 k)] H (fun v H' => v = .int .i64 k ∧ H' = H) := by
  refine CallH_enter (l := [_]) (rl := [.tmp 2]) (n := 45) Try.func32 rfl rfl rfl rfl rfl ?_
  simp only [envOf, Nat.reduceAdd]
  refine CW_seq (fun K1 hK1 => ?_)
  refine CW_region ?_
  refine OW_as rfl ?_
  refine OW_nil ?_
  try simp only [Ex.thnH, Ex.inBlockH, ↓reduceIte, Nat.reduceEqDiff]
  refine hK1 _ _ ?_; try clear hK1 K1
  refine CW_seq (fun K2 hK2 => ?_)
  refine CW_seq (fun K3 hK3 => ?_)
  refine CW_region ?_
  refine OW_mv rfl ?_
  refine OW_nil ?_
  try simp only [Ex.thnH, Ex.inBlockH, ↓reduceIte, Nat.reduceEqDiff]
  refine hK3 _ _ ?_; try clear hK3 K3
  refine CW_block ?_
  refine CW_loop (fun m e H_ => Env.has [(0, .iface 40 (.int .i64 k)), (7, .int .i64 0)] e ∧ H_ = H) (0) ?_ ?_
  · skip
    exact ⟨⟨rfl, rfl, trivial⟩, rfl⟩
  intro m_ e_ H_ hI_
  obtain ⟨he, rfl⟩ := hI_
  refine CW_env he.sub ?_; clear he e_
  refine CW_seq (fun K4 hK4 => ?_)
  refine CW_region ?_
  refine OW_opS (fun K hK r => ?_)
  simp (disch := (first | omega | decide)) only [x_bin, g_int, b_lss, dec_lt_t, dec_lt_f, dec_le_t, dec_le_f, dec_eq_t, dec_eq_f, Bool.not_true, Bool.not_false, eX, ↓reduceIte, Nat.reduceEqDiff, Int.reduceToNat]
  refine hK _ _ ?_; clear hK K
  refine OW_nil ?_
  try simp only [Ex.thnH, Ex.inBlockH, ↓reduceIte, Nat.reduceEqDiff]
  refine hK4 _ _ ?_; try clear hK4 K4
  refine CW_seq (fun K5 hK5 => ?_)
  refine CW_cond (fun r => rfl) (fun c8 => ?_) (fun c8 => ?_)
  · first
    | (exfalso; exact cnA c8; done)
    | skip
      (try simp only [decide_eq_true_eq, decide_eq_false_iff_not, Bool.not_eq_true, Bool.not_eq_false, Bool.and_eq_true, Bool.or_eq_true, Bool.or_eq_false_iff, Bool.not_eq_true, Bool.not_eq_eq_eq_not, Bool.not_true, Bool.not_false] at c8)
      refine CW_skip ?_
      try simp only [Ex.thnH, Ex.inBlockH, ↓reduceIte, Nat.reduceEqDiff]
      refine hK5 _ _ ?_; try clear hK5 K5
      refine CW_seq (fun K6 hK6 => ?_)
      refine CW_block ?_
      refine CW_seq (fun K7 hK7 => ?_)
      refine CW_seq (fun K8 hK8 => ?_)
      refine CW_region ?_
      refine OW_mv rfl ?_
      refine OW_opS (fun K hK r => ?_)
      simp only [x_bin, g_int, g_bool, g_string, g_pointer, g_slice, g_map, g_func, g_nilFunc, g_err, g_iface, g_nil_iface, g_nil_r, g_nil_l, eX, ↓reduceIte, Nat.reduceEqDiff, Int.reduceToNat]
      first | rw [b_err_eql _ _ Try.underlying35] | (rw [e_eql _ _ _ _ (by simp), q_equal]; first | rw [q_iface_nil _ _ _ Try.underlying35] | rw [q_nil_iface _ _ _ Try.underlying35] | rw [q_nil_nil _ _ _ Try.underlying35])
      try simp only [eX, ↓reduceIte, Nat.reduceEqDiff, Int.reduceToNat]
      refine hK _ _ ?_; clear hK K
      refine OW_nil ?_
      try simp only [Ex.thnH, Ex.inBlockH, ↓reduceIte, Nat.reduceEqDiff]
      refine hK8 _ _ ?_; try clear hK8 K8
      refine CW_cond (fun r => rfl) (fun c10 => ?_) (fun c10 => ?_)
      · first
        | (exfalso; exact cnA c10; done)
        | skip
          (try simp only [decide_eq_true_eq, decide_eq_false_iff_not, Bool.not_eq_true, Bool.not_eq_false, Bool.and_eq_true, Bool.or_eq_true, Bool.or_eq_false_iff, Bool.not_eq_true, Bool.not_eq_eq_eq_not, Bool.not_true, Bool.not_false] at c10)
          refine CW_seq (fun K9 hK9 => ?_)
          refine CW_region ?_
          refine OW_as rfl ?_
          refine OW_nil ?_
          try simp only [Ex.thnH, Ex.inBlockH, ↓reduceIte, Nat.reduceEqDiff]
          refine hK9 _ _ ?_; try clear hK9 K9
          refine CW_ret ?_
          try simp only [Ex.thnH, Ex.inBlockH, ↓reduceIte, Nat.reduceEqDiff]
          exact ⟨[_], ⟨rfl, trivial⟩, _, Le.refl _, rfl, rfl⟩
      · first
        | (exfalso; exact cnA c10; done)
        | skip
          (try simp only [decide_eq_true_eq, decide_eq_false_iff_not, Bool.not_eq_true, Bool.not_eq_false, Bool.and_eq_true, Bool.or_eq_true, Bool.or_eq_false_iff, Bool.not_eq_true, Bool.not_eq_eq_eq_not, Bool.not_true, Bool.not_false] at c10)
          refine CW_skip ?_
          try simp only [Ex.thnH, Ex.inBlockH, ↓reduceIte, Nat.reduceEqDiff]
          refine hK7 _ _ ?_; try clear hK7 K7
          refine CW_seq (fun K10 hK10 => ?_)
          refine CW_seq (fun K11 hK11 => ?_)
          refine CW_region ?_
          refine OW_mv rfl ?_
          refine OW_opS (fun K hK r => ?_)
          simp only [x_typeAssert, eX, ↓reduceIte, Nat.reduceEqDiff, Int.reduceToNat]
          first | rw [t_same _ _ _ Try.underlying40 (by simp)] | rw [t_other _ _ _ _ Try.underlying40 (by simp) (by decide) _ _ zr40] | rw [t_nil _ _ _ Try.underlying40 (by simp) _ zr40]
          try simp only [if_true, Bool.false_eq_true, if_false]
          try simp only [eX, ↓reduceIte, Nat.reduceEqDiff, Int.reduceToNat]
          refine hK _ _ ?_; clear hK K
          refine OW_mv rfl ?_
          refine OW_opS (fun K hK r => ?_)
          simp only [x_extract, i_extract, List.getElem?_toArray, List.getElem?_cons_zero, List.getElem?_cons_succ, orF_some, eX, ↓reduceIte, Nat.reduceEqDiff, Int.reduceToNat]
          refine hK _ _ ?_; clear hK K
          refine OW_opS (fun K hK r => ?_)
          simp only [x_extract, i_extract, List.getElem?_toArray, List.getElem?_cons_zero, List.getElem?_cons_succ, orF_some, eX, ↓reduceIte, Nat.reduceEqDiff, Int.reduceToNat]
          refine hK _ _ ?_; clear hK K
          refine OW_as rfl ?_
          refine OW_as rfl ?_
          refine OW_nil ?_
          try simp only [Ex.thnH, Ex.inBlockH, ↓reduceIte, Nat.reduceEqDiff]
          refine hK11 _ _ ?_; try clear hK11 K11
          refine CW_seq (fun K12 hK12 => ?_)
          refine CW_region ?_
          refine OW_mv rfl ?_
          refine OW_mv rfl ?_
          (first | refine OW_split (d := 17) rfl (fun g17 => ?_) (fun g17 => ?_) | skip)
          all_goals try (exfalso; exact cnA g17)
          all_goals (try simp only [decide_eq_true_eq, decide_eq_false_iff_not, Bool.not_eq_true, Bool.not_eq_false, Bool.and_eq_true, Bool.or_eq_true, Bool.or_eq_false_iff, Bool.not_eq_true, Bool.not_eq_eq_eq_not, Bool.not_true, Bool.not_false] at g17)
          all_goals
            try simp only [eX, ↓reduceIte, Nat.reduceEqDiff, Int.reduceToNat]
            first
            | refine OW_guardT rfl (lt_some (by decide)) rfl (fun K hK r => ?_)
              simp only [x_move, eX, ↓reduceIte, Nat.reduceEqDiff, Int.reduceToNat]
              refine hK _ _ ?_; clear hK K
            | refine OW_guardF rfl (lt_some (by decide)) rfl ?_
              simp only [eX, ↓reduceIte, Nat.reduceEqDiff, Int.reduceToNat]
            first
            | refine OW_guardT rfl (lt_some (by decide)) rfl (fun K hK r => ?_)
              simp (disch := (first | omega | decide)) only [x_bin, g_int, b_neq, dec_lt_t, dec_lt_f, dec_le_t, dec_le_f, dec_eq_t, dec_eq_f, Bool.not_true, Bool.not_false, eX, ↓reduceIte, Nat.reduceEqDiff, Int.reduceToNat]
              refine hK _ _ ?_; clear hK K
            | refine OW_guardF rfl (lt_some (by decide)) rfl ?_
              simp only [eX, ↓reduceIte, Nat.reduceEqDiff, Int.reduceToNat]
            refine OW_opS (fun K hK r => ?_)
            simp only [x_pick, l_asBool, HL.ite_bool, if_true, if_false, Bool.false_eq_true, eX, ↓reduceIte, Nat.reduceEqDiff, Int.reduceToNat]
            refine hK _ _ ?_; clear hK K
            refine OW_nil ?_
            try simp only [Ex.thnH, Ex.inBlockH, ↓reduceIte, Nat.reduceEqDiff]
            refine hK12 _ _ ?_; try clear hK12 K12
            refine CW_cond (fun r => rfl) (fun c20 => ?_) (fun c20 => ?_)
            · first
              | (exfalso; exact cnA c20; done)
              | skip
                (try simp only [decide_eq_true_eq, decide_eq_false_iff_not, Bool.not_eq_true, Bool.not_eq_false, Bool.and_eq_true, Bool.or_eq_true, Bool.or_eq_false_iff, Bool.not_eq_true, Bool.not_eq_eq_eq_not, Bool.not_true, Bool.not_false] at c20)
                refine CW_seq (fun K13 hK13 => ?_)
                refine CW_region ?_
                refine OW_mv rfl ?_
                refine OW_as rfl ?_
                refine OW_nil ?_
                try simp only [Ex.thnH, Ex.inBlockH, ↓reduceIte, Nat.reduceEqDiff]
                refine hK13 _ _ ?_; try clear hK13 K13
                refine CW_ret ?_
                try simp only [Ex.thnH, Ex.inBlockH, ↓reduceIte, Nat.reduceEqDiff]
                exact ⟨[_], ⟨rfl, trivial⟩, _, Le.refl _, rfl, rfl⟩
            · first
              | (exfalso; exact cnA c20; done)
              | skip
                (try simp only [decide_eq_true_eq, decide_eq_false_iff_not, Bool.not_eq_true, Bool.not_eq_false, Bool.and_eq_true, Bool.or_eq_true, Bool.or_eq_false_iff, Bool.not_eq_true, Bool.not_eq_eq_eq_not, Bool.not_true, Bool.not_false] at c20)
                refine CW_skip ?_
                try simp only [Ex.thnH, Ex.inBlockH, ↓reduceIte, Nat.reduceEqDiff]
                refine hK10 _ _ ?_; try clear hK10 K10
                refine CW_seq (fun K14 hK14 => ?_)
                refine CW_region ?_
                refine OW_mv rfl ?_
                refine OW_opS (fun K hK r => ?_)
                simp only [x_typeAssert, eX, ↓reduceIte, Nat.reduceEqDiff, Int.reduceToNat]
                first | rw [t_same _ _ _ Try.underlying68 (by simp)] | rw [t_other _ _ _ _ Try.underlying68 (by simp) (by decide) _ _ zr68] | rw [t_nil _ _ _ Try.underlying68 (by simp) _ zr68]
                try simp only [if_true, Bool.false_eq_true, if_false]
                try simp only [eX, ↓reduceIte, Nat.reduceEqDiff, Int.reduceToNat]
                refine hK _ _ ?_; clear hK K
                refine OW_mv rfl ?_
                refine OW_opS (fun K hK r => ?_)
                simp only [x_extract, i_extract, List.getElem?_toArray, List.getElem?_cons_zero, List.getElem?_cons_succ, orF_some, eX, ↓reduceIte, Nat.reduceEqDiff, Int.reduceToNat]
                refine hK _ _ ?_; clear hK K
                refine OW_opS (fun K hK r => ?_)
                simp only [x_extract, i_extract, List.getElem?_toArray, List.getElem?_cons_zero, List.getElem?_cons_succ, orF_some, eX, ↓reduceIte, Nat.reduceEqDiff, Int.reduceToNat]
                refine hK _ _ ?_; clear hK K
                refine OW_as rfl ?_
                refine OW_as rfl ?_
                refine OW_nil ?_
                try simp only [Ex.thnH, Ex.inBlockH, ↓reduceIte, Nat.reduceEqDiff]
                refine hK14 _ _ ?_; try clear hK14 K14
                refine CW_seq (fun K15 hK15 => ?_)
                refine CW_seq (fun K16 hK16 => ?_)
                refine CW_region ?_
                refine OW_mv rfl ?_
                refine OW_opS (fun K hK r => ?_)
                simp only [x_un, u_not, eX, ↓reduceIte, Nat.reduceEqDiff, Int.reduceToNat]
                refine hK _ _ ?_; clear hK K
                refine OW_mv rfl ?_
                (first | refine OW_split (d := 29) rfl (fun g29 => ?_) (fun g29 => ?_) | skip)
                all_goals try (exfalso; exact cnA g29)
                all_goals (try simp only [decide_eq_true_eq, decide_eq_false_iff_not, Bool.not_eq_true, Bool.not_eq_false, Bool.and_eq_true, Bool.or_eq_true, Bool.or_eq_false_iff, Bool.not_eq_true, Bool.not_eq_eq_eq_not, Bool.not_true, Bool.not_false] at g29)
                all_goals
                  try simp only [eX, ↓reduceIte, Nat.reduceEqDiff, Int.reduceToNat]
                  first
                  | refine OW_guardT rfl (lt_some (by decide)) rfl (fun K hK r => ?_)
                    simp only [x_move, eX, ↓reduceIte, Nat.reduceEqDiff, Int.reduceToNat]
                    refine hK _ _ ?_; clear hK K
                  | refine OW_guardF rfl (lt_some (by decide)) rfl ?_
                    simp only [eX, ↓reduceIte, Nat.reduceEqDiff, Int.reduceToNat]
                  first
                  | refine OW_guardT rfl (lt_some (by decide)) rfl (fun K hK r => ?_)
                    simp only [x_bin, g_int, g_bool, g_string, g_pointer, g_slice, g_map, g_func, g_nilFunc, g_iface, g_nil_iface, g_nil_r, g_nil_l, eX, ↓reduceIte, Nat.reduceEqDiff, Int.reduceToNat]
                    rw [e_eql _ _ _ _ (by simp)]
                    rw [q_equal]
                    first | rw [q_ptr_nil _ _ _ Try.underlying68] | rw [q_nil_ptr _ _ _ Try.underlying68]
                    try simp only [eX, ↓reduceIte, Nat.reduceEqDiff, Int.reduceToNat]
                    refine hK _ _ ?_; clear hK K
                  | refine OW_guardF rfl (lt_some (by decide)) rfl ?_
                    simp only [eX, ↓reduceIte, Nat.reduceEqDiff, Int.reduceToNat]
                  refine OW_opS (fun K hK r => ?_)
                  simp only [x_pick, l_asBool, HL.ite_bool, if_true, if_false, Bool.false_eq_true, eX, ↓reduceIte, Nat.reduceEqDiff, Int.reduceToNat]
                  refine hK _ _ ?_; clear hK K
                  refine OW_mv rfl ?_
                  (first | refine OW_split (d := 33) rfl (fun g33 => ?_) (fun g33 => ?_) | skip)
                  all_goals try (exfalso; exact cnA g33)
                  all_goals (try simp only [decide_eq_true_eq, decide_eq_false_iff_not, Bool.not_eq_true, Bool.not_eq_false, Bool.and_eq_true, Bool.or_eq_true, Bool.or_eq_false_iff, Bool.not_eq_true, Bool.not_eq_eq_eq_not, Bool.not_true, Bool.not_false] at g33)
                  all_goals
                    try simp only [eX, ↓reduceIte, Nat.reduceEqDiff, Int.reduceToNat]
                    first
                    | refine OW_guardT rfl (lt_some (by decide)) rfl (fun K hK r => ?_)
                      simp only [x_move, eX, ↓reduceIte, Nat.reduceEqDiff, Int.reduceToNat]
                      refine hK _ _ ?_; clear hK K
                    | refine OW_guardF rfl (lt_some (by decide)) rfl ?_
                      simp only [eX, ↓reduceIte, Nat.reduceEqDiff, Int.reduceToNat]
                    first
                    | refine OW_guardT rfl (lt_some (by decide)) rfl (fun K hK r => ?_)
                      rw [x_nilCheck _ _ rfl]
                      simp only [eX, ↓reduceIte, Nat.reduceEqDiff, Int.reduceToNat]
                      refine hK _ _ ?_; clear hK K
                    | refine OW_guardF rfl (lt_some (by decide)) rfl ?_
                      simp only [eX, ↓reduceIte, Nat.reduceEqDiff, Int.reduceToNat]
                    first
                    | refine OW_guardT rfl (lt_some (by decide)) rfl (fun K hK r => ?_)
                      simp only [x_fieldAddr, fa71_1, add_mk, Nat.reduceAdd, Nat.zero_add, eX, ↓reduceIte, Nat.reduceEqDiff, Int.reduceToNat]
                      refine hK _ _ ?_; clear hK K
                    | refine OW_guardF rfl (lt_some (by decide)) rfl ?_
                      simp only [eX, ↓reduceIte, Nat.reduceEqDiff, Int.reduceToNat]
                    first
                    | refine OW_guardT rfl (lt_some (by decide)) rfl (fun K hK r => ?_)
                      simp only [x_load, eX, ↓reduceIte, Nat.reduceEqDiff, Int.reduceToNat]
                      refine Lt_loadAt1 Try.underlying35 rfl hbA ldA ?_
                      try simp only [eX, ↓reduceIte, Nat.reduceEqDiff, Int.reduceToNat]
                      refine hK _ _ ?_; clear hK K
                    | refine OW_guardF rfl (lt_some (by decide)) rfl ?_
                      simp only [eX, ↓reduceIte, Nat.reduceEqDiff, Int.reduceToNat]
                    first
                    | refine OW_guardT rfl (lt_some (by decide)) rfl (fun K hK r => ?_)
                      simp only [x_bin, g_int, g_bool, g_string, g_pointer, g_slice, g_map, g_func, g_nilFunc, g_err, g_iface, g_nil_iface, g_nil_r, g_nil_l, eX, ↓reduceIte, Nat.reduceEqDiff, Int.reduceToNat]
                      first | rw [b_err_eql _ _ Try.underlying35] | (rw [e_eql _ _ _ _ (by simp), q_equal]; first | rw [q_iface_nil _ _ _ Try.underlying35] | rw [q_nil_iface _ _ _ Try.underlying35] | rw [q_nil_nil _ _ _ Try.underlying35])
                      try simp only [eX, ↓reduceIte, Nat.reduceEqDiff, Int.reduceToNat]
                      refine hK _ _ ?_; clear hK K
                    | refine OW_guardF rfl (lt_some (by decide)) rfl ?_
                      simp only [eX, ↓reduceIte, Nat.reduceEqDiff, Int.reduceToNat]
                    refine OW_opS (fun K hK r => ?_)
                    simp only [x_pick, l_asBool, HL.ite_bool, if_true, if_false, Bool.false_eq_true, eX, ↓reduceIte, Nat.reduceEqDiff, Int.reduceToNat]
                    refine hK _ _ ?_; clear hK K
                    refine OW_nil ?_
                    try simp only [Ex.thnH, Ex.inBlockH, ↓reduceIte, Nat.reduceEqDiff]
                    refine hK16 _ _ ?_; try clear hK16 K16
                    refine CW_cond (fun r => rfl) (fun c39 => ?_) (fun c39 => ?_)
                    · first
                      | (exfalso; exact cnA c39; done)
                      | skip
                        (try simp only [decide_eq_true_eq, decide_eq_false_iff_not, Bool.not_eq_true, Bool.not_eq_false, Bool.and_eq_true, Bool.or_eq_true, Bool.or_eq_false_iff, Bool.not_eq_true, Bool.not_eq_eq_eq_not, Bool.not_true, Bool.not_false] at c39)
                        refine CW_seq (fun K17 hK17 => ?_)
                        refine CW_region ?_
                        refine OW_as rfl ?_
                        refine OW_nil ?_
                        try simp only [Ex.thnH, Ex.inBlockH, ↓reduceIte, Nat.reduceEqDiff]
                        refine hK17 _ _ ?_; try clear hK17 K17
                        refine CW_ret ?_
                        try simp only [Ex.thnH, Ex.inBlockH, ↓reduceIte, Nat.reduceEqDiff]
                        exact ⟨[_], ⟨rfl, trivial⟩, _, Le.refl _, rfl, rfl⟩
                    · first
                      | (exfalso; exact cnA c39; done)
                      | skip
                        (try simp only [decide_eq_true_eq, decide_eq_false_iff_not, Bool.not_eq_true, Bool.not_eq_false, Bool.and_eq_true, Bool.or_eq_true, Bool.or_eq_false_iff, Bool.not_eq_true, Bool.not_eq_eq_eq_not, Bool.not_true, Bool.not_false] at c39)
                        refine CW_skip ?_
                        try simp only [Ex.thnH, Ex.inBlockH, ↓reduceIte, Nat.reduceEqDiff]
                        refine hK15 _ _ ?_; try clear hK15 K15
                        refine CW_region ?_
                        refine OW_mv rfl ?_
                        refine OW_opS (fun K hK r => ?_)
                        rw [x_nilCheck _ _ rfl]
                        simp only [eX, ↓reduceIte, Nat.reduceEqDiff, Int.reduceToNat]
                        refine hK _ _ ?_; clear hK K
                        refine OW_opS (fun K hK r => ?_)
                        simp only [x_fieldAddr, fa71_1, add_mk, Nat.reduceAdd, Nat.zero_add, eX, ↓reduceIte, Nat.reduceEqDiff, Int.reduceToNat]
                        refine hK _ _ ?_; clear hK K
                        refine OW_opS (fun K hK r => ?_)
                        simp only [x_load, eX, ↓reduceIte, Nat.reduceEqDiff, Int.reduceToNat]
                        refine Lt_loadAt1 Try.underlying35 rfl hbA ldA ?_
                        try simp only [eX, ↓reduceIte, Nat.reduceEqDiff, Int.reduceToNat]
                        refine hK _ _ ?_; clear hK K
                        refine OW_as rfl ?_
                        refine OW_nil ?_
                        try simp only [Ex.thnH, Ex.inBlockH, ↓reduceIte, Nat.reduceEqDiff]
                        refine hK6 _ _ ?_; try clear hK6 K6
                        refine CW_region ?_
                        refine OW_opS (fun K hK r => ?_)
                        simp (disch := (first | omega | decide)) only [x_bin, g_int, b_add, wrap_i64, wrap_u64, wrap_u32, wrap_u8, eX, ↓reduceIte, Nat.reduceEqDiff, Int.reduceToNat]
                        refine hK _ _ ?_; clear hK K
                        refine OW_mv rfl ?_
                        refine OW_nil ?_
                        try simp only [Ex.thnH, Ex.inBlockH, ↓reduceIte, Nat.reduceEqDiff]
                        exact absurd rfl (by assumption)
  · first
    | (exfalso; exact cnA c8; done)
    | skip
      (try simp only [decide_eq_true_eq, decide_eq_false_iff_not, Bool.not_eq_true, Bool.not_eq_false, Bool.and_eq_true, Bool.or_eq_true, Bool.or_eq_false_iff, Bool.not_eq_true, Bool.not_eq_eq_eq_not, Bool.not_true, Bool.not_false] at c8)
      refine CW_exit ?_
      try simp only [Ex.thnH, Ex.inBlockH, ↓reduceIte, Nat.reduceEqDiff]
      refine hK2 _ _ ?_; try clear hK2 K2
      refine CW_seq (fun K18 hK18 => ?_)
      refine CW_region ?_
      refine OW_as rfl ?_
      refine OW_nil ?_
      try simp only [Ex.thnH, Ex.inBlockH, ↓reduceIte, Nat.reduceEqDiff]
      refine hK18 _ _ ?_; try clear hK18 K18
      refine CW_ret ?_
      try simp only [Ex.thnH, Ex.inBlockH, ↓reduceIte, Nat.reduceEqDiff]
      exact ⟨[_], ⟨rfl, trivial⟩, _, Le.refl _, rfl, rfl⟩


abbrev errV : Option Int → Value := errVT 40
def errOk (o : Option Int) : Prop := ∀ k, o = some k → k ≠ 0 ∧ -9223372036854775808 ≤ k ∧ k ≤ 9223372036854775807
theorem num_Num (H : Hp) (o : Option Int) (h : errOk o) : CallH Try.prog 32 #[errV o] H (fun v H' => v = .int .i64 (o.getD 0) ∧ H' = H) := by
  cases o with
  | none => exact num_Num_nil H
  | some k => obtain ⟨h1, h2, h3⟩ := h k rfl; exact num_Num_errno H k h1 h2 h3

set_option maxRecDepth 100000 in
set_option maxHeartbeats 1000000 in
theorem num_Is (H : Hp) (o : Option Int) (h : errOk o) (k : Int) (h1 : -9223372036854775808 ≤ k) (h2 : k ≤ 9223372036854775807) : CallH Try.prog 16 #[errV o, .int .i64 k] H (fun v H' => v = .bool (decide (o.getD 0 = k)) ∧ H' = H) := by
  refine CallH_enter (l := [_, _]) (rl := [.tmp 4]) (n := 9) Try.func16 rfl rfl rfl rfl rfl ?_
  simp only [envOf, Nat.reduceAdd]
  refine CW_seq (fun K1 hK1 => ?_)
  refine CW_region ?_
  refine OW_as rfl ?_
  refine OW_nil ?_
  try simp only [Ex.thnH, Ex.inBlockH, ↓reduceIte, Nat.reduceEqDiff]
  refine hK1 _ _ ?_; try clear hK1 K1
  refine CW_seq (fun K2 hK2 => ?_)
  refine CW_region ?_
  refine OW_mv rfl ?_
  refine OW_opS (fun K hK r => ?_)
  simp only [x_callF _ bd32, List.map_toArray, List.map_cons, List.map_nil, eX, ↓reduceIte, Nat.reduceEqDiff, Int.reduceToNat]
  refine (num_Num _ o h).mono ?_
  rintro v H' ⟨rfl, rfl⟩
  try simp only [eX, ↓reduceIte, Nat.reduceEqDiff, Int.reduceToNat]
  refine hK _ _ ?_; clear hK K
  refine OW_mv rfl ?_
  refine OW_opS (fun K hK r => ?_)
  simp (disch := (first | omega | decide)) only [x_bin, g_int, b_eql, dec_lt_t, dec_lt_f, dec_le_t, dec_le_f, dec_eq_t, dec_eq_f, Bool.not_true, Bool.not_false, eX, ↓reduceIte, Nat.reduceEqDiff, Int.reduceToNat]
  refine hK _ _ ?_; clear hK K
  refine OW_as rfl ?_
  refine OW_nil ?_
  try simp only [Ex.thnH, Ex.inBlockH, ↓reduceIte, Nat.reduceEqDiff]
  refine hK2 _ _ ?_; try clear hK2 K2
  refine CW_ret ?_
  try simp only [Ex.thnH, Ex.inBlockH, ↓reduceIte, Nat.reduceEqDiff]
  exact ⟨[_], ⟨rfl, trivial⟩, _, Le.refl _, rfl, rfl⟩


/-- a reading of a count, also by a reader that is bad -/
def RCb (bad : Bool) (l : List Int) (r : Option (Nat × List Int)) : Prop := (bad = true → r = none) ∧ (bad = false → RC l r)
theorem RCb.lt {bad : Bool} {l : List Int} {r : Option (Nat × List Int)} (h : RCb bad l r) : rcN r < 18446744073709551616 := by
  cases bad with
  | true => rw [h.1 rfl]; decide
  | false =>
    have := h.2 rfl
    cases r with
    | none => decide
    | some x => exact this.2
theorem rCount_all (H : Hp) (p : Nat) (a : Option Addr) (cap : Nat) (l : List Int) (bad : Bool) (hr : RD H p a cap l bad) (hB : ByteL l) (hl : l.length ≤ 10000000) : CallH Try.prog 53 #[.pointer (some ⟨p, 0, none⟩)] H (fun v H' => ∃ res, RCb bad l res ∧ v = .int .u64 (rcN res) ∧ ∃ a' cap', RD H' p a' cap' (rcL res) res.isNone ∧ (∃ o, H' = H.upd p o) ∧ SameB a a') := by
  cases bad with
  | true =>
    obtain rfl := hr.nil
    refine (rCount_bad H p a cap [] hr).mono ?_
    rintro v H' ⟨rfl, rfl⟩
    exact ⟨none, ⟨fun _ => rfl, fun h => by cases h⟩, rfl, a, cap, hr, ⟨_, (upd_id hr.1).symm⟩, SameB.refl _⟩
  | false =>
    refine (rCount_ok H p a cap l hr hB hl).mono ?_
    rintro v H' ⟨res, h1, h2, h3⟩
    exact ⟨res, ⟨(fun h => by cases h), fun _ => h1⟩, h2, h3⟩
theorem OwnS.addr {H : Hp} {E : TypeId} {w n cap m : Nat} {a : Option Addr} {cs : List Value} {rs : Option Nat} (h : OwnS H E w (.slice a m cap) n cs rs) : ∀ A, a = some A → rs = some A.block ∧ A = ⟨A.block, 0, none⟩ := by
  obtain ⟨_, ⟨h2, _, _⟩ | ⟨r, cap', c, h3, _, _, _, _, h8⟩⟩ := h
  · injection h2 with e1 e2 e3; subst e1; intro A hA; cases hA
  · injection h3 with e1 e2 e3; subst e1; intro A hA; cases hA; exact ⟨h8, rfl⟩

set_option maxRecDepth 100000 in
set_option maxHeartbeats 1000000 in
theorem rNum_all (H : Hp) (p : Nat) (a : Option Addr) (cap : Nat) (l : List Int) (bad : Bool) (hr : RD H p a cap l bad) (hB : ByteL l) (hl : l.length ≤ 10000000) : CallH Try.prog 55 #[.pointer (some ⟨p, 0, none⟩)] H (fun v H' => ∃ res, RCb bad l res ∧ v = .int .i64 (unzig (rcN res)) ∧ ∃ a' cap', RD H' p a' cap' (rcL res) res.isNone ∧ (∃ o, H' = H.upd p o) ∧ SameB a a') := by
  refine CallH_enter (l := [_]) (rl := [.tmp 2]) (n := 14) Try.func55 rfl rfl rfl rfl rfl ?_
  simp only [envOf, Nat.reduceAdd]
  refine CW_seq (fun K1 hK1 => ?_)
  refine CW_region ?_
  refine OW_as rfl ?_
  refine OW_nil ?_
  try simp only [Ex.thnH, Ex.inBlockH, ↓reduceIte, Nat.reduceEqDiff]
  refine hK1 _ _ ?_; try clear hK1 K1
  refine CW_seq (fun K2 hK2 => ?_)
  refine CW_region ?_
  refine OW_mv rfl ?_
  refine OW_opS (fun K hK r => ?_)
  simp only [x_callF _ bd53, List.map_toArray, List.map_cons, List.map_nil, eX, ↓reduceIte, Nat.reduceEqDiff, Int.reduceToNat]
  refine (rCount_all _ p a cap l bad hr hB hl).mono ?_
  rintro v5 H5 ⟨res, hres, rfl, a5, cap5, hr5, hu5, hs5⟩
  have hlt := hres.lt
  try simp only [eX, ↓reduceIte, Nat.reduceEqDiff, Int.reduceToNat]
  refine hK _ _ ?_; clear hK K
  refine OW_as rfl ?_
  refine OW_nil ?_
  try simp only [Ex.thnH, Ex.inBlockH, ↓reduceIte, Nat.reduceEqDiff]
  refine hK2 _ _ ?_; try clear hK2 K2
  refine CW_seq (fun K3 hK3 => ?_)
  refine CW_region ?_
  refine OW_mv rfl ?_
  refine OW_opS (fun K hK r => ?_)
  simp (disch := (first | omega | decide)) only [x_bin, g_int, b_shr, wrap_i64, wrap_u64, wrap_u32, wrap_u8, eX, ↓reduceIte, Nat.reduceEqDiff, Int.reduceToNat]
  rw [shr1]
  refine hK _ _ ?_; clear hK K
  refine OW_opS (fun K hK r => ?_)
  simp (disch := (first | omega | decide)) only [x_convert, c_int _ _ _ _ Try.underlying60 Try.underlying3, wrap_i64, wrap_u64, wrap_u32, wrap_u8, eX, ↓reduceIte, Nat.reduceEqDiff, Int.reduceToNat]
  refine hK _ _ ?_; clear hK K
  refine OW_mv rfl ?_
  refine OW_opS (fun K hK r => ?_)
  simp only [x_bin, g_int, b_and, eX, ↓reduceIte, Nat.reduceEqDiff, Int.reduceToNat]
  rw [and1_all _ (by omega) (by omega)]
  refine hK _ _ ?_; clear hK K
  refine OW_opS (fun K hK r => ?_)
  simp (disch := (first | omega | decide)) only [x_convert, c_int _ _ _ _ Try.underlying60 Try.underlying3, wrap_i64, wrap_u64, wrap_u32, wrap_u8, eX, ↓reduceIte, Nat.reduceEqDiff, Int.reduceToNat]
  refine hK _ _ ?_; clear hK K
  refine OW_opS (fun K hK r => ?_)
  simp (disch := (first | omega | decide)) only [x_un, u_neg, wrap_i64, wrap_u64, wrap_u32, wrap_u8, eX, ↓reduceIte, Nat.reduceEqDiff, Int.reduceToNat]
  refine hK _ _ ?_; clear hK K
  refine OW_opS (fun K hK r => ?_)
  simp only [x_bin, g_int, b_xor, eX, ↓reduceIte, Nat.reduceEqDiff, Int.reduceToNat]
  simp only [Int.zero_sub]
  rw [unzig_bits hlt]
  refine hK _ _ ?_; clear hK K
  refine OW_as rfl ?_
  refine OW_nil ?_
  try simp only [Ex.thnH, Ex.inBlockH, ↓reduceIte, Nat.reduceEqDiff]
  refine hK3 _ _ ?_; try clear hK3 K3
  refine CW_ret ?_
  try simp only [Ex.thnH, Ex.inBlockH, ↓reduceIte, Nat.reduceEqDiff]
  exact ⟨[_], ⟨rfl, trivial⟩, _, Le.refl _, res, hres, rfl, a5, cap5, hr5, hu5, hs5⟩


def endE (bad : Bool) (l : List Int) : Option Int := if bad = true ∨ l ≠ [] then some 2 else none

set_option maxRecDepth 100000 in
set_option maxHeartbeats 1000000 in
theorem rEnd_ok (H : Hp) (p : Nat) (a : Option Addr) (cap : Nat) (l : List Int) (bad : Bool) (hr : RD H p a cap l bad) : CallH Try.prog 37 #[.pointer (some ⟨p, 0, none⟩)] H (fun v H' => v = errV (endE bad l) ∧ H' = H) := by
  refine CallH_enter (l := [_]) (rl := [.tmp 2]) (n := 20) Try.func37 rfl rfl rfl rfl rfl ?_
  simp only [envOf, Nat.reduceAdd]
  obtain ⟨hp, hcap, hh, hbad⟩ := hr
  refine CW_seq (fun K1 hK1 => ?_)
  refine CW_region ?_
  refine OW_as rfl ?_
  refine OW_nil ?_
  try simp only [Ex.thnH, Ex.inBlockH, ↓reduceIte, Nat.reduceEqDiff]
  refine hK1 _ _ ?_; try clear hK1 K1
  refine CW_seq (fun K2 hK2 => ?_)
  refine CW_seq (fun K3 hK3 => ?_)
  refine CW_region ?_
  refine OW_mv rfl ?_
  refine OW_opS (fun K hK r => ?_)
  simp only [x_bin, g_int, g_bool, g_string, g_pointer, g_slice, g_map, g_func, g_nilFunc, g_iface, g_nil_iface, g_nil_r, g_nil_l, eX, ↓reduceIte, Nat.reduceEqDiff, Int.reduceToNat]
  rw [e_eql _ _ _ _ (by simp)]
  rw [q_equal]
  first | rw [q_ptr_nil _ _ _ Try.underlying72] | rw [q_nil_ptr _ _ _ Try.underlying72]
  try simp only [eX, ↓reduceIte, Nat.reduceEqDiff, Int.reduceToNat]
  refine hK _ _ ?_; clear hK K
  refine OW_mv rfl ?_
  (first | refine OW_split (d := 5) rfl (fun g5 => ?_) (fun g5 => ?_) | skip)
  all_goals try (exfalso; exact cnA g5)
  all_goals (try simp only [decide_eq_true_eq, decide_eq_false_iff_not, Bool.not_eq_true, Bool.not_eq_false, Bool.and_eq_true, Bool.or_eq_true, Bool.or_eq_false_iff, Bool.not_eq_true, Bool.not_eq_eq_eq_not, Bool.not_true, Bool.not_false] at g5)
  all_goals
    try simp only [eX, ↓reduceIte, Nat.reduceEqDiff, Int.reduceToNat]
    first
    | refine OW_guardT rfl (lt_some (by decide)) rfl (fun K hK r => ?_)
      simp only [x_move, eX, ↓reduceIte, Nat.reduceEqDiff, Int.reduceToNat]
      refine hK _ _ ?_; clear hK K
    | refine OW_guardF rfl (lt_some (by decide)) rfl ?_
      simp only [eX, ↓reduceIte, Nat.reduceEqDiff, Int.reduceToNat]
    first
    | refine OW_guardT rfl (lt_some (by decide)) rfl (fun K hK r => ?_)
      rw [x_nilCheck _ _ rfl]
      simp only [eX, ↓reduceIte, Nat.reduceEqDiff, Int.reduceToNat]
      refine hK _ _ ?_; clear hK K
    | refine OW_guardF rfl (lt_some (by decide)) rfl ?_
      simp only [eX, ↓reduceIte, Nat.reduceEqDiff, Int.reduceToNat]
    first
    | refine OW_guardT rfl (lt_some (by decide)) rfl (fun K hK r => ?_)
      simp only [x_fieldAddr, fa93_1, add_mk, Nat.reduceAdd, Nat.zero_add, eX, ↓reduceIte, Nat.reduceEqDiff, Int.reduceToNat]
      refine hK _ _ ?_; clear hK K
    | refine OW_guardF rfl (lt_some (by decide)) rfl ?_
      simp only [eX, ↓reduceIte, Nat.reduceEqDiff, Int.reduceToNat]
    first
    | refine OW_guardT rfl (lt_some (by decide)) rfl (fun K hK r => ?_)
      simp only [x_load, eX, ↓reduceIte, Nat.reduceEqDiff, Int.reduceToNat]
      refine Lt_loadAt1 Try.underlying4 rfl hbA ldA ?_
      try simp only [eX, ↓reduceIte, Nat.reduceEqDiff, Int.reduceToNat]
      refine hK _ _ ?_; clear hK K
    | refine OW_guardF rfl (lt_some (by decide)) rfl ?_
      simp only [eX, ↓reduceIte, Nat.reduceEqDiff, Int.reduceToNat]
    refine OW_opS (fun K hK r => ?_)
    simp only [x_pick, l_asBool, HL.ite_bool, if_true, if_false, Bool.false_eq_true, eX, ↓reduceIte, Nat.reduceEqDiff, Int.reduceToNat]
    refine hK _ _ ?_; clear hK K
    refine OW_mv rfl ?_
    (first | refine OW_split (d := 11) rfl (fun g11 => ?_) (fun g11 => ?_) | skip)
    all_goals try (exfalso; exact cnA g11)
    all_goals (try simp only [decide_eq_true_eq, decide_eq_false_iff_not, Bool.not_eq_true, Bool.not_eq_false, Bool.and_eq_true, Bool.or_eq_true, Bool.or_eq_false_iff, Bool.not_eq_true, Bool.not_eq_eq_eq_not, Bool.not_true, Bool.not_false] at g11)
    all_goals
      try simp only [eX, ↓reduceIte, Nat.reduceEqDiff, Int.reduceToNat]
      first
      | refine OW_guardT rfl (lt_some (by decide)) rfl (fun K hK r => ?_)
        simp only [x_move, eX, ↓reduceIte, Nat.reduceEqDiff, Int.reduceToNat]
        refine hK _ _ ?_; clear hK K
      | refine OW_guardF rfl (lt_some (by decide)) rfl ?_
        simp only [eX, ↓reduceIte, Nat.reduceEqDiff, Int.reduceToNat]
      first
      | refine OW_guardT rfl (lt_some (by decide)) rfl (fun K hK r => ?_)
        rw [x_nilCheck _ _ rfl]
        simp only [eX, ↓reduceIte, Nat.reduceEqDiff, Int.reduceToNat]
        refine hK _ _ ?_; clear hK K
      | refine OW_guardF rfl (lt_some (by decide)) rfl ?_
        simp only [eX, ↓reduceIte, Nat.reduceEqDiff, Int.reduceToNat]
      first
      | refine OW_guardT rfl (lt_some (by decide)) rfl (fun K hK r => ?_)
        simp only [x_fieldAddr, fa93_0, add_mk, Nat.reduceAdd, Nat.zero_add, eX, ↓reduceIte, Nat.reduceEqDiff, Int.reduceToNat]
        refine hK _ _ ?_; clear hK K
      | refine OW_guardF rfl (lt_some (by decide)) rfl ?_
        simp only [eX, ↓reduceIte, Nat.reduceEqDiff, Int.reduceToNat]
      first
      | refine OW_guardT rfl (lt_some (by decide)) rfl (fun K hK r => ?_)
        simp only [x_load, eX, ↓reduceIte, Nat.reduceEqDiff, Int.reduceToNat]
        refine Lt_loadAt1 Try.underlying33 rfl hbA ldA ?_
        try simp only [eX, ↓reduceIte, Nat.reduceEqDiff, Int.reduceToNat]
        refine hK _ _ ?_; clear hK K
      | refine OW_guardF rfl (lt_some (by decide)) rfl ?_
        simp only [eX, ↓reduceIte, Nat.reduceEqDiff, Int.reduceToNat]
      first
      | refine OW_guardT rfl (lt_some (by decide)) rfl (fun K hK r => ?_)
        simp only [x_builtin, l_len, List.map_toArray, List.map_cons, List.map_nil, i_len_slice _ _ Try.underlying33, eX, ↓reduceIte, Nat.reduceEqDiff, Int.reduceToNat]
        refine hK _ _ ?_; clear hK K
      | refine OW_guardF rfl (lt_some (by decide)) rfl ?_
        simp only [eX, ↓reduceIte, Nat.reduceEqDiff, Int.reduceToNat]
      first
      | refine OW_guardT rfl (lt_some (by decide)) rfl (fun K hK r => ?_)
        simp (disch := (first | omega | decide)) only [x_bin, g_int, b_gtr, dec_lt_t, dec_lt_f, dec_le_t, dec_le_f, dec_eq_t, dec_eq_f, Bool.not_true, Bool.not_false, eX, ↓reduceIte, Nat.reduceEqDiff, Int.reduceToNat]
        refine hK _ _ ?_; clear hK K
      | refine OW_guardF rfl (lt_some (by decide)) rfl ?_
        simp only [eX, ↓reduceIte, Nat.reduceEqDiff, Int.reduceToNat]
      refine OW_opS (fun K hK r => ?_)
      simp only [x_pick, l_asBool, HL.ite_bool, if_true, if_false, Bool.false_eq_true, eX, ↓reduceIte, Nat.reduceEqDiff, Int.reduceToNat]
      refine hK _ _ ?_; clear hK K
      refine OW_nil ?_
      try simp only [Ex.thnH, Ex.inBlockH, ↓reduceIte, Nat.reduceEqDiff]
      refine hK3 _ _ ?_; try clear hK3 K3
      refine CW_cond (fun r => rfl) (fun c18 => ?_) (fun c18 => ?_)
      · first
        | (exfalso; exact cnA c18; done)
        | skip
          (try simp only [decide_eq_true_eq, decide_eq_false_iff_not, Bool.not_eq_true, Bool.not_eq_false, Bool.and_eq_true, Bool.or_eq_true, Bool.or_eq_false_iff, Bool.not_eq_true, Bool.not_eq_eq_eq_not, Bool.not_true, Bool.not_false] at c18)
          refine CW_seq (fun K4 hK4 => ?_)
          refine CW_region ?_
          refine OW_opS (fun K hK r => ?_)
          simp only [x_makeInterface, i_makeInterface, Try.underlying40, orF_some, eX, ↓reduceIte, Nat.reduceEqDiff, Int.reduceToNat]
          refine hK _ _ ?_; clear hK K
          refine OW_as rfl ?_
          refine OW_nil ?_
          try simp only [Ex.thnH, Ex.inBlockH, ↓reduceIte, Nat.reduceEqDiff]
          refine hK4 _ _ ?_; try clear hK4 K4
          refine CW_ret ?_
          try simp only [Ex.thnH, Ex.inBlockH, ↓reduceIte, Nat.reduceEqDiff]
          refine ⟨[_], ⟨rfl, trivial⟩, _, Le.refl _, ?_, rfl⟩
          have e : endE bad l = some 2 := by
            unfold endE; rw [if_pos]
            first | (left; assumption) | (left; simp_all; done) | (right; intro h; subst h; simp_all; done) | (right; intro h; subst h; simp at *; omega)
          rw [e]; rfl
      · first
        | (exfalso; exact cnA c18; done)
        | skip
          (try simp only [decide_eq_true_eq, decide_eq_false_iff_not, Bool.not_eq_true, Bool.not_eq_false, Bool.and_eq_true, Bool.or_eq_true, Bool.or_eq_false_iff, Bool.not_eq_true, Bool.not_eq_eq_eq_not, Bool.not_true, Bool.not_false] at c18)
          refine CW_skip ?_
          try simp only [Ex.thnH, Ex.inBlockH, ↓reduceIte, Nat.reduceEqDiff]
          refine hK2 _ _ ?_; try clear hK2 K2
          refine CW_seq (fun K5 hK5 => ?_)
          refine CW_region ?_
          refine OW_as rfl ?_
          refine OW_nil ?_
          try simp only [Ex.thnH, Ex.inBlockH, ↓reduceIte, Nat.reduceEqDiff]
          refine hK5 _ _ ?_; try clear hK5 K5
          refine CW_ret ?_
          try simp only [Ex.thnH, Ex.inBlockH, ↓reduceIte, Nat.reduceEqDiff]
          refine ⟨[_], ⟨rfl, trivial⟩, _, Le.refl _, ?_, rfl⟩
          have e : endE bad l = none := by
            unfold endE; rw [if_neg]
            rintro (h | h)
            · simp_all
            · exact h (List.eq_nil_of_length_eq_zero (by first | omega | (simp_all; done) | (simp_all; omega)))
          rw [e]; rfl

set_option maxRecDepth 100000 in
set_option maxHeartbeats 1000000 in
theorem rLeft_ok (H : Hp) (p : Nat) (a : Option Addr) (cap : Nat) (l : List Int) (bad : Bool) (hr : RD H p a cap l bad) : CallH Try.prog 35 #[.pointer (some ⟨p, 0, none⟩)] H (fun v H' => v = .int .i64 l.length ∧ H' = H) := by
  refine CallH_enter (l := [_]) (rl := [.tmp 2]) (n := 10) Try.func35 rfl rfl rfl rfl rfl ?_
  simp only [envOf, Nat.reduceAdd]
  obtain ⟨hp, hcap, hh, hbad⟩ := hr
  refine CW_seq (fun K1 hK1 => ?_)
  refine CW_region ?_
  refine OW_as rfl ?_
  refine OW_nil ?_
  try simp only [Ex.thnH, Ex.inBlockH, ↓reduceIte, Nat.reduceEqDiff]
  refine hK1 _ _ ?_; try clear hK1 K1
  refine CW_seq (fun K2 hK2 => ?_)
  refine CW_seq (fun K3 hK3 => ?_)
  refine CW_region ?_
  refine OW_mv rfl ?_
  refine OW_opS (fun K hK r => ?_)
  simp only [x_bin, g_int, g_bool, g_string, g_pointer, g_slice, g_map, g_func, g_nilFunc, g_iface, g_nil_iface, g_nil_r, g_nil_l, eX, ↓reduceIte, Nat.reduceEqDiff, Int.reduceToNat]
  rw [e_eql _ _ _ _ (by simp)]
  rw [q_equal]
  first | rw [q_ptr_nil _ _ _ Try.underlying72] | rw [q_nil_ptr _ _ _ Try.underlying72]
  try simp only [eX, ↓reduceIte, Nat.reduceEqDiff, Int.reduceToNat]
  refine hK _ _ ?_; clear hK K
  refine OW_nil ?_
  try simp only [Ex.thnH, Ex.inBlockH, ↓reduceIte, Nat.reduceEqDiff]
  refine hK3 _ _ ?_; try clear hK3 K3
  refine CW_cond (fun r => rfl) (fun c4 => ?_) (fun c4 => ?_)
  · first
    | (exfalso; exact cnA c4; done)
    | skip
      (try simp only [decide_eq_true_eq, decide_eq_false_iff_not, Bool.not_eq_true, Bool.not_eq_false, Bool.and_eq_true, Bool.or_eq_true, Bool.or_eq_false_iff, Bool.not_eq_true, Bool.not_eq_eq_eq_not, Bool.not_true, Bool.not_false] at c4)
      refine CW_seq (fun K4 hK4 => ?_)
      refine CW_region ?_
      refine OW_as rfl ?_
      refine OW_nil ?_
      try simp only [Ex.thnH, Ex.inBlockH, ↓reduceIte, Nat.reduceEqDiff]
      refine hK4 _ _ ?_; try clear hK4 K4
      refine CW_ret ?_
      try simp only [Ex.thnH, Ex.inBlockH, ↓reduceIte, Nat.reduceEqDiff]
      exfalso; simp_all
  · first
    | (exfalso; exact cnA c4; done)
    | skip
      (try simp only [decide_eq_true_eq, decide_eq_false_iff_not, Bool.not_eq_true, Bool.not_eq_false, Bool.and_eq_true, Bool.or_eq_true, Bool.or_eq_false_iff, Bool.not_eq_true, Bool.not_eq_eq_eq_not, Bool.not_true, Bool.not_false] at c4)
      refine CW_skip ?_
      try simp only [Ex.thnH, Ex.inBlockH, ↓reduceIte, Nat.reduceEqDiff]
      refine hK2 _ _ ?_; try clear hK2 K2
      refine CW_seq (fun K5 hK5 => ?_)
      refine CW_region ?_
      refine OW_mv rfl ?_
      refine OW_opS (fun K hK r => ?_)
      rw [x_nilCheck _ _ rfl]
      simp only [eX, ↓reduceIte, Nat.reduceEqDiff, Int.reduceToNat]
      refine hK _ _ ?_; clear hK K
      refine OW_opS (fun K hK r => ?_)
      simp only [x_fieldAddr, fa93_0, add_mk, Nat.reduceAdd, Nat.zero_add, eX, ↓reduceIte, Nat.reduceEqDiff, Int.reduceToNat]
      refine hK _ _ ?_; clear hK K
      refine OW_opS (fun K hK r => ?_)
      simp only [x_load, eX, ↓reduceIte, Nat.reduceEqDiff, Int.reduceToNat]
      refine Lt_loadAt1 Try.underlying33 rfl hbA ldA ?_
      try simp only [eX, ↓reduceIte, Nat.reduceEqDiff, Int.reduceToNat]
      refine hK _ _ ?_; clear hK K
      refine OW_opS (fun K hK r => ?_)
      simp only [x_builtin, l_len, List.map_toArray, List.map_cons, List.map_nil, i_len_slice _ _ Try.underlying33, eX, ↓reduceIte, Nat.reduceEqDiff, Int.reduceToNat]
      refine hK _ _ ?_; clear hK K
      refine OW_as rfl ?_
      refine OW_nil ?_
      try simp only [Ex.thnH, Ex.inBlockH, ↓reduceIte, Nat.reduceEqDiff]
      refine hK5 _ _ ?_; try clear hK5 K5
      refine CW_ret ?_
      try simp only [Ex.thnH, Ex.inBlockH, ↓reduceIte, Nat.reduceEqDiff]
      exact ⟨[_], ⟨rfl, trivial⟩, _, Le.refl _, rfl, rfl⟩

set_option maxRecDepth 100000 in
set_option maxHeartbeats 1000000 in
theorem newReader_ok (H : Hp) (v : Value) (l : List Int) (hv : Holds H 1 v l.length (u8s l)) (hl : l.length ≤ 10000000) : CallH Try.prog 33 #[v] H (fun v' H' => Le H H' ∧ ∃ p a cap, v' = .pointer (some ⟨p, 0, none⟩) ∧ H p = none ∧ RD H' p a cap l false ∧ ∀ A, a = some A → H A.block = none ∧ A.block ≠ p ∧ ∃ c, H' A.block = some (.cells c 5) ∧ A = ⟨A.block, 0, none⟩) := by
  refine CallH_enter (l := [_]) (rl := [.tmp 2]) (n := 7) Try.func33 rfl rfl rfl rfl rfl ?_
  simp only [envOf, Nat.reduceAdd]
  refine CW_seq (fun K1 hK1 => ?_)
  refine CW_region ?_
  refine OW_as rfl ?_
  refine OW_nil ?_
  try simp only [Ex.thnH, Ex.inBlockH, ↓reduceIte, Nat.reduceEqDiff]
  refine hK1 _ _ ?_; try clear hK1 K1
  refine CW_seq (fun K2 hK2 => ?_)
  refine CW_region ?_
  refine OW_mv rfl ?_
  refine OW_opS (fun K hK r => ?_)
  simp only [x_callF _ bd50, List.map_toArray, List.map_cons, List.map_nil, eX, ↓reduceIte, Nat.reduceEqDiff, Int.reduceToNat]
  refine (clone_ok _ v l hv hl).mono ?_
  rintro v4 H4 ⟨hl4, rs4, ho4, hr4⟩
  have lH4_H : Le H H4 := hl4
  obtain ⟨a4, c4, rfl, hc4⟩ := ho4.capOk
  have ha4 := ho4.addr
  try simp only [eX, ↓reduceIte, Nat.reduceEqDiff, Int.reduceToNat]
  refine hK _ _ ?_; clear hK K
  refine OW_opS (fun K hK r => ?_)
  simp only [x_build, bp93, List.map_toArray, List.map_cons, List.map_nil, eX, ↓reduceIte, Nat.reduceEqDiff, Int.reduceToNat]
  rw [fill_one rfl clA bdA]
  simp only [fill_nil, orF_some, List.setIfInBounds_toArray, List.set_cons_zero, List.set_cons_succ]
  try simp only [eX, ↓reduceIte, Nat.reduceEqDiff, Int.reduceToNat]
  refine hK _ _ ?_; clear hK K
  refine OW_opS (fun K hK r => ?_)
  simp only [x_box, Value.cells, eX, ↓reduceIte, Nat.reduceEqDiff, Int.reduceToNat]
  intro b6 hb6
  have f6_H : H b6 = none := none_of_le lhA hb6
  try simp only [eX, ↓reduceIte, Nat.reduceEqDiff, Int.reduceToNat]
  refine hK _ _ ?_; clear hK K
  refine OW_as rfl ?_
  refine OW_nil ?_
  try simp only [Ex.thnH, Ex.inBlockH, ↓reduceIte, Nat.reduceEqDiff]
  refine hK2 _ _ ?_; try clear hK2 K2
  refine CW_ret ?_
  try simp only [Ex.thnH, Ex.inBlockH, ↓reduceIte, Nat.reduceEqDiff]
  refine ⟨[_], ⟨rfl, trivial⟩, _, Le.refl _, lhA, b6, a4, c4, rfl, f6_H, ⟨upd_same _ _ _, hc4, ho4.holds.le (le_upd _ _ _ hb6), fun h => by cases h⟩, fun A hA => ?_⟩
  obtain ⟨h1, h2⟩ := ha4 A hA
  have hk := ho4.known _ h1
  have hne : A.block ≠ b6 := fun e => by rw [e, hb6] at hk; exact hk rfl
  have hc9 : ∃ c, H4 A.block = some (.cells c 5) := by
    obtain ⟨_, ⟨_, _, h9⟩ | ⟨r, cap', c, _, h4, _, _, _, h8⟩⟩ := ho4
    · rw [h9] at h1; cases h1
    · rw [h8] at h1; cases h1
      exact ⟨c, h4⟩
  obtain ⟨c9, h9⟩ := hc9
  exact ⟨hr4 _ h1, hne, c9, (upd_ne _ _ hne).trans h9, h2⟩

end Go.Proofs.Ytlkopcgoaldpeaa.HL
end
section
namespace Go.Proofs.Ytlkopcgoaldpeaa.HL
open Go Go.Proofs
set_option linter.unusedSimpArgs false
set_option linter.unusedVariables false
attribute [local irreducible] Lt Lq CW OW TW CallH

set_option maxRecDepth 100000 in
set_option maxHeartbeats 4000000 in
theorem num_Num_flt (H : Hp) (b : Nat) (n : Int) (hb : H b = some (fltO n)) : CallH Try.prog 32 #[fltV (some b)] H (fun v H' => v = .int .i64 5 ∧ H' = H) := by
  refine CallH_enter (l := [_]) (rl := [.tmp 2]) (n := 45) Try.func32 rfl rfl rfl rfl rfl ?_
  simp only [envOf, Nat.reduceAdd]
  show CW _ _ _ _ _ [(0, .iface 68 (.pointer (some ⟨b, 0, none⟩)))] H
  refine CW_seq (fun K1 hK1 => ?_)
  refine CW_region ?_
  refine OW_as rfl ?_
  refine OW_nil ?_
  try simp only [Ex.thnH, Ex.inBlockH, ↓reduceIte, Nat.reduceEqDiff]
  refine hK1 _ _ ?_; try clear hK1 K1
  refine CW_seq (fun K2 hK2 => ?_)
  refine CW_seq (fun K3 hK3 => ?_)
  refine CW_region ?_
  refine OW_mv rfl ?_
  refine OW_nil ?_
  try simp only [Ex.thnH, Ex.inBlockH, ↓reduceIte, Nat.reduceEqDiff]
  refine hK3 _ _ ?_; try clear hK3 K3
  refine CW_block ?_
  refine CW_loop (fun m e H_ => ((m = 1 ∧ Env.has [(0, .iface 68 (.pointer (some ⟨b, 0, none⟩))), (7, .int .i64 0)] e) ∨ (m = 0 ∧ Env.has [(0, .iface 40 (.int .i64 5)), (7, .int .i64 1)] e)) ∧ H_ = H) (1) ?_ ?_
  · skip
    exact ⟨.inl ⟨rfl, rfl, rfl, trivial⟩, rfl⟩
  intro m_ e_ H_ hI_
  obtain ⟨⟨rfl, he⟩ | ⟨rfl, he⟩, hH_⟩ := hI_
  all_goals (have hH_ := hH_.symm; subst hH_)
  all_goals (refine CW_env he.sub ?_; clear he e_)
  all_goals
    refine CW_seq (fun K4 hK4 => ?_)
    refine CW_region ?_
    refine OW_opS (fun K hK r => ?_)
    simp (disch := (first | omega | decide)) only [x_bin, g_int, b_lss, dec_lt_t, dec_lt_f, dec_le_t, dec_le_f, dec_eq_t, dec_eq_f, Bool.not_true, Bool.not_false, eX, ↓reduceIte, Nat.reduceEqDiff, Int.reduceToNat]
    refine hK _ _ ?_; clear hK K
    refine OW_nil ?_
    try simp only [Ex.thnH, Ex.inBlockH, ↓reduceIte, Nat.reduceEqDiff]
    refine hK4 _ _ ?_; try clear hK4 K4
    refine CW_seq (fun K5 hK5 => ?_)
    refine CW_cond (fun r => rfl) (fun c8 => ?_) (fun c8 => ?_)
    · first
      | (exfalso; exact cnA c8; done)
      | skip
        (try simp only [decide_eq_true_eq, decide_eq_false_iff_not, Bool.not_eq_true, Bool.not_eq_false, Bool.and_eq_true, Bool.or_eq_true, Bool.or_eq_false_iff, Bool.not_eq_true, Bool.not_eq_eq_eq_not, Bool.not_true, Bool.not_false] at c8)
        refine CW_skip ?_
        try simp only [Ex.thnH, Ex.inBlockH, ↓reduceIte, Nat.reduceEqDiff]
        refine hK5 _ _ ?_; try clear hK5 K5
        refine CW_seq (fun K6 hK6 => ?_)
        refine CW_block ?_
        refine CW_seq (fun K7 hK7 => ?_)
        refine CW_seq (fun K8 hK8 => ?_)
        refine CW_region ?_
        refine OW_mv rfl ?_
        refine OW_opS (fun K hK r => ?_)
        simp only [x_bin, g_int, g_bool, g_string, g_pointer, g_slice, g_map, g_func, g_nilFunc, g_err, g_ifv, g_iface, g_nil_iface, g_nil_r, g_nil_l, eX, ↓reduceIte, Nat.reduceEqDiff, Int.reduceToNat]
        first | rw [b_err_eql _ _ Try.underlying35] | rw [b_ifv_eql _ _ Try.underlying35] | (rw [e_eql _ _ _ _ (by simp), q_equal]; first | rw [q_iface_nil _ _ _ Try.underlying35] | rw [q_nil_iface _ _ _ Try.underlying35] | rw [q_nil_nil _ _ _ Try.underlying35])
        try simp only [eX, ↓reduceIte, Nat.reduceEqDiff, Int.reduceToNat]
        refine hK _ _ ?_; clear hK K
        refine OW_nil ?_
        try simp only [Ex.thnH, Ex.inBlockH, ↓reduceIte, Nat.reduceEqDiff]
        refine hK8 _ _ ?_; try clear hK8 K8
        refine CW_cond (fun r => rfl) (fun c10 => ?_) (fun c10 => ?_)
        · first
          | (exfalso; exact cnA c10; done)
          | skip
            (try simp only [decide_eq_true_eq, decide_eq_false_iff_not, Bool.not_eq_true, Bool.not_eq_false, Bool.and_eq_true, Bool.or_eq_true, Bool.or_eq_false_iff, Bool.not_eq_true, Bool.not_eq_eq_eq_not, Bool.not_true, Bool.not_false] at c10)
            refine CW_seq (fun K9 hK9 => ?_)
            refine CW_region ?_
            refine OW_as rfl ?_
            refine OW_nil ?_
            try simp only [Ex.thnH, Ex.inBlockH, ↓reduceIte, Nat.reduceEqDiff]
            refine hK9 _ _ ?_; try clear hK9 K9
            refine CW_ret ?_
            try simp only [Ex.thnH, Ex.inBlockH, ↓reduceIte, Nat.reduceEqDiff]
            first | exact ⟨[_], ⟨rfl, trivial⟩, _, Le.refl _, rfl, rfl⟩ | (exfalso; simp_all; done)
        · first
          | (exfalso; exact cnA c10; done)
          | skip
            (try simp only [decide_eq_true_eq, decide_eq_false_iff_not, Bool.not_eq_true, Bool.not_eq_false, Bool.and_eq_true, Bool.or_eq_true, Bool.or_eq_false_iff, Bool.not_eq_true, Bool.not_eq_eq_eq_not, Bool.not_true, Bool.not_false] at c10)
            refine CW_skip ?_
            try simp only [Ex.thnH, Ex.inBlockH, ↓reduceIte, Nat.reduceEqDiff]
            refine hK7 _ _ ?_; try clear hK7 K7
            refine CW_seq (fun K10 hK10 => ?_)
            refine CW_seq (fun K11 hK11 => ?_)
            refine CW_region ?_
            refine OW_mv rfl ?_
            refine OW_opS (fun K hK r => ?_)
            simp only [x_typeAssert, eX, ↓reduceIte, Nat.reduceEqDiff, Int.reduceToNat]
            first | rw [t_same _ _ _ Try.underlying40 (by simp)] | rw [t_other _ _ _ _ Try.underlying40 (by simp) (by decide) _ _ zr40] | rw [t_nil _ _ _ Try.underlying40 (by simp) _ zr40]
            try simp only [if_true, Bool.false_eq_true, if_false]
            try simp only [eX, ↓reduceIte, Nat.reduceEqDiff, Int.reduceToNat]
            refine hK _ _ ?_; clear hK K
            refine OW_mv rfl ?_
            refine OW_opS (fun K hK r => ?_)
            simp only [x_extract, i_extract, List.getElem?_toArray, List.getElem?_cons_zero, List.getElem?_cons_succ, orF_some, eX, ↓reduceIte, Nat.reduceEqDiff, Int.reduceToNat]
            refine hK _ _ ?_; clear hK K
            refine OW_opS (fun K hK r => ?_)
            simp only [x_extract, i_extract, List.getElem?_toArray, List.getElem?_cons_zero, List.getElem?_cons_succ, orF_some, eX, ↓reduceIte, Nat.reduceEqDiff, Int.reduceToNat]
            refine hK _ _ ?_; clear hK K
            refine OW_as rfl ?_
            refine OW_as rfl ?_
            refine OW_nil ?_
            try simp only [Ex.thnH, Ex.inBlockH, ↓reduceIte, Nat.reduceEqDiff]
            refine hK11 _ _ ?_; try clear hK11 K11
            refine CW_seq (fun K12 hK12 => ?_)
            refine CW_region ?_
            refine OW_mv rfl ?_
            refine OW_mv rfl ?_
            (first | refine OW_split (d := 17) rfl (fun g17 => ?_) (fun g17 => ?_) | skip)
            all_goals try (exfalso; exact cnA g17)
            all_goals (try simp only [decide_eq_true_eq, decide_eq_false_iff_not, Bool.not_eq_true, Bool.not_eq_false, Bool.and_eq_true, Bool.or_eq_true, Bool.or_eq_false_iff, Bool.not_eq_true, Bool.not_eq_eq_eq_not, Bool.not_true, Bool.not_false] at g17)
            all_goals
              try simp only [eX, ↓reduceIte, Nat.reduceEqDiff, Int.reduceToNat]
              first
              | refine OW_guardT rfl (lt_some (by decide)) rfl (fun K hK r => ?_)
                simp only [x_move, eX, ↓reduceIte, Nat.reduceEqDiff, Int.reduceToNat]
                refine hK _ _ ?_; clear hK K
              | refine OW_guardF rfl (lt_some (by decide)) rfl ?_
                simp only [eX, ↓reduceIte, Nat.reduceEqDiff, Int.reduceToNat]
              first
              | refine OW_guardT rfl (lt_some (by decide)) rfl (fun K hK r => ?_)
                simp (disch := (first | omega | decide)) only [x_bin, g_int, b_neq, dec_lt_t, dec_lt_f, dec_le_t, dec_le_f, dec_eq_t, dec_eq_f, Bool.not_true, Bool.not_false, eX, ↓reduceIte, Nat.reduceEqDiff, Int.reduceToNat]
                refine hK _ _ ?_; clear hK K
              | refine OW_guardF rfl (lt_some (by decide)) rfl ?_
                simp only [eX, ↓reduceIte, Nat.reduceEqDiff, Int.reduceToNat]
              refine OW_opS (fun K hK r => ?_)
              simp only [x_pick, l_asBool, HL.ite_bool, if_true, if_false, Bool.false_eq_true, eX, ↓reduceIte, Nat.reduceEqDiff, Int.reduceToNat]
              refine hK _ _ ?_; clear hK K
              refine OW_nil ?_
              try simp only [Ex.thnH, Ex.inBlockH, ↓reduceIte, Nat.reduceEqDiff]
              refine hK12 _ _ ?_; try clear hK12 K12
              refine CW_cond (fun r => rfl) (fun c20 => ?_) (fun c20 => ?_)
              · first
                | (exfalso; exact cnA c20; done)
                | skip
                  (try simp only [decide_eq_true_eq, decide_eq_false_iff_not, Bool.not_eq_true, Bool.not_eq_false, Bool.and_eq_true, Bool.or_eq_true, Bool.or_eq_false_iff, Bool.not_eq_true, Bool.not_eq_eq_eq_not, Bool.not_true, Bool.not_false] at c20)
                  refine CW_seq (fun K13 hK13 => ?_)
                  refine CW_region ?_
                  refine OW_mv rfl ?_
                  refine OW_as rfl ?_
                  refine OW_nil ?_
                  try simp only [Ex.thnH, Ex.inBlockH, ↓reduceIte, Nat.reduceEqDiff]
                  refine hK13 _ _ ?_; try clear hK13 K13
                  refine CW_ret ?_
                  try simp only [Ex.thnH, Ex.inBlockH, ↓reduceIte, Nat.reduceEqDiff]
                  first | exact ⟨[_], ⟨rfl, trivial⟩, _, Le.refl _, rfl, rfl⟩ | (exfalso; simp_all; done)
              · first
                | (exfalso; exact cnA c20; done)
                | skip
                  (try simp only [decide_eq_true_eq, decide_eq_false_iff_not, Bool.not_eq_true, Bool.not_eq_false, Bool.and_eq_true, Bool.or_eq_true, Bool.or_eq_false_iff, Bool.not_eq_true, Bool.not_eq_eq_eq_not, Bool.not_true, Bool.not_false] at c20)
                  refine CW_skip ?_
                  try simp only [Ex.thnH, Ex.inBlockH, ↓reduceIte, Nat.reduceEqDiff]
                  refine hK10 _ _ ?_; try clear hK10 K10
                  refine CW_seq (fun K14 hK14 => ?_)
                  refine CW_region ?_
                  refine OW_mv rfl ?_
                  refine OW_opS (fun K hK r => ?_)
                  simp only [x_typeAssert, eX, ↓reduceIte, Nat.reduceEqDiff, Int.reduceToNat]
                  first | rw [t_same _ _ _ Try.underlying68 (by simp)] | rw [t_other _ _ _ _ Try.underlying68 (by simp) (by decide) _ _ zr68] | rw [t_nil _ _ _ Try.underlying68 (by simp) _ zr68]
                  try simp only [if_true, Bool.false_eq_true, if_false]
                  try simp only [eX, ↓reduceIte, Nat.reduceEqDiff, Int.reduceToNat]
                  refine hK _ _ ?_; clear hK K
                  refine OW_mv rfl ?_
                  refine OW_opS (fun K hK r => ?_)
                  simp only [x_extract, i_extract, List.getElem?_toArray, List.getElem?_cons_zero, List.getElem?_cons_succ, orF_some, eX, ↓reduceIte, Nat.reduceEqDiff, Int.reduceToNat]
                  refine hK _ _ ?_; clear hK K
                  refine OW_opS (fun K hK r => ?_)
                  simp only [x_extract, i_extract, List.getElem?_toArray, List.getElem?_cons_zero, List.getElem?_cons_succ, orF_some, eX, ↓reduceIte, Nat.reduceEqDiff, Int.reduceToNat]
                  refine hK _ _ ?_; clear hK K
                  refine OW_as rfl ?_
                  refine OW_as rfl ?_
                  refine OW_nil ?_
                  try simp only [Ex.thnH, Ex.inBlockH, ↓reduceIte, Nat.reduceEqDiff]
                  refine hK14 _ _ ?_; try clear hK14 K14
                  refine CW_seq (fun K15 hK15 => ?_)
                  refine CW_seq (fun K16 hK16 => ?_)
                  refine CW_region ?_
                  refine OW_mv rfl ?_
                  refine OW_opS (fun K hK r => ?_)
                  simp only [x_un, u_not, eX, ↓reduceIte, Nat.reduceEqDiff, Int.reduceToNat]
                  refine hK _ _ ?_; clear hK K
                  refine OW_mv rfl ?_
                  (first | refine OW_split (d := 29) rfl (fun g29 => ?_) (fun g29 => ?_) | skip)
                  all_goals try (exfalso; exact cnA g29)
                  all_goals (try simp only [decide_eq_true_eq, decide_eq_false_iff_not, Bool.not_eq_true, Bool.not_eq_false, Bool.and_eq_true, Bool.or_eq_true, Bool.or_eq_false_iff, Bool.not_eq_true, Bool.not_eq_eq_eq_not, Bool.not_true, Bool.not_false] at g29)
                  all_goals
                    try simp only [eX, ↓reduceIte, Nat.reduceEqDiff, Int.reduceToNat]
                    first
                    | refine OW_guardT rfl (lt_some (by decide)) rfl (fun K hK r => ?_)
                      simp only [x_move, eX, ↓reduceIte, Nat.reduceEqDiff, Int.reduceToNat]
                      refine hK _ _ ?_; clear hK K
                    | refine OW_guardF rfl (lt_some (by decide)) rfl ?_
                      simp only [eX, ↓reduceIte, Nat.reduceEqDiff, Int.reduceToNat]
                    first
                    | refine OW_guardT rfl (lt_some (by decide)) rfl (fun K hK r => ?_)
                      simp only [x_bin, g_int, g_bool, g_string, g_pointer, g_slice, g_map, g_func, g_nilFunc, g_iface, g_nil_iface, g_nil_r, g_nil_l, eX, ↓reduceIte, Nat.reduceEqDiff, Int.reduceToNat]
                      rw [e_eql _ _ _ _ (by simp)]
                      rw [q_equal]
                      first | rw [q_ptr_nil _ _ _ Try.underlying68] | rw [q_nil_ptr _ _ _ Try.underlying68]
                      try simp only [eX, ↓reduceIte, Nat.reduceEqDiff, Int.reduceToNat]
                      refine hK _ _ ?_; clear hK K
                    | refine OW_guardF rfl (lt_some (by decide)) rfl ?_
                      simp only [eX, ↓reduceIte, Nat.reduceEqDiff, Int.reduceToNat]
                    refine OW_opS (fun K hK r => ?_)
                    simp only [x_pick, l_asBool, HL.ite_bool, if_true, if_false, Bool.false_eq_true, eX, ↓reduceIte, Nat.reduceEqDiff, Int.reduceToNat]
                    refine hK _ _ ?_; clear hK K
                    refine OW_mv rfl ?_
                    (first | refine OW_split (d := 33) rfl (fun g33 => ?_) (fun g33 => ?_) | skip)
                    all_goals try (exfalso; exact cnA g33)
                    all_goals (try simp only [decide_eq_true_eq, decide_eq_false_iff_not, Bool.not_eq_true, Bool.not_eq_false, Bool.and_eq_true, Bool.or_eq_true, Bool.or_eq_false_iff, Bool.not_eq_true, Bool.not_eq_eq_eq_not, Bool.not_true, Bool.not_false] at g33)
                    all_goals
                      try simp only [eX, ↓reduceIte, Nat.reduceEqDiff, Int.reduceToNat]
                      first
                      | refine OW_guardT rfl (lt_some (by decide)) rfl (fun K hK r => ?_)
                        simp only [x_move, eX, ↓reduceIte, Nat.reduceEqDiff, Int.reduceToNat]
                        refine hK _ _ ?_; clear hK K
                      | refine OW_guardF rfl (lt_some (by decide)) rfl ?_
                        simp only [eX, ↓reduceIte, Nat.reduceEqDiff, Int.reduceToNat]
                      first
                      | refine OW_guardT rfl (lt_some (by decide)) rfl (fun K hK r => ?_)
                        rw [x_nilCheck _ _ rfl]
                        simp only [eX, ↓reduceIte, Nat.reduceEqDiff, Int.reduceToNat]
                        refine hK _ _ ?_; clear hK K
                      | refine OW_guardF rfl (lt_some (by decide)) rfl ?_
                        simp only [eX, ↓reduceIte, Nat.reduceEqDiff, Int.reduceToNat]
                      first
                      | refine OW_guardT rfl (lt_some (by decide)) rfl (fun K hK r => ?_)
                        simp only [x_fieldAddr, fa71_1, add_mk, Nat.reduceAdd, Nat.zero_add, eX, ↓reduceIte, Nat.reduceEqDiff, Int.reduceToNat]
                        refine hK _ _ ?_; clear hK K
                      | refine OW_guardF rfl (lt_some (by decide)) rfl ?_
                        simp only [eX, ↓reduceIte, Nat.reduceEqDiff, Int.reduceToNat]
                      first
                      | refine OW_guardT rfl (lt_some (by decide)) rfl (fun K hK r => ?_)
                        simp only [x_load, eX, ↓reduceIte, Nat.reduceEqDiff, Int.reduceToNat]
                        refine Lt_loadAt1 Try.underlying35 rfl hbA ldA ?_
                        try simp only [eX, ↓reduceIte, Nat.reduceEqDiff, Int.reduceToNat]
                        refine hK _ _ ?_; clear hK K
                      | refine OW_guardF rfl (lt_some (by decide)) rfl ?_
                        simp only [eX, ↓reduceIte, Nat.reduceEqDiff, Int.reduceToNat]
                      first
                      | refine OW_guardT rfl (lt_some (by decide)) rfl (fun K hK r => ?_)
                        simp only [x_bin, g_int, g_bool, g_string, g_pointer, g_slice, g_map, g_func, g_nilFunc, g_err, g_ifv, g_iface, g_nil_iface, g_nil_r, g_nil_l, eX, ↓reduceIte, Nat.reduceEqDiff, Int.reduceToNat]
                        first | rw [b_err_eql _ _ Try.underlying35] | rw [b_ifv_eql _ _ Try.underlying35] | (rw [e_eql _ _ _ _ (by simp), q_equal]; first | rw [q_iface_nil _ _ _ Try.underlying35] | rw [q_nil_iface _ _ _ Try.underlying35] | rw [q_nil_nil _ _ _ Try.underlying35])
                        try simp only [eX, ↓reduceIte, Nat.reduceEqDiff, Int.reduceToNat]
                        refine hK _ _ ?_; clear hK K
                      | refine OW_guardF rfl (lt_some (by decide)) rfl ?_
                        simp only [eX, ↓reduceIte, Nat.reduceEqDiff, Int.reduceToNat]
                      refine OW_opS (fun K hK r => ?_)
                      simp only [x_pick, l_asBool, HL.ite_bool, if_true, if_false, Bool.false_eq_true, eX, ↓reduceIte, Nat.reduceEqDiff, Int.reduceToNat]
                      refine hK _ _ ?_; clear hK K
                      refine OW_nil ?_
                      try simp only [Ex.thnH, Ex.inBlockH, ↓reduceIte, Nat.reduceEqDiff]
                      refine hK16 _ _ ?_; try clear hK16 K16
                      refine CW_cond (fun r => rfl) (fun c39 => ?_) (fun c39 => ?_)
                      · first
                        | (exfalso; exact cnA c39; done)
                        | skip
                          (try simp only [decide_eq_true_eq, decide_eq_false_iff_not, Bool.not_eq_true, Bool.not_eq_false, Bool.and_eq_true, Bool.or_eq_true, Bool.or_eq_false_iff, Bool.not_eq_true, Bool.not_eq_eq_eq_not, Bool.not_true, Bool.not_false] at c39)
                          refine CW_seq (fun K17 hK17 => ?_)
                          refine CW_region ?_
                          refine OW_as rfl ?_
                          refine OW_nil ?_
                          try simp only [Ex.thnH, Ex.inBlockH, ↓reduceIte, Nat.reduceEqDiff]
                          refine hK17 _ _ ?_; try clear hK17 K17
                          refine CW_ret ?_
                          try simp only [Ex.thnH, Ex.inBlockH, ↓reduceIte, Nat.reduceEqDiff]
                          first | exact ⟨[_], ⟨rfl, trivial⟩, _, Le.refl _, rfl, rfl⟩ | (exfalso; simp_all; done)
                      · first
                        | (exfalso; exact cnA c39; done)
                        | skip
                          (try simp only [decide_eq_true_eq, decide_eq_false_iff_not, Bool.not_eq_true, Bool.not_eq_false, Bool.and_eq_true, Bool.or_eq_true, Bool.or_eq_false_iff, Bool.not_eq_true, Bool.not_eq_eq_eq_not, Bool.not_true, Bool.not_false] at c39)
                          refine CW_skip ?_
                          try simp only [Ex.thnH, Ex.inBlockH, ↓reduceIte, Nat.reduceEqDiff]
                          refine hK15 _ _ ?_; try clear hK15 K15
                          refine CW_region ?_
                          refine OW_mv rfl ?_
                          refine OW_opS (fun K hK r => ?_)
                          rw [x_nilCheck _ _ rfl]
                          simp only [eX, ↓reduceIte, Nat.reduceEqDiff, Int.reduceToNat]
                          refine hK _ _ ?_; clear hK K
                          refine OW_opS (fun K hK r => ?_)
                          simp only [x_fieldAddr, fa71_1, add_mk, Nat.reduceAdd, Nat.zero_add, eX, ↓reduceIte, Nat.reduceEqDiff, Int.reduceToNat]
                          refine hK _ _ ?_; clear hK K
                          refine OW_opS (fun K hK r => ?_)
                          simp only [x_load, eX, ↓reduceIte, Nat.reduceEqDiff, Int.reduceToNat]
                          refine Lt_loadAt1 Try.underlying35 rfl hbA ldA ?_
                          try simp only [eX, ↓reduceIte, Nat.reduceEqDiff, Int.reduceToNat]
                          refine hK _ _ ?_; clear hK K
                          refine OW_as rfl ?_
                          refine OW_nil ?_
                          try simp only [Ex.thnH, Ex.inBlockH, ↓reduceIte, Nat.reduceEqDiff]
                          refine hK6 _ _ ?_; try clear hK6 K6
                          refine CW_region ?_
                          refine OW_opS (fun K hK r => ?_)
                          simp (disch := (first | omega | decide)) only [x_bin, g_int, b_add, wrap_i64, wrap_u64, wrap_u32, wrap_u8, eX, ↓reduceIte, Nat.reduceEqDiff, Int.reduceToNat]
                          refine hK _ _ ?_; clear hK K
                          refine OW_mv rfl ?_
                          refine OW_nil ?_
                          try simp only [Ex.thnH, Ex.inBlockH, ↓reduceIte, Nat.reduceEqDiff]
                          first | exact ⟨0, by omega, .inr ⟨rfl, rfl, rfl, trivial⟩, rfA⟩ | (exfalso; simp_all; done)
    · first
      | (exfalso; exact cnA c8; done)
      | skip
        (try simp only [decide_eq_true_eq, decide_eq_false_iff_not, Bool.not_eq_true, Bool.not_eq_false, Bool.and_eq_true, Bool.or_eq_true, Bool.or_eq_false_iff, Bool.not_eq_true, Bool.not_eq_eq_eq_not, Bool.not_true, Bool.not_false] at c8)
        refine CW_exit ?_
        try simp only [Ex.thnH, Ex.inBlockH, ↓reduceIte, Nat.reduceEqDiff]
        refine hK2 _ _ ?_; try clear hK2 K2
        refine CW_seq (fun K18 hK18 => ?_)
        refine CW_region ?_
        refine OW_as rfl ?_
        refine OW_nil ?_
        try simp only [Ex.thnH, Ex.inBlockH, ↓reduceIte, Nat.reduceEqDiff]
        refine hK18 _ _ ?_; try clear hK18 K18
        refine CW_ret ?_
        try simp only [Ex.thnH, Ex.inBlockH, ↓reduceIte, Nat.reduceEqDiff]
        first | exact ⟨[_], ⟨rfl, trivial⟩, _, Le.refl _, rfl, rfl⟩ | (exfalso; simp_all; done)

set_option maxRecDepth 100000 in
set_option maxHeartbeats 1000000 in
theorem num_Is_flt (H : Hp) (b : Nat) (n : Int) (hb : H b = some (fltO n)) (k : Int) : CallH Try.prog 16 #[fltV (some b), .int .i64 k] H (fun v H' => v = .bool (decide ((5 : Int) = k)) ∧ H' = H) := by
  refine CallH_enter (l := [_, _]) (rl := [.tmp 4]) (n := 9) Try.func16 rfl rfl rfl rfl rfl ?_
  simp only [envOf, Nat.reduceAdd]
  refine CW_seq (fun K1 hK1 => ?_)
  refine CW_region ?_
  refine OW_as rfl ?_
  refine OW_nil ?_
  try simp only [Ex.thnH, Ex.inBlockH, ↓reduceIte, Nat.reduceEqDiff]
  refine hK1 _ _ ?_; try clear hK1 K1
  refine CW_seq (fun K2 hK2 => ?_)
  refine CW_region ?_
  refine OW_mv rfl ?_
  refine OW_opS (fun K hK r => ?_)
  simp only [x_callF _ bd32, List.map_toArray, List.map_cons, List.map_nil, eX, ↓reduceIte, Nat.reduceEqDiff, Int.reduceToNat]
  refine (num_Num_flt _ b n hb).mono ?_
  rintro v H' ⟨rfl, rfl⟩
  try simp only [eX, ↓reduceIte, Nat.reduceEqDiff, Int.reduceToNat]
  refine hK _ _ ?_; clear hK K
  refine OW_mv rfl ?_
  refine OW_opS (fun K hK r => ?_)
  simp (disch := (first | omega | decide)) only [x_bin, g_int, b_eql, dec_lt_t, dec_lt_f, dec_le_t, dec_le_f, dec_eq_t, dec_eq_f, Bool.not_true, Bool.not_false, eX, ↓reduceIte, Nat.reduceEqDiff, Int.reduceToNat]
  refine hK _ _ ?_; clear hK K
  refine OW_as rfl ?_
  refine OW_nil ?_
  try simp only [Ex.thnH, Ex.inBlockH, ↓reduceIte, Nat.reduceEqDiff]
  refine hK2 _ _ ?_; try clear hK2 K2
  refine CW_ret ?_
  try simp only [Ex.thnH, Ex.inBlockH, ↓reduceIte, Nat.reduceEqDiff]
  exact ⟨[_], ⟨rfl, trivial⟩, _, Le.refl _, rfl, rfl⟩

end Go.Proofs.Ytlkopcgoaldpeaa.HL
end
section
namespace Go.Proofs.Ytlkopcgoaldpeaa.HL
open Go
set_option linter.unusedSimpArgs false
abbrev exC : Cd := ⟨15, 1, 0, 0, 0, 0⟩
theorem ex_check : checkP 5 [exC] = -2 := by decide
theorem ex_bytes : encP 5 [exC] = [5, 1, 15, 1] := by
  have e : ∀ n : Nat, n < 128 → cnt n = [(n : Int)] := fun n h => cnt_lt h
  have e1 : (IntKind.u64.wrap 5).toNat = 5 := by decide
  have e2 : (IntKind.u64.wrap 1).toNat = 1 := by decide
  have e3 : shp 15 = [97] := by decide
  have e4 : exC.fld 97 = 1 := by decide
  unfold encP
  rw [e1, e 5 (by decide), List.length_singleton, e 1 (by decide), List.flatMap_cons, List.flatMap_nil]
  unfold encC
  rw [show exC.op = 15 from rfl, e3, List.flatMap_cons, List.flatMap_nil]
  unfold encF
  rw [if_neg (by decide), e4, e2, e 1 (by decide)]
  rfl
theorem ex_ok : ∀ x ∈ [exC], x.ok := fun x hx => by
  simp at hx; subst hx
  constructor <;> decide
end Go.Proofs.Ytlkopcgoaldpeaa.HL
end
