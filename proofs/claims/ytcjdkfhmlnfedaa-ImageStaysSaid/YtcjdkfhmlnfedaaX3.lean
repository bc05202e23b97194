/- Parts of the proof, one behind the other: I32, I33, MdAp, I11, I12, I15, I16, I14, I17, I18. -/
import Derived.Test.YtcjdkfhmlnfedaaX2
set_option linter.unusedSimpArgs false
set_option linter.unusedVariables false
section
namespace Go.Proofs.Ytcjdkfhmlnfedaa.HL
open Go Go.Proofs
set_option linter.unusedSimpArgs false
set_option linter.unusedVariables false
attribute [local irreducible] Lt Lq CW OW TW CallH

set_option maxRecDepth 100000 in
set_option maxHeartbeats 1000000 in
theorem clone_ok (H : Hp) (v : Value) (l : List Int) (hv : Holds H 1 v l.length (u8s l)) (hl : l.length ≤ 10000000) : CallH Try.prog 60 #[v] H (fun v' H' => Le H H' ∧ ∃ rs, OwnS H' 5 1 v' l.length (u8s l) rs ∧ ∀ r, rs = some r → H r = none) := by
  refine CallH_enter (l := [_]) (rl := [.tmp 2]) (n := 8) Try.func60 rfl rfl rfl rfl rfl ?_
  simp only [envOf, Nat.reduceAdd]
  obtain ⟨a, cap, rfl⟩ := hv.form
  refine CW_seq (fun K1 hK1 => ?_)
  refine CW_region ?_
  refine OW_as rfl ?_
  refine OW_nil ?_
  try simp only [Ex.thnH, Ex.inBlockH, ↓reduceIte, Nat.reduceEqDiff]
  refine hK1 _ _ ?_; try clear hK1 K1
  refine CW_seq (fun K2 hK2 => ?_)
  refine CW_seq (fun K3 hK3 => ?_)
  refine CW_region ?_
  refine OW_mv rfl ?_
  refine OW_opS (fun K hK r => ?_)
  simp only [x_bin, g_int, g_bool, g_string, g_pointer, g_slice, g_map, g_func, g_nilFunc, g_iface, g_nil_iface, g_nil_r, g_nil_l, eX, ↓reduceIte, Nat.reduceEqDiff, Int.reduceToNat]
  rw [e_eql _ _ _ _ (by simp)]
  rw [q_equal, q_slice_nil _ _ _ Try.underlying22]
  try simp only [eX, ↓reduceIte, Nat.reduceEqDiff, Int.reduceToNat]
  refine hK _ _ ?_; clear hK K
  refine OW_nil ?_
  try simp only [Ex.thnH, Ex.inBlockH, ↓reduceIte, Nat.reduceEqDiff]
  refine hK3 _ _ ?_; try clear hK3 K3
  refine CW_cond (fun r => rfl) (fun c4 => ?_) (fun c4 => ?_)
  · first
    | (exfalso; exact cnA c4; done)
    | skip
      (try simp only [decide_eq_true_eq, decide_eq_false_iff_not, Bool.not_eq_true, Bool.not_eq_false, Bool.and_eq_true, Bool.or_eq_true, Bool.or_eq_false_iff, Bool.not_eq_true, Bool.not_eq_eq_eq_not, Bool.not_true, Bool.not_false] at c4)
      refine CW_seq (fun K4 hK4 => ?_)
      refine CW_region ?_
      refine OW_as rfl ?_
      refine OW_nil ?_
      try simp only [Ex.thnH, Ex.inBlockH, ↓reduceIte, Nat.reduceEqDiff]
      refine hK4 _ _ ?_; try clear hK4 K4
      refine CW_ret ?_
      try simp only [Ex.thnH, Ex.inBlockH, ↓reduceIte, Nat.reduceEqDiff]
      have ha : a = none := by cases a with
        | none => rfl
        | some A => simp at c4
      subst ha
      have h0 : l = [] := by
        obtain ⟨h1, ⟨_, _, h2, h3⟩ | ⟨b, o, c, _, _, _, h2, _⟩⟩ := hv
        · exact List.eq_nil_of_length_eq_zero h3
        · cases h2
      subst h0
      exact ⟨[_], ⟨rfl, trivial⟩, _, Le.refl _, Le.refl _, none, OwnS.nil _ _ _, fun r hr => by cases hr⟩
  · first
    | (exfalso; exact cnA c4; done)
    | skip
      (try simp only [decide_eq_true_eq, decide_eq_false_iff_not, Bool.not_eq_true, Bool.not_eq_false, Bool.and_eq_true, Bool.or_eq_true, Bool.or_eq_false_iff, Bool.not_eq_true, Bool.not_eq_eq_eq_not, Bool.not_true, Bool.not_false] at c4)
      refine CW_skip ?_
      try simp only [Ex.thnH, Ex.inBlockH, ↓reduceIte, Nat.reduceEqDiff]
      refine hK2 _ _ ?_; try clear hK2 K2
      refine CW_seq (fun K5 hK5 => ?_)
      refine CW_region ?_
      refine OW_opS (fun K hK r => ?_)
      simp only [x_buildSlice, List.map_toArray, List.map_cons, List.map_nil, eX, ↓reduceIte, Nat.reduceEqDiff, Int.reduceToNat]
      refine Lt_buildSlice (vs := []) Try.underlying22 sz5 zr5 rfl bsA (by first | decide | (simp; done)) ?_
      simp only [List.flatMap_cons, List.flatMap_nil, Value.cells, List.append_nil, List.cons_append, List.nil_append, List.length_cons, List.length_nil, Nat.zero_add, Nat.reduceAdd]
      intro b5 hb5
      have f5_H : H b5 = none := none_of_le lhA hb5
      try simp only [eX, ↓reduceIte, Nat.reduceEqDiff, Int.reduceToNat]
      refine hK _ _ ?_; clear hK K
      refine OW_mv rfl ?_
      refine OW_opS (fun K hK r => ?_)
      simp only [x_builtin, l_append, List.map_toArray, List.map_cons, List.map_nil, eX, ↓reduceIte, Nat.reduceEqDiff, Int.reduceToNat]
      refine Lt_appendNew Try.underlying22 sz5 by5 (by decide) zr5 rfl _ hbA (hv.le lhA) (PlainL.ints _ _) (by omega) ?_
      intro v7 H7 rs7 hg7 ho7 hr7
      have lH7_H : Le H H7 := hg7.le (H0 := H) lhA (fun r hr => by cases hr; exact f5_H)
      refine hK _ _ ?_; clear hK K
      refine OW_as rfl ?_
      refine OW_nil ?_
      try simp only [Ex.thnH, Ex.inBlockH, ↓reduceIte, Nat.reduceEqDiff]
      refine hK5 _ _ ?_; try clear hK5 K5
      refine CW_ret ?_
      try simp only [Ex.thnH, Ex.inBlockH, ↓reduceIte, Nat.reduceEqDiff]
      exact ⟨[_], ⟨rfl, trivial⟩, _, Le.refl _, lH7_H, rs7, ho7, fun r hr => by
        rcases hr7 r hr with h | h
        · subst h; exact f5_H
        · exact none_of_le lhA h⟩


/-- a list's pieces of 50 -/
def chk (l : List Int) (i : Nat) : List Int := (l.drop (50 * i)).take 50
def chN (l : List Int) : Nat := (l.length + 49) / 50
theorem chk_len {l : List Int} {i : Nat} (h : i < chN l) : 0 < (chk l i).length ∧ (chk l i).length ≤ 50 ∧ (chk l i).length = min 50 (l.length - 50 * i) := by
  unfold chN at h; unfold chk; simp; omega
def TChunk (H0 : Hp) (l : List Int) : Nat → List Value → Hp → Prop := fun i args F => F = emptyHp ∧ ∃ v, args = [v] ∧ Holds H0 1 v (chk l i).length (u8s (chk l i))
theorem holds_chk {H : Hp} {a : Option Addr} {cap : Nat} {l : List Int} (hv : Holds H 1 (.slice a l.length cap) l.length (u8s l)) {i n : Nat} (hi : i < chN l) (hn : n = (chk l i).length) (m : Nat) (hm : 50 * i + n ≤ m) :
    Holds H 1 (.slice (if m = 50 * i then a else a.map (·.add (50 * i * 1))) (50 * i + n - 50 * i) (m - 50 * i)) (50 * i + n - 50 * i) (u8s (chk l i)) := by
  have hl := chk_len hi
  have h := Holds.slice (l := 50 * i) (h := 50 * i + n) (m := m) hv (by omega) (by omega) (by omega)
  have e : ((u8s l).drop (50 * i * 1)).take ((50 * i + n - 50 * i) * 1) = u8s (chk l i) := by
    unfold chk u8s
    rw [← List.map_drop, ← List.map_take, Nat.mul_one, Nat.mul_one]
    congr 1
    have e2 : 50 * i + n - 50 * i = n := by omega
    rw [e2, hn]
    unfold chk
    simp [List.take_eq_take_iff]
  rw [e] at h; exact h

set_option maxRecDepth 100000 in
set_option maxHeartbeats 1000000 in
theorem Chunk_ok (H : Hp) (a : Option Addr) (n cap : Nat) : CallH Try.prog 59 #[.slice a n cap, .int .i64 50] H (fun v' H' => ∃ b2 b3, H b2 = none ∧ H b3 = none ∧ b2 ≠ b3 ∧ v' = .func (.func 67) #[] #[.pointer (some ⟨b2, 0, none⟩), .pointer (some ⟨b3, 0, none⟩)] ∧ H' = (H.upd b2 (.cells #[.slice a n cap] 22)).upd b3 (.cells #[.int .i64 50] 3)) := by
  refine CallH_enter (l := [_, _]) (rl := [.tmp 4]) (n := 9) Try.func59 rfl rfl rfl rfl rfl ?_
  simp only [envOf, Nat.reduceAdd]
  refine CW_seq (fun K1 hK1 => ?_)
  refine CW_region ?_
  refine OW_opS (fun K hK r => ?_)
  simp only [x_box, Value.cells, eX, ↓reduceIte, Nat.reduceEqDiff, Int.reduceToNat]
  intro b2 hb2
  have f2_H : H b2 = none := none_of_le lhA hb2
  try simp only [eX, ↓reduceIte, Nat.reduceEqDiff, Int.reduceToNat]
  refine hK _ _ ?_; clear hK K
  refine OW_opS (fun K hK r => ?_)
  simp only [x_box, Value.cells, eX, ↓reduceIte, Nat.reduceEqDiff, Int.reduceToNat]
  intro b3 hb3
  try have n3_b2 : b2 ≠ b3 := ne_of_none hbA hb3
  have f3_H : H b3 = none := none_of_le lhA hb3
  have n23 := n3_b2
  try simp only [eX, ↓reduceIte, Nat.reduceEqDiff, Int.reduceToNat]
  refine hK _ _ ?_; clear hK K
  refine OW_as rfl ?_
  refine OW_nil ?_
  try simp only [Ex.thnH, Ex.inBlockH, ↓reduceIte, Nat.reduceEqDiff]
  refine hK1 _ _ ?_; try clear hK1 K1
  refine CW_seq (fun K2 hK2 => ?_)
  refine CW_seq (fun K3 hK3 => ?_)
  refine CW_region ?_
  refine OW_opS (fun K hK r => ?_)
  simp only [x_load, eX, ↓reduceIte, Nat.reduceEqDiff, Int.reduceToNat]
  refine Lt_loadAt1 Try.underlying3 rfl hbA ldA ?_
  try simp only [eX, ↓reduceIte, Nat.reduceEqDiff, Int.reduceToNat]
  refine hK _ _ ?_; clear hK K
  refine OW_opS (fun K hK r => ?_)
  simp (disch := (first | omega | decide)) only [x_bin, g_int, b_lss, dec_lt_t, dec_lt_f, dec_le_t, dec_le_f, dec_eq_t, dec_eq_f, Bool.not_true, Bool.not_false, eX, ↓reduceIte, Nat.reduceEqDiff, Int.reduceToNat]
  refine hK _ _ ?_; clear hK K
  refine OW_nil ?_
  try simp only [Ex.thnH, Ex.inBlockH, ↓reduceIte, Nat.reduceEqDiff]
  refine hK3 _ _ ?_; try clear hK3 K3
  refine CW_cond (fun r => rfl) (fun c6 => ?_) (fun c6 => ?_)
  · first
    | (exfalso; exact cnA c6; done)
    | skip
      (try simp only [decide_eq_true_eq, decide_eq_false_iff_not, Bool.not_eq_true, Bool.not_eq_false, Bool.and_eq_true, Bool.or_eq_true, Bool.or_eq_false_iff, Bool.not_eq_true, Bool.not_eq_eq_eq_not, Bool.not_true, Bool.not_false] at c6)
      refine CW_region ?_
      refine OW_opS (fun K hK r => ?_)
      simp only [x_makeInterface, i_makeInterface, Try.underlying9, orF_some, eX, ↓reduceIte, Nat.reduceEqDiff, Int.reduceToNat]
      refine hK _ _ ?_; clear hK K
      refine OW_op rfl (lt_none) (fun K hK r => ?_)
      simp only [x_panic, eX, ↓reduceIte, Nat.reduceEqDiff, Int.reduceToNat]
      fail "left out: TODO panic slot None"
  · first
    | (exfalso; exact cnA c6; done)
    | skip
      (try simp only [decide_eq_true_eq, decide_eq_false_iff_not, Bool.not_eq_true, Bool.not_eq_false, Bool.and_eq_true, Bool.or_eq_true, Bool.or_eq_false_iff, Bool.not_eq_true, Bool.not_eq_eq_eq_not, Bool.not_true, Bool.not_false] at c6)
      refine CW_skip ?_
      try simp only [Ex.thnH, Ex.inBlockH, ↓reduceIte, Nat.reduceEqDiff]
      refine hK2 _ _ ?_; try clear hK2 K2
      refine CW_seq (fun K4 hK4 => ?_)
      refine CW_region ?_
      refine OW_opS (fun K hK r => ?_)
      simp only [x_makeFunc, List.map_toArray, List.map_cons, List.map_nil, eX, ↓reduceIte, Nat.reduceEqDiff, Int.reduceToNat]
      refine hK _ _ ?_; clear hK K
      refine OW_as rfl ?_
      refine OW_nil ?_
      try simp only [Ex.thnH, Ex.inBlockH, ↓reduceIte, Nat.reduceEqDiff]
      refine hK4 _ _ ?_; try clear hK4 K4
      refine CW_ret ?_
      try simp only [Ex.thnH, Ex.inBlockH, ↓reduceIte, Nat.reduceEqDiff]
      exact ⟨[_], ⟨rfl, trivial⟩, _, Le.refl _, b2, b3, hb2, f3_H, n23, rfl, rfl⟩

set_option maxRecDepth 100000 in
set_option maxHeartbeats 4000000 in
theorem chunk1_ok (H0 : Hp) (b2 b3 : Nat) (a : Option Addr) (cap : Nat) (l : List Int) (hv : Holds H0 1 (.slice a l.length cap) l.length (u8s l)) (hcap : l.length ≤ cap) (h2 : H0 b2 = some (.cells #[.slice a l.length cap] 22)) (h3 : H0 b3 = some (.cells #[.int .i64 50] 3)) (hl : l.length ≤ 100000) (yf : Fn) (ya yb : Array Value) (J : Nat → Hp → Prop) (S : Hp → Prop) (H : Hp) (hle : ∀ i H, J i H → Le H0 H) (hy : ∀ i, i < chN l → ∀ H, J i H → ∀ args F, TChunk H0 l i args F → H.apart F → ValH Try.prog (.func yf ya yb) args.toArray (H.join F) (fun v H2 => ∃ H3, Le H3 H2 ∧ ((v = .bool true ∧ J (i + 1) H3) ∨ (v = .bool false ∧ S H3)))) (hj : J 0 H) :
  CallH Try.prog 67 #[.func yf ya yb, .pointer (some ⟨b2, 0, none⟩), .pointer (some ⟨b3, 0, none⟩)] H (fun _ H2 => ∃ H3, Le H3 H2 ∧ (J (chN l) H3 ∨ S H3)) := by
  refine CallH_enter (l := [_, _, _]) (rl := []) (n := 31) Try.func67 rfl rfl rfl rfl rfl ?_
  simp only [envOf, Nat.reduceAdd]
  refine CW_seq (fun K1 hK1 => ?_)
  refine CW_region ?_
  refine OW_as rfl ?_
  refine OW_nil ?_
  try simp only [Ex.thnH, Ex.inBlockH, ↓reduceIte, Nat.reduceEqDiff]
  refine hK1 _ _ ?_; try clear hK1 K1
  refine CW_block ?_
  refine CW_loop (fun m e H_ => ∃ (k : Nat) (HJ : Hp), k ≤ chN l ∧ m = chN l - k ∧ J k HJ ∧ Le HJ H_ ∧ Env.has [(0, .func yf ya yb), (1, .pointer (some ⟨b2, 0, none⟩)), (2, .pointer (some ⟨b3, 0, none⟩)), (4, .int .i64 ((50 * k : Nat) : Int))] e) (chN l) ?_ ?_
  · skip
    exact ⟨0, H, by omega, by omega, hj, Le.refl _, rfl, rfl, rfl, rfl, trivial⟩
  intro m_ e_ H_ hI_
  obtain ⟨k, HJ, hk, rfl, hJ, hlJ, he⟩ := hI_
  have hl0 := Le.trans (hle k HJ hJ) hlJ
  have hk2 := hl0 _ _ h2
  have hk3 := hl0 _ _ h3
  refine CW_env he.sub ?_; clear he e_
  refine CW_seq (fun K2 hK2 => ?_)
  refine CW_seq (fun K3 hK3 => ?_)
  refine CW_region ?_
  refine OW_mv rfl ?_
  refine OW_opS (fun K hK r => ?_)
  simp only [x_load, eX, ↓reduceIte, Nat.reduceEqDiff, Int.reduceToNat]
  refine Lt_loadAt1 Try.underlying22 rfl hbA ldA ?_
  try simp only [eX, ↓reduceIte, Nat.reduceEqDiff, Int.reduceToNat]
  refine hK _ _ ?_; clear hK K
  refine OW_opS (fun K hK r => ?_)
  simp only [x_builtin, l_len, List.map_toArray, List.map_cons, List.map_nil, i_len_slice _ _ Try.underlying22, eX, ↓reduceIte, Nat.reduceEqDiff, Int.reduceToNat]
  refine hK _ _ ?_; clear hK K
  refine OW_opS (fun K hK r => ?_)
  simp (disch := (first | omega | decide)) only [x_bin, g_int, b_lss, dec_lt_t, dec_lt_f, dec_le_t, dec_le_f, dec_eq_t, dec_eq_f, Bool.not_true, Bool.not_false, eX, ↓reduceIte, Nat.reduceEqDiff, Int.reduceToNat]
  refine hK _ _ ?_; clear hK K
  refine OW_nil ?_
  try simp only [Ex.thnH, Ex.inBlockH, ↓reduceIte, Nat.reduceEqDiff]
  refine hK3 _ _ ?_; try clear hK3 K3
  refine CW_cond (fun r => rfl) (fun c9 => ?_) (fun c9 => ?_)
  · first
    | (exfalso; exact cnA c9; done)
    | skip
      (try simp only [decide_eq_true_eq, decide_eq_false_iff_not, Bool.not_eq_true, Bool.not_eq_false, Bool.and_eq_true, Bool.or_eq_true, Bool.or_eq_false_iff, Bool.not_eq_true, Bool.not_eq_eq_eq_not, Bool.not_true, Bool.not_false] at c9)
      have hkN : k < chN l := by unfold chN; omega
      have hcl := chk_len hkN
      refine CW_skip ?_
      try simp only [Ex.thnH, Ex.inBlockH, ↓reduceIte, Nat.reduceEqDiff]
      refine hK2 _ _ ?_; try clear hK2 K2
      refine CW_seq (fun K4 hK4 => ?_)
      refine CW_block ?_
      refine CW_seq (fun K5 hK5 => ?_)
      refine CW_drawE [1, 1, 0, 0, 0, 0, 0] [0, 1, 2, 3, 4, 5, 6] (by kernel_rfl) (by kernel_rfl) (fun R3 hR3 => ?_)
      apply TW_look rfl (lt_some (by decide)) rfl
      · intro r
        simp only [x_load, eX, ↓reduceIte, Nat.reduceEqDiff]
        refine Lt_loadAt1 Try.underlying3 rfl hbA ldA ?_
        exact ⟨rfl, Le.refl _⟩
      simp only [eX, ↓reduceIte, Nat.reduceEqDiff, Int.reduceToNat]
      apply TW_look rfl (lt_some (by decide)) rfl
      · intro r
        simp only [x_load, eX, ↓reduceIte, Nat.reduceEqDiff]
        refine Lt_loadAt1 Try.underlying22 rfl hbA ldA ?_
        exact ⟨rfl, Le.refl _⟩
      simp only [eX, ↓reduceIte, Nat.reduceEqDiff, Int.reduceToNat]
      apply TW_pure rfl (lt_some (by decide)) rfl
      · intro r
        simp only [x_move, eX, ↓reduceIte, Nat.reduceEqDiff]
        exact ⟨rfl, Le.refl _⟩
      simp only [eX, ↓reduceIte, Nat.reduceEqDiff, Int.reduceToNat]
      apply TW_pure rfl (lt_some (by decide)) rfl
      · intro r
        simp only [x_slice, Option.map_some, Option.map_none, eX, ↓reduceIte, Nat.reduceEqDiff]
        refine Lt_sliceS Try.underlying22 sz5 bound_none bound_none (bound_some ixA) bxA bxA bxA (by simp) ?_
        try simp only [add_mk, Nat.mul_one, Nat.zero_add, Int.reduceToNat, Nat.reduceSub, Nat.reduceEqDiff, ↓reduceIte]
        exact ⟨rfl, Le.refl _⟩
      simp only [eX, ↓reduceIte, Nat.reduceEqDiff, Int.reduceToNat]
      apply TW_pure rfl (lt_some (by decide)) rfl
      · intro r
        simp only [x_builtin, l_len, List.map_toArray, List.map_cons, List.map_nil, i_len_slice _ _ Try.underlying22, eX, ↓reduceIte, Nat.reduceEqDiff]
        exact ⟨rfl, Le.refl _⟩
      simp only [eX, ↓reduceIte, Nat.reduceEqDiff, Int.reduceToNat]
      apply TW_pure rfl (lt_some (by decide)) rfl
      · intro r
        simp only [x_builtin, l_min, List.map_toArray, List.map_cons, List.map_nil, i_min2, eX, ↓reduceIte, Nat.reduceEqDiff]
        exact ⟨rfl, Le.refl _⟩
      simp only [eX, ↓reduceIte, Nat.reduceEqDiff, Int.reduceToNat]
      apply TW_pure rfl (lt_some (by decide)) rfl
      · intro r
        simp only [x_assign, eX, ↓reduceIte, Nat.reduceEqDiff]
        exact ⟨rfl, Le.refl _⟩
      simp only [eX, ↓reduceIte, Nat.reduceEqDiff, Int.reduceToNat]
      refine TW_nil ?_
      try simp only [Ex.thnH, Ex.inBlockH, ↓reduceIte, Nat.reduceEqDiff]
      refine hK5 _ _ ?_; try clear hK5 K5
      refine CW_seq (fun K6 hK6 => ?_)
      refine CW_region ?_
      refine OW_mv rfl ?_
      refine OW_opS (fun K hK r => ?_)
      simp only [x_load, eX, ↓reduceIte, Nat.reduceEqDiff, Int.reduceToNat]
      refine Lt_loadAt1 Try.underlying22 rfl hbA ldA ?_
      try simp only [eX, ↓reduceIte, Nat.reduceEqDiff, Int.reduceToNat]
      refine hK _ _ ?_; clear hK K
      refine OW_mv rfl ?_
      refine OW_mv rfl ?_
      refine OW_mv rfl ?_
      refine OW_opS (fun K hK r => ?_)
      simp (disch := (first | omega | decide)) only [x_bin, g_int, b_add, wrap_i64, wrap_u64, wrap_u32, wrap_u8, eX, ↓reduceIte, Nat.reduceEqDiff, Int.reduceToNat]
      refine hK _ _ ?_; clear hK K
      refine OW_mv rfl ?_
      refine OW_mv rfl ?_
      refine OW_opS (fun K hK r => ?_)
      simp (disch := (first | omega | decide)) only [x_bin, g_int, b_add, wrap_i64, wrap_u64, wrap_u32, wrap_u8, eX, ↓reduceIte, Nat.reduceEqDiff, Int.reduceToNat]
      refine hK _ _ ?_; clear hK K
      refine OW_opS (fun K hK r => ?_)
      simp only [x_slice, Option.map_some, Option.map_none, eX, ↓reduceIte, Nat.reduceEqDiff, Int.reduceToNat]
      refine Lt_sliceS Try.underlying22 sz5 (bound_some ixA) (bound_some ixA) (bound_some ixA) bxA bxA bxA (by simp) ?_
      try simp only [add_mk, Nat.mul_one, Nat.zero_add, Int.reduceToNat, Nat.reduceSub, Nat.reduceEqDiff, ↓reduceIte]
      try simp only [eX, ↓reduceIte, Nat.reduceEqDiff, Int.reduceToNat]
      refine hK _ _ ?_; clear hK K
      refine OW_opS (fun K hK r => ?_)
      simp only [x_call, List.map_toArray, List.map_cons, List.map_nil, eX, ↓reduceIte, Nat.reduceEqDiff, Int.reduceToNat]
      show ValH _ _ _ _ _
      have hmn : (if ((l.length - 50 * k : Nat) : Int) < 50 then ((l.length - 50 * k : Nat) : Int) else 50) = ((chk l k).length : Int) := by rw [hcl.2.2]; split <;> omega
      have hto : (((50 * k : Nat) : Int) + ((chk l k).length : Int)).toNat = 50 * k + (chk l k).length := by omega
      have e3 : 50 * k + (chk l k).length - 50 * k = (chk l k).length := by omega
      simp only [Int.toNat_natCast]
      simp only [hmn, hto, e3]
      have hh := holds_chk hv hkN rfl (50 * k + (chk l k).length) (Nat.le_refl _)
      simp only [Nat.mul_one, e3] at hh
      refine (Iter.yield0 (hy k hkN HJ hJ _ emptyHp ⟨rfl, _, rfl, hh⟩ (apart_empty _)) hlJ).mono ?_
      rintro v29 H29 ⟨t, H3, rfl, hl3, hyes, hno, _⟩
      try simp only [eX, ↓reduceIte, Nat.reduceEqDiff, Int.reduceToNat]
      refine hK _ _ ?_; clear hK K
      refine OW_opS (fun K hK r => ?_)
      simp only [x_un, u_not, eX, ↓reduceIte, Nat.reduceEqDiff, Int.reduceToNat]
      refine hK _ _ ?_; clear hK K
      refine OW_nil ?_
      try simp only [Ex.thnH, Ex.inBlockH, ↓reduceIte, Nat.reduceEqDiff]
      refine hK6 _ _ ?_; try clear hK6 K6
      refine CW_cond (fun r => rfl) (fun c30 => ?_) (fun c30 => ?_)
      · first
        | (exfalso; exact cnA c30; done)
        | skip
          have q30 := c30
          refine CW_ret ?_
          try simp only [Ex.thnH, Ex.inBlockH, ↓reduceIte, Nat.reduceEqDiff]
          refine ⟨[], trivial, _, Le.refl _, H3, hl3, .inr (hno (by simpa using q30))⟩
      · first
        | (exfalso; exact cnA c30; done)
        | skip
          have ht : t = true := by simpa using c30
          have hJ3 := hyes ht
          have hk3_ := hl3 _ _ (hle _ _ hJ3 _ _ h3)
          refine CW_skip ?_
          try simp only [Ex.thnH, Ex.inBlockH, ↓reduceIte, Nat.reduceEqDiff]
          refine hK4 _ _ ?_; try clear hK4 K4
          refine CW_region ?_
          refine OW_mv rfl ?_
          refine OW_opS (fun K hK r => ?_)
          simp only [x_load, eX, ↓reduceIte, Nat.reduceEqDiff, Int.reduceToNat]
          refine Lt_loadAt1 Try.underlying3 rfl hbA ldA ?_
          try simp only [eX, ↓reduceIte, Nat.reduceEqDiff, Int.reduceToNat]
          refine hK _ _ ?_; clear hK K
          refine OW_opS (fun K hK r => ?_)
          simp (disch := (first | omega | decide)) only [x_bin, g_int, b_add, wrap_i64, wrap_u64, wrap_u32, wrap_u8, eX, ↓reduceIte, Nat.reduceEqDiff, Int.reduceToNat]
          refine hK _ _ ?_; clear hK K
          refine OW_as rfl ?_
          refine OW_nil ?_
          try simp only [Ex.thnH, Ex.inBlockH, ↓reduceIte, Nat.reduceEqDiff]
          refine ⟨chN l - (k + 1), by omega, k + 1, H3, by omega, rfl, hJ3, hl3, rfl, rfl, rfl, ?_, trivial⟩
          show some (Value.int _ _) = some (Value.int _ _)
          first | (congr 2; done) | (congr 2; omega)
  · first
    | (exfalso; exact cnA c9; done)
    | skip
      (try simp only [decide_eq_true_eq, decide_eq_false_iff_not, Bool.not_eq_true, Bool.not_eq_false, Bool.and_eq_true, Bool.or_eq_true, Bool.or_eq_false_iff, Bool.not_eq_true, Bool.not_eq_eq_eq_not, Bool.not_true, Bool.not_false] at c9)
      have hkN : k = chN l := by unfold chN at hk ⊢; omega
      refine CW_exit ?_
      try simp only [Ex.thnH, Ex.inBlockH, ↓reduceIte, Nat.reduceEqDiff]
      subst hkN
      exact ⟨[], trivial, _, Le.refl _, HJ, hlJ, .inl hJ⟩


theorem iter_chunk (H0 : Hp) (b2 b3 : Nat) (a : Option Addr) (cap : Nat) (l : List Int) (hv : Holds H0 1 (.slice a l.length cap) l.length (u8s l)) (hcap : l.length ≤ cap) (h2 : H0 b2 = some (.cells #[.slice a l.length cap] 22)) (h3 : H0 b3 = some (.cells #[.int .i64 50] 3)) (hl : l.length ≤ 100000) :
  Iter Try.prog (.func (.func 67) #[] #[.pointer (some ⟨b2, 0, none⟩), .pointer (some ⟨b3, 0, none⟩)]) H0 (chN l) (TChunk H0 l) :=
  fun yf ya yb J S H hle hy hj => ValH_func bd67 (chunk1_ok H0 b2 b3 a cap l hv hcap h2 h3 hl yf ya yb J S H hle hy hj)
def TParts (l : List Int) : Nat → List Value → Hp → Prop := fun i args F => ∃ v r o, args = [.int .i64 i, v] ∧ F = emptyHp.upd r o ∧ OwnS F 5 1 v (chk l i).length (u8s (chk l i)) (some r)

set_option maxRecDepth 100000 in
set_option maxHeartbeats 4000000 in
theorem parts1_ok (H0 : Hp) (b1 : Nat) (a : Option Addr) (cap : Nat) (l : List Int) (hv : Holds H0 1 (.slice a l.length cap) l.length (u8s l)) (hcap : l.length ≤ cap) (h1 : H0 b1 = some (.cells #[.slice a l.length cap] 22)) (hl : l.length ≤ 100000) (yf : Fn) (ya yb : Array Value) (J : Nat → Hp → Prop) (S : Hp → Prop) (H : Hp) (hle : ∀ i H, J i H → Le H0 H) (hy : ∀ i, i < chN l → ∀ H, J i H → ∀ args F, TParts l i args F → H.apart F → ValH Try.prog (.func yf ya yb) args.toArray (H.join F) (fun v H2 => ∃ H3, Le H3 H2 ∧ ((v = .bool true ∧ J (i + 1) H3) ∨ (v = .bool false ∧ S H3)))) (hj : J 0 H) :
  CallH Try.prog 58 #[.func yf ya yb, .pointer (some ⟨b1, 0, none⟩)] H (fun _ H2 => ∃ H3, Le H3 H2 ∧ (J (chN l) H3 ∨ S H3)) := by
  refine CallH_enter (l := [_, _]) (rl := []) (n := 16) Try.func58 rfl rfl rfl rfl rfl ?_
  simp only [envOf, Nat.reduceAdd]
  have hl0 := hle 0 H hj
  have h1_ := hl0 _ _ h1
  refine CW_seq (fun K1 hK1 => ?_)
  refine CW_region ?_
  refine OW_opS (fun K hK r => ?_)
  simp only [x_box, Value.cells, eX, ↓reduceIte, Nat.reduceEqDiff, Int.reduceToNat]
  intro b2 hb2
  try have n2_b1 : b1 ≠ b2 := ne_of_none hbA hb2
  have f2_H : H b2 = none := none_of_le lhA hb2
  try simp only [eX, ↓reduceIte, Nat.reduceEqDiff, Int.reduceToNat]
  refine hK _ _ ?_; clear hK K
  refine OW_nil ?_
  try simp only [Ex.thnH, Ex.inBlockH, ↓reduceIte, Nat.reduceEqDiff]
  refine hK1 _ _ ?_; try clear hK1 K1
  refine CW_seq (fun K2 hK2 => ?_)
  refine CW_region ?_
  refine OW_opS (fun K hK r => ?_)
  simp only [x_alloc, zr3, orF_some, Value.cells, eX, ↓reduceIte, Nat.reduceEqDiff, Int.reduceToNat]
  intro b3 hb3
  try have n3_b1 : b1 ≠ b3 := ne_of_none hbA hb3
  try have n3_b2 : b2 ≠ b3 := ne_of_none hbA hb3
  have f3_H : H b3 = none := none_of_le lhA hb3
  try simp only [eX, ↓reduceIte, Nat.reduceEqDiff, Int.reduceToNat]
  refine hK _ _ ?_; clear hK K
  refine OW_op rfl (lt_none) (fun K hK r => ?_)
  simp only [x_store, eX, ↓reduceIte, Nat.reduceEqDiff, Int.reduceToNat]
  refine Lt_storeAt1 sz3 hbA bdA plA fzA ?_
  try simp only [setL0, setL1, setL2, setL3, setL4, setL5, setL6, setL7, setL8, setL9]
  try simp only [eX, ↓reduceIte, Nat.reduceEqDiff, Int.reduceToNat]
  refine hK _ _ ?_; clear hK K
  refine OW_nil ?_
  try simp only [Ex.thnH, Ex.inBlockH, ↓reduceIte, Nat.reduceEqDiff]
  refine hK2 _ _ ?_; try clear hK2 K2
  refine CW_seq (fun K3 hK3 => ?_)
  refine CW_region ?_
  refine OW_opS (fun K hK r => ?_)
  simp only [x_load, eX, ↓reduceIte, Nat.reduceEqDiff, Int.reduceToNat]
  refine Lt_loadAt1 Try.underlying22 rfl hbA ldA ?_
  try simp only [eX, ↓reduceIte, Nat.reduceEqDiff, Int.reduceToNat]
  refine hK _ _ ?_; clear hK K
  refine OW_opS (fun K hK r => ?_)
  simp only [x_callF _ bd59, List.map_toArray, List.map_cons, List.map_nil, eX, ↓reduceIte, Nat.reduceEqDiff, Int.reduceToNat]
  refine (Chunk_ok _ a l.length cap).mono ?_
  rintro v6 H6 ⟨c2, c3, hc2, hc3, nc23, rfl, rfl⟩
  have nb2c2 : b2 ≠ c2 := ne_of_none hbA hc2
  have nb2c3 : b2 ≠ c3 := ne_of_none hbA hc3
  have nb3c2 : b3 ≠ c2 := ne_of_none hbA hc2
  have nb3c3 : b3 ≠ c3 := ne_of_none hbA hc3
  have fc2 : H c2 = none := none_of_le lhA hc2
  have fc3 : H c3 = none := none_of_le lhA hc3
  have gc2 := none_of_le hl0 fc2
  have gc3 := none_of_le hl0 fc3
  have hleC : Le H0 ((H0.upd c2 (.cells #[.slice a l.length cap] 22)).upd c3 (.cells #[.int .i64 50] 3)) := le_upd_of (le_upd _ _ _ gc2) gc3
  try simp only [eX, ↓reduceIte, Nat.reduceEqDiff, Int.reduceToNat]
  refine hK _ _ ?_; clear hK K
  refine OW_nil ?_
  try simp only [Ex.thnH, Ex.inBlockH, ↓reduceIte, Nat.reduceEqDiff]
  refine hK3 _ _ ?_; try clear hK3 K3
  refine CW_block ?_
  refine CW_rangeFunc (fun r => rfl) (iter_chunk ((H0.upd c2 (.cells #[.slice a l.length cap] 22)).upd c3 (.cells #[.int .i64 50] 3)) c2 c3 a cap l (hv.le hleC) hcap ((upd_ne _ _ nc23).trans (upd_same _ _ _)) (upd_same _ _ _) hl) (fun i H_ => ∃ HJ, J i HJ ∧ Le HJ H_ ∧ H_ b2 = some (.cells #[.func yf ya yb] 134) ∧ HJ b2 = none ∧ H_ b3 = some (.cells #[.int .i64 (i : Int)] 3) ∧ HJ b3 = none ∧ H_ c2 = some (.cells #[.slice a l.length cap] 22) ∧ HJ c2 = none ∧ H_ c3 = some (.cells #[.int .i64 50] 3) ∧ HJ c3 = none) ?_ ?_ (by decide) ?_ ?_
  · skip
    rintro i H_ ⟨HJ, hJ, hlJ, _, _, _, _, k2, _, k3, _⟩
    exact le_put (le_put (Le.trans (hle i HJ hJ) hlJ) k2) k3
  · skip
    exact ⟨H, hj, lhA, (upd_ne _ _ nb2c3).trans ((upd_ne _ _ nb2c2).trans hbA), hb2, (upd_ne _ _ nb3c3).trans ((upd_ne _ _ nb3c2).trans (upd_same _ _ _)), f3_H, (upd_ne _ _ nc23).trans (upd_same _ _ _), fc2, upd_same _ _ _, fc3⟩
  · intro l_ i_ hi_ H_ hI_ args_ F_ hT_ hF_
    obtain ⟨HJ, hJ, hlJ, k_b2, n_b2, k_b3, n_b3, k_c2, n_c2, k_c3, n_c3⟩ := hI_
    obtain ⟨rfl, v, rfl, hvh⟩ := hT_
    have hcl := chk_len hi_
    have hib : i_ ≤ 100000 := by unfold chN at hi_; omega
    have hleCH : Le ((H0.upd c2 (.cells #[.slice a l.length cap] 22)).upd c3 (.cells #[.int .i64 50] 3)) H_ := le_put (le_put (Le.trans (hle i_ HJ hJ) hlJ) k_c2) k_c3
    obtain ⟨av, cv, rfl⟩ := hvh.form
    rw [join_empty]
    refine ⟨rfl, ?_⟩
    simp only [putAll, List.zip_cons_cons, List.zip_nil_right, List.zip_nil_left, eX, ↓reduceIte, Nat.reduceEqDiff, Int.reduceToNat]
    refine CW_region ?_
    refine OW_as rfl ?_
    refine OW_nil ?_
    try simp only [Ex.thnH, Ex.inBlockH, ↓reduceIte, Nat.reduceEqDiff]
    first | refine ⟨rfl, ?_⟩ | refine ⟨trivial, ?_⟩
    refine CW_block ?_
    refine CW_seq (fun K4 hK4 => ?_)
    refine CW_seq (fun K5 hK5 => ?_)
    refine CW_drawE [1, 1, 0, 2, 3, 0] [0, 1, 2, 3, 4, 5] (by kernel_rfl) (by kernel_rfl) (fun R4 hR4 => ?_)
    apply TW_look rfl (lt_some (by decide)) rfl
    · intro r
      simp only [x_load, eX, ↓reduceIte, Nat.reduceEqDiff]
      refine Lt_loadAt1 Try.underlying134 rfl hbA ldA ?_
      exact ⟨rfl, Le.refl _⟩
    simp only [eX, ↓reduceIte, Nat.reduceEqDiff, Int.reduceToNat]
    apply TW_look rfl (lt_some (by decide)) rfl
    · intro r
      simp only [x_load, eX, ↓reduceIte, Nat.reduceEqDiff]
      refine Lt_loadAt1 Try.underlying3 rfl hbA ldA ?_
      exact ⟨rfl, Le.refl _⟩
    simp only [eX, ↓reduceIte, Nat.reduceEqDiff, Int.reduceToNat]
    apply TW_pure rfl (lt_some (by decide)) rfl
    · intro r
      simp only [x_move, eX, ↓reduceIte, Nat.reduceEqDiff]
      exact ⟨rfl, Le.refl _⟩
    simp only [eX, ↓reduceIte, Nat.reduceEqDiff, Int.reduceToNat]
    refine TW_chain rfl (lt_some (by decide)) rfl (fun K hK r => ?_)
    simp only [x_callF _ bd60, List.map_toArray, List.map_cons, List.map_nil, eX, ↓reduceIte, Nat.reduceEqDiff, Int.reduceToNat]
    refine (clone_ok _ _ (chk l i_) (hvh.le hleCH) (by omega)).mono ?_
    rintro v11 H11 ⟨hl11, rs11, ho11, hr11⟩
    obtain ⟨rb, ob, rfl, hro, hof⟩ := ho11.frag (by omega)
    have hrn := hr11 rb rfl
    try simp only [eX, ↓reduceIte, Nat.reduceEqDiff, Int.reduceToNat]
    refine hK _ _ leA ?_; clear hK K
    refine TW_last rfl (lt_some (by decide)) rfl (fun K hK r => ?_)
    simp only [x_call, List.map_toArray, List.map_cons, List.map_nil, eX, ↓reduceIte, Nat.reduceEqDiff, Int.reduceToNat]
    show ValH _ _ _ _ _
    have hKK : Le (HJ.join (emptyHp.upd rb ob)) H11 := join_le (Le.trans hlJ hl11) (le_put (le_empty _) hro)
    refine (Iter.yield (hy i_ hi_ HJ hJ [.int .i64 i_, v11] _ ⟨v11, rb, ob, rfl, rfl, hof⟩ (frag_apart (none_of_le hlJ hrn))) hKK).mono ?_
    rintro v12 H12 ⟨t, H3, rfl, hl3, hyes, hno, hkp⟩
    have q_b2 := hkp b2 _ (hl11 _ _ k_b2) n_b2 (frag_none (ne_of_none k_b2 hrn))
    have q_b3 := hkp b3 _ (hl11 _ _ k_b3) n_b3 (frag_none (ne_of_none k_b3 hrn))
    have q_c2 := hkp c2 _ (hl11 _ _ k_c2) n_c2 (frag_none (ne_of_none k_c2 hrn))
    have q_c3 := hkp c3 _ (hl11 _ _ k_c3) n_c3 (frag_none (ne_of_none k_c3 hrn))
    have kq_b3 := q_b3.1
    try simp only [eX, ↓reduceIte, Nat.reduceEqDiff, Int.reduceToNat]
    refine hK _ _ ?_; clear hK K
    apply TW_pure rfl (lt_some (by decide)) rfl
    · intro r
      simp only [x_un, u_not, eX, ↓reduceIte, Nat.reduceEqDiff]
      exact ⟨rfl, Le.refl _⟩
    simp only [eX, ↓reduceIte, Nat.reduceEqDiff, Int.reduceToNat]
    refine TW_nil ?_
    try simp only [Ex.thnH, Ex.inBlockH, ↓reduceIte, Nat.reduceEqDiff]
    refine hK5 _ _ ?_; try clear hK5 K5
    refine CW_cond (fun r => rfl) (fun c13 => ?_) (fun c13 => ?_)
    · first
      | (exfalso; exact cnA c13; done)
      | skip
        have q13 := c13
        refine CW_ret ?_
        try simp only [Ex.thnH, Ex.inBlockH, ↓reduceIte, Nat.reduceEqDiff]
        exact ⟨[], trivial, _, Le.refl _, H3, hl3, .inr (hno (by simpa using q13))⟩
    · first
      | (exfalso; exact cnA c13; done)
      | skip
        have ht : t = true := by simpa using c13
        have hJ3 := hyes ht
        refine CW_skip ?_
        try simp only [Ex.thnH, Ex.inBlockH, ↓reduceIte, Nat.reduceEqDiff]
        refine hK4 _ _ ?_; try clear hK4 K4
        refine CW_region ?_
        refine OW_opS (fun K hK r => ?_)
        simp only [x_load, eX, ↓reduceIte, Nat.reduceEqDiff, Int.reduceToNat]
        refine Lt_loadAt1 Try.underlying3 rfl hbA ldA ?_
        try simp only [eX, ↓reduceIte, Nat.reduceEqDiff, Int.reduceToNat]
        refine hK _ _ ?_; clear hK K
        refine OW_opS (fun K hK r => ?_)
        simp (disch := (first | omega | decide)) only [x_bin, g_int, b_add, wrap_i64, wrap_u64, wrap_u32, wrap_u8, eX, ↓reduceIte, Nat.reduceEqDiff, Int.reduceToNat]
        refine hK _ _ ?_; clear hK K
        refine OW_op rfl (lt_none) (fun K hK r => ?_)
        simp only [x_store, eX, ↓reduceIte, Nat.reduceEqDiff, Int.reduceToNat]
        refine Lt_storeAt1 sz3 hbA bdA plA fzA ?_
        try simp only [setL0, setL1, setL2, setL3, setL4, setL5, setL6, setL7, setL8, setL9]
        try simp only [eX, ↓reduceIte, Nat.reduceEqDiff, Int.reduceToNat]
        refine hK _ _ ?_; clear hK K
        refine OW_nil ?_
        try simp only [Ex.thnH, Ex.inBlockH, ↓reduceIte, Nat.reduceEqDiff]
        exact ⟨H3, hJ3, le_upd_of hl3 q_b3.2, (upd_ne _ _ n3_b2).trans q_b2.1, q_b2.2, (upd_same _ _ _), q_b3.2, (upd_ne _ _ (Ne.symm nb3c2)).trans q_c2.1, q_c2.2, (upd_ne _ _ (Ne.symm nb3c3)).trans q_c3.1, q_c3.2⟩
  intro H_ hI_
  obtain ⟨HJ, hJ, hlJ, _⟩ := hI_
  try simp only [Ex.thnH, Ex.inBlockH, ↓reduceIte, Nat.reduceEqDiff]
  exact ⟨[], trivial, _, Le.refl _, HJ, hlJ, .inl hJ⟩

set_option maxRecDepth 100000 in
set_option maxHeartbeats 1000000 in
theorem Parts_ok (H : Hp) (a : Option Addr) (n cap : Nat) : CallH Try.prog 34 #[.slice a n cap] H (fun v' H' => ∃ b1, H b1 = none ∧ v' = .func (.func 58) #[] #[.pointer (some ⟨b1, 0, none⟩)] ∧ H' = H.upd b1 (.cells #[.slice a n cap] 22)) := by
  refine CallH_enter (l := [_]) (rl := [.tmp 2]) (n := 4) Try.func34 rfl rfl rfl rfl rfl ?_
  simp only [envOf, Nat.reduceAdd]
  refine CW_seq (fun K1 hK1 => ?_)
  refine CW_region ?_
  refine OW_opS (fun K hK r => ?_)
  simp only [x_box, Value.cells, eX, ↓reduceIte, Nat.reduceEqDiff, Int.reduceToNat]
  intro b1 hb1
  have f1_H : H b1 = none := none_of_le lhA hb1
  try simp only [eX, ↓reduceIte, Nat.reduceEqDiff, Int.reduceToNat]
  refine hK _ _ ?_; clear hK K
  refine OW_as rfl ?_
  refine OW_nil ?_
  try simp only [Ex.thnH, Ex.inBlockH, ↓reduceIte, Nat.reduceEqDiff]
  refine hK1 _ _ ?_; try clear hK1 K1
  refine CW_seq (fun K2 hK2 => ?_)
  refine CW_region ?_
  refine OW_opS (fun K hK r => ?_)
  simp only [x_makeFunc, List.map_toArray, List.map_cons, List.map_nil, eX, ↓reduceIte, Nat.reduceEqDiff, Int.reduceToNat]
  refine hK _ _ ?_; clear hK K
  refine OW_as rfl ?_
  refine OW_nil ?_
  try simp only [Ex.thnH, Ex.inBlockH, ↓reduceIte, Nat.reduceEqDiff]
  refine hK2 _ _ ?_; try clear hK2 K2
  refine CW_ret ?_
  try simp only [Ex.thnH, Ex.inBlockH, ↓reduceIte, Nat.reduceEqDiff]
  exact ⟨[_], ⟨rfl, trivial⟩, _, Le.refl _, b1, hb1, rfl, rfl⟩


theorem iter_parts (H0 : Hp) (b1 : Nat) (a : Option Addr) (cap : Nat) (l : List Int) (hv : Holds H0 1 (.slice a l.length cap) l.length (u8s l)) (hcap : l.length ≤ cap) (h1 : H0 b1 = some (.cells #[.slice a l.length cap] 22)) (hl : l.length ≤ 100000) :
  Iter Try.prog (.func (.func 58) #[] #[.pointer (some ⟨b1, 0, none⟩)]) H0 (chN l) (TParts l) :=
  fun yf ya yb J S H hle hy hj => ValH_func bd58 (parts1_ok H0 b1 a cap l hv hcap h1 hl yf ya yb J S H hle hy hj)

end Go.Proofs.Ytcjdkfhmlnfedaa.HL
end
section
namespace Go.Proofs.Ytcjdkfhmlnfedaa.HL
open Go Go.Proofs
set_option linter.unusedSimpArgs false
set_option linter.unusedVariables false
attribute [local irreducible] Lt Lq CW OW TW CallH


theorem chk_step {l : List Int} {k : Nat} : (l.take (50 * k)) ++ chk l k = l.take (50 * (k + 1)) := by
  unfold chk
  rw [show 50 * (k + 1) = 50 * k + 50 from by omega, List.take_add]
set_option maxRecDepth 100000 in
set_option maxHeartbeats 1000000 in
theorem Need_ok (H : Hp) (n : Int) (h1 : -9223372036854775808 ≤ n) (h2 : n ≤ 9223372036854775807) : CallH Try.prog 53 #[.int .i64 n] H (fun v H' => v = .int .i64 (if n < 1 then 0 else (n - 1) / 50 + 1) ∧ H' = H) := by
  refine CallH_enter (l := [_]) (rl := [.tmp 2]) (n := 9) Try.func53 rfl rfl rfl rfl rfl ?_
  simp only [envOf, Nat.reduceAdd]
  refine CW_seq (fun K1 hK1 => ?_)
  refine CW_region ?_
  refine OW_as rfl ?_
  refine OW_nil ?_
  try simp only [Ex.thnH, Ex.inBlockH, ↓reduceIte, Nat.reduceEqDiff]
  refine hK1 _ _ ?_; try clear hK1 K1
  refine CW_seq (fun K2 hK2 => ?_)
  refine CW_seq (fun K3 hK3 => ?_)
  refine CW_region ?_
  refine OW_mv rfl ?_
  refine OW_opS (fun K hK r => ?_)
  simp (disch := (first | omega | decide)) only [x_bin, g_int, b_lss, dec_lt_t, dec_lt_f, dec_le_t, dec_le_f, dec_eq_t, dec_eq_f, Bool.not_true, Bool.not_false, eX, ↓reduceIte, Nat.reduceEqDiff, Int.reduceToNat]
  refine hK _ _ ?_; clear hK K
  refine OW_nil ?_
  try simp only [Ex.thnH, Ex.inBlockH, ↓reduceIte, Nat.reduceEqDiff]
  refine hK3 _ _ ?_; try clear hK3 K3
  refine CW_cond (fun r => rfl) (fun c4 => ?_) (fun c4 => ?_)
  · first
    | (exfalso; exact cnA c4; done)
    | skip
      (try simp only [decide_eq_true_eq, decide_eq_false_iff_not, Bool.not_eq_true, Bool.not_eq_false, Bool.and_eq_true, Bool.or_eq_true, Bool.or_eq_false_iff, Bool.not_eq_true, Bool.not_eq_eq_eq_not, Bool.not_true, Bool.not_false] at c4)
      refine CW_seq (fun K4 hK4 => ?_)
      refine CW_region ?_
      refine OW_as rfl ?_
      refine OW_nil ?_
      try simp only [Ex.thnH, Ex.inBlockH, ↓reduceIte, Nat.reduceEqDiff]
      refine hK4 _ _ ?_; try clear hK4 K4
      refine CW_ret ?_
      try simp only [Ex.thnH, Ex.inBlockH, ↓reduceIte, Nat.reduceEqDiff]
      refine ⟨[_], ⟨rfl, trivial⟩, _, Le.refl _, ?_, rfl⟩
      show Value.int _ _ = _
      rw [if_pos (by first | assumption | omega)]
  · first
    | (exfalso; exact cnA c4; done)
    | skip
      (try simp only [decide_eq_true_eq, decide_eq_false_iff_not, Bool.not_eq_true, Bool.not_eq_false, Bool.and_eq_true, Bool.or_eq_true, Bool.or_eq_false_iff, Bool.not_eq_true, Bool.not_eq_eq_eq_not, Bool.not_true, Bool.not_false] at c4)
      refine CW_skip ?_
      try simp only [Ex.thnH, Ex.inBlockH, ↓reduceIte, Nat.reduceEqDiff]
      refine hK2 _ _ ?_; try clear hK2 K2
      refine CW_seq (fun K5 hK5 => ?_)
      refine CW_region ?_
      refine OW_mv rfl ?_
      refine OW_opS (fun K hK r => ?_)
      simp (disch := (first | omega | decide)) only [x_bin, g_int, b_sub, wrap_i64, wrap_u64, wrap_u32, wrap_u8, eX, ↓reduceIte, Nat.reduceEqDiff, Int.reduceToNat]
      refine hK _ _ ?_; clear hK K
      refine OW_opS (fun K hK r => ?_)
      simp (disch := (first | omega | decide)) only [x_bin, g_int, b_quo, wrap_i64, wrap_u64, wrap_u32, wrap_u8, eX, ↓reduceIte, Nat.reduceEqDiff, Int.reduceToNat]
      refine hK _ _ ?_; clear hK K
      refine OW_opS (fun K hK r => ?_)
      simp (disch := (first | omega | decide)) only [x_bin, g_int, b_add, wrap_i64, wrap_u64, wrap_u32, wrap_u8, eX, ↓reduceIte, Nat.reduceEqDiff, Int.reduceToNat]
      refine hK _ _ ?_; clear hK K
      refine OW_as rfl ?_
      refine OW_nil ?_
      try simp only [Ex.thnH, Ex.inBlockH, ↓reduceIte, Nat.reduceEqDiff]
      refine hK5 _ _ ?_; try clear hK5 K5
      refine CW_ret ?_
      try simp only [Ex.thnH, Ex.inBlockH, ↓reduceIte, Nat.reduceEqDiff]
      refine ⟨[_], ⟨rfl, trivial⟩, _, Le.refl _, ?_, rfl⟩
      show Value.int _ _ = _
      have e0 : (n - 1).tdiv 50 = (n - 1) / 50 := Int.tdiv_eq_ediv_of_nonneg (by omega)
      first | (rw [if_neg (by omega)]; simp only [e0, wrap_i64 _ (show -9223372036854775808 ≤ n - 1 by omega) (show n - 1 ≤ 9223372036854775807 by omega)]; rw [wrap_i64 _ (by omega) (by omega)]; done) | (rw [if_neg (by omega)]; simp only [e0]; rw [wrap_i64 ((n - 1) / 50) (by omega) (by omega), wrap_i64 _ (by omega) (by omega)]) | (rw [if_neg (by omega)]; simp only [e0])

end Go.Proofs.Ytcjdkfhmlnfedaa.HL
end
section
namespace Go.Proofs.Ytcjdkfhmlnfedaa.HL
open Go
set_option linter.unusedSimpArgs false
structure Rw where
  a : Option Addr
  n : Nat
  cap : Nat
  rs : Option Nat
deriving Inhabited
abbrev Rw.v (r : Rw) : Value := .slice r.a r.n r.cap
abbrev rvs (L : List Rw) : List Value := L.map Rw.v
def mkB (i t : Nat) : Int := IntKind.u8.wrap (31 * (i : Int) + 3 * (t : Int) + 1)
def mks (i n : Nat) : List Int := (List.range n).map (mkB i)
theorem mks_len (i n : Nat) : (mks i n).length = n := by simp [mks]
theorem mks_succ (i n : Nat) : mks i (n + 1) = mks i n ++ [mkB i n] := by simp [mks, List.range_succ]
theorem mks_get (i n t : Nat) (h : t < n) : (mks i n).getD t 0 = mkB i t := by
  simp [mks, List.getD_eq_getElem?_getD, List.getElem?_map, List.getElem?_range h]
theorem mks_take (i : Nat) {n m : Nat} (h : m ≤ n) : (mks i n).take m = mks i m := by
  simp [mks, ← List.map_take, List.take_range, Nat.min_eq_left h]
/-- an element of a list of rows -/
abbrev rw_ (L : List Rw) (i : Nat) : Rw := L.getD i default
def RowsC (E : TypeId) (H : Hp) (L : List Rw) (C : Nat → List Int) : Prop := ∀ i, i < L.length → OwnS H E 1 (rw_ L i).v (rw_ L i).n (u8s (C i)) (rw_ L i).rs
def RDis (L : List Rw) : Prop := ∀ i j, i < L.length → j < L.length → i ≠ j → ∀ r, (rw_ L i).rs = some r → (rw_ L j).rs ≠ some r
def rown (L : List Rw) (b : Nat) : Prop := ∃ i, i < L.length ∧ (rw_ L i).rs = some b
def MC (L : List Rw) (C : Nat → List Int) (k j : Nat) : Prop := ∀ i t, i < L.length → t < (rw_ L i).n → (i < k ∨ (i = k ∧ t < j)) → (C i).getD t 0 = mkB i t
theorem OwnS.len8 {H : Hp} {E : TypeId} {v : Value} {n : Nat} {l : List Int} {rs : Option Nat} (h : OwnS H E 1 v n (u8s l) rs) : l.length = n := by have := h.1; simp at this; omega
/-- A row that isn't empty: its block. -/
theorem RowsC.row {E : TypeId} {H : Hp} {L : List Rw} {C : Nat → List Int} (h : RowsC E H L C) {k : Nat} (hk : k < L.length) (hn : 0 < (rw_ L k).n) :
    ∃ r c, (rw_ L k).a = some ⟨r, 0, none⟩ ∧ (rw_ L k).rs = some r ∧ H r = some (.cells c E) ∧ (rw_ L k).n ≤ c.size ∧ (c.extract 0 (rw_ L k).n).toList = u8s (C k) := by
  obtain ⟨_, ⟨_, h0, _⟩ | ⟨r, cap, c, e1, e2, e3, e4, e5, e6⟩⟩ := h k hk
  · omega
  · injection e1 with e1 _ e7
    exact ⟨r, c, e1, e6, e2, by omega, by simpa using e5⟩
theorem RowsC.set {E : TypeId} {H : Hp} {L : List Rw} {C : Nat → List Int} (h : RowsC E H L C) (hd : RDis L) {k t : Nat} (hk : k < L.length) (ht : t < (rw_ L k).n) (x : Int) {r : Nat} {c : Array Value}
    (ha : (rw_ L k).a = some ⟨r, 0, none⟩) (hr : (rw_ L k).rs = some r) (hc : H r = some (.cells c E)) : RowsC E (H.upd r (.cells (c.setIfInBounds t (.int .u8 x)) E)) L (fun i => if i = k then (C k).set t x else C i) := by
  intro i hi
  by_cases e : i = k
  · subst e
    simp only [if_true]
    have h1 := h i hi
    rw [hr] at h1 ⊢
    have h2 : (rw_ L i).v = .slice (some ⟨r, 0, none⟩) (rw_ L i).n (rw_ L i).cap := by simp only [Rw.v, ha]
    rw [h2] at h1 ⊢
    exact h1.set hc t ht x
  · simp only [if_neg e]
    exact (h i hi).upd (hd k i hk hi (Ne.symm e) r hr)
theorem MC.set {L : List Rw} {C : Nat → List Int} {k j : Nat} (h : MC L C k j) (hj : j < (C k).length) : MC L (fun i => if i = k then (C k).set j (mkB k j) else C i) k (j + 1) := by
  intro i t hi ht hc
  by_cases e : i = k
  · subst e
    simp only [if_true]
    by_cases e2 : t = j
    · subst e2
      simp [List.getD_eq_getElem?_getD, List.getElem?_set_self hj]
    · have := h i t hi ht (by omega)
      rw [← this]
      simp [List.getD_eq_getElem?_getD, List.getElem?_set_ne (Ne.symm e2)]
  · simp only [if_neg e]
    exact h i t hi ht (by omega)
theorem MC.next {L : List Rw} {C : Nat → List Int} {k : Nat} (h : MC L C k (rw_ L k).n) : MC L C (k + 1) 0 := by
  intro i t hi ht hc
  refine h i t hi ht ?_
  rcases hc with hc | hc
  · by_cases e : i = k
    · subst e; exact .inr ⟨rfl, ht⟩
    · exact .inl (by omega)
  · omega
theorem MC.all {E : TypeId} {H : Hp} {L : List Rw} {C : Nat → List Int} (h : RowsC E H L C) (hm : MC L C L.length 0) : RowsC E H L (fun i => mks i (rw_ L i).n) := by
  intro i hi
  have h1 := h i hi
  have e : C i = mks i (rw_ L i).n := by
    apply List.ext_getElem?
    intro t
    by_cases ht : t < (rw_ L i).n
    · have h2 := hm i t hi ht (.inl hi)
      have h3 : t < (C i).length := by rw [h1.len8]; exact ht
      have h4 : t < (mks i (rw_ L i).n).length := by rw [mks_len]; exact ht
      have h5 := mks_get i (rw_ L i).n t ht
      rw [List.getElem?_eq_getElem h3, List.getElem?_eq_getElem h4]
      have g : ∀ (l : List Int) (h : t < l.length), l.getD t 0 = l[t] := fun l h => by simp [List.getD_eq_getElem?_getD, List.getElem?_eq_getElem h]
      rw [g _ h3] at h2
      rw [g _ h4] at h5
      rw [h2, h5]
    · rw [List.getElem?_eq_none (by rw [h1.len8]; omega), List.getElem?_eq_none (by rw [mks_len]; omega)]
  simp only [← e]; exact h1
abbrev mksOf (X : List Rw) : Nat → List Int := fun i => mks i (rw_ X i).n
theorem rw_set {X : List Rw} {k : Nat} {y : Rw} (hk : k < X.length) (i : Nat) : rw_ (X.set k y) i = if i = k then y else rw_ X i := by
  by_cases e : i = k
  · subst e; simp [List.getD_eq_getElem?_getD, List.getElem?_set_self hk]
  · rw [if_neg e]; simp [List.getD_eq_getElem?_getD, List.getElem?_set_ne (Ne.symm e)]
theorem Holds.le' {H H' : Hp} {w n cap : Nat} {a : Option Addr} {cs : List Value} (h : Holds H w (.slice a n cap) n cs) (k : ∀ A o, a = some A → H A.block = some o → H' A.block = some o) : Holds H' w (.slice a n cap) n cs := by
  obtain ⟨h1, h2 | ⟨b, o, cap', c, T, f, e, h4, h5⟩⟩ := h
  · exact ⟨h1, .inl h2⟩
  · cases e
    exact ⟨h1, .inr ⟨b, o, _, c, T, f, rfl, k _ _ rfl h4, h5⟩⟩
/-- What stands of the rows while they are grown: rows behind k as they were, row k longer by t, rows ahead by 10. -/
def gext (k t i : Nat) : Nat := if i < k then 10 else if i = k then t else 0
structure GI (E : TypeId) (H0 H : Hp) (L X : List Rw) (k t : Nat) : Prop where
  len : X.length = L.length
  rows : RowsC E H X (mksOf X)
  dis : RDis X
  ns : ∀ i, i < L.length → (rw_ X i).n = (rw_ L i).n + gext k t i
  old : ∀ i, i < L.length → Holds H 1 (rw_ L i).v (rw_ L i).n (u8s (mks i (rw_ L i).n))
  eq : ∀ i, i < L.length → gext k t i = 0 → rw_ X i = rw_ L i
  fresh : ∀ i, i < L.length → ∀ r, (rw_ X i).rs = some r → (rw_ L i).rs = some r ∨ H0 r = none
  frame : ∀ b o, H0 b = some o → ¬ rown L b → H b = some o
  kn : ∀ b, H b = none → H0 b = none
theorem Grow.none {H H' : Hp} {rs : Option Nat} (h : Grow H rs H') : ∀ b, H' b = none → H b = none := by
  intro b hb
  rcases h with rfl | ⟨r, o, _, rfl⟩
  · exact hb
  · by_cases e : b = r
    · subst e; rw [upd_same] at hb; cases hb
    · rwa [upd_ne _ _ e] at hb
theorem Holds.pref {H : Hp} {E : TypeId} {v : Value} {n m : Nat} {i : Nat} {r : Nat} {cap : Nat} (h : OwnS H E 1 v n (u8s (mks i n)) (some r)) (hm : m ≤ n) : Holds H 1 (.slice (some ⟨r, 0, none⟩) m cap) m (u8s (mks i m)) := by
  obtain ⟨_, ⟨_, _, h0⟩ | ⟨r', cap', c, e1, e2, e3, e4, e5, e6⟩⟩ := h
  · cases h0
  · cases e6
    refine ⟨by simp [mks_len], .inr ⟨r, 0, cap, c, E, _, rfl, e2, by omega, ?_⟩⟩
    have : (c.extract 0 m).toList = (u8s (mks i n)).take m := by
      rw [← e5]; simp [Array.toList_extract, List.extract_eq_take_drop, List.take_take, Nat.min_eq_left hm]
    simp only [Nat.zero_add, Nat.mul_one]
    rw [this, u8s, ← List.map_take, mks_take i hm]
theorem GI.grow {E : TypeId} {H0 H H' : Hp} {L X : List Rw} {k t : Nat} (g : GI E H0 H L X k t) (hk : k < L.length) (hL : ∀ i, i < L.length → (rw_ L i).n = 0 ∨ ∃ r, (rw_ L i).a = some ⟨r, 0, none⟩ ∧ (rw_ L i).rs = some r)
    (hdL : RDis L) (hkn : ∀ i, i < L.length → ∀ r, (rw_ L i).rs = some r → H0 r ≠ none) {a' : Option Addr} {cap' : Nat} {rs' : Option Nat} (hg : Grow H (rw_ X k).rs H') (ho : OwnS H' E 1 (.slice a' ((rw_ X k).n + 1) cap') ((rw_ X k).n + 1) (u8s (mks k (rw_ X k).n) ++ [.int .u8 (mkB k (rw_ X k).n)]) rs')
    (hr : ∀ r, rs' = some r → (rw_ X k).rs = some r ∨ H r = none) : GI E H0 H' L (X.set k ⟨a', (rw_ X k).n + 1, cap', rs'⟩) k (t + 1) := by
  have hkx : k < X.length := by rw [g.len]; exact hk
  have ho' : OwnS H' E 1 (.slice a' ((rw_ X k).n + 1) cap') ((rw_ X k).n + 1) (u8s (mks k ((rw_ X k).n + 1))) rs' := by
    rw [mks_succ, u8s, List.map_append]; exact ho
  -- blocks of other rows stand
  have stay : ∀ i, i < L.length → i ≠ k → ∀ b o, (rw_ X i).rs = some b → H b = some o → H' b = some o := fun i hi hik b o hb hbo =>
    hg.known b o hbo (fun e => g.dis k i hkx (by rw [g.len]; exact hi) (Ne.symm hik) b e hb)
  refine ⟨by simp [g.len], ?_, ?_, ?_, ?_, ?_, ?_, ?_, fun b hb => g.kn b (hg.none b hb)⟩
  · intro i hi
    have hi' : i < L.length := by simp [g.len] at hi; exact hi
    simp only [mksOf, rw_set hkx]
    by_cases e : i = k
    · subst e; simp only [if_true]; exact ho'
    · simp only [if_neg e]; exact (g.rows i (by rw [g.len]; exact hi')).stay (stay i hi' e)
  · intro i j hi hj hij r
    have hi' : i < L.length := by simp [g.len] at hi; exact hi
    have hj' : j < L.length := by simp [g.len] at hj; exact hj
    rw [rw_set hkx, rw_set hkx]
    by_cases e : i = k
    · subst e
      rw [if_pos rfl, if_neg (Ne.symm hij)]
      intro h1 h2
      rcases hr r h1 with h3 | h3
      · exact g.dis i j hkx (by rw [g.len]; exact hj') hij r h3 h2
      · exact (g.rows j (by rw [g.len]; exact hj')).known r h2 h3
    · rw [if_neg e]
      by_cases e2 : j = k
      · subst e2
        rw [if_pos rfl]
        intro h1 h2
        rcases hr r h2 with h3 | h3
        · exact g.dis i j (by rw [g.len]; exact hi') hkx hij r h1 h3
        · exact (g.rows i (by rw [g.len]; exact hi')).known r h1 h3
      · rw [if_neg e2]
        exact g.dis i j (by rw [g.len]; exact hi') (by rw [g.len]; exact hj') hij r
  · intro i hi
    rw [rw_set hkx]
    by_cases e : i = k
    · subst e; rw [if_pos rfl]
      have := g.ns i hi
      simp only [gext, Nat.lt_irrefl, if_false, if_true] at this ⊢; omega
    · rw [if_neg e]
      have := g.ns i hi
      simp only [gext, e, if_false] at this ⊢; exact this
  · intro i hi
    have hold := g.old i hi
    rcases hL i hi with h0 | ⟨r, ha, hrs⟩
    · have e0 : mks i (rw_ L i).n = [] := by rw [h0]; rfl
      refine ⟨by rw [e0, h0]; rfl, .inl ⟨(rw_ L i).a, (rw_ L i).cap, ?_, h0⟩⟩
      rw [Rw.v, h0]
    · by_cases e : i = k
      · subst e
        by_cases e2 : rs' = some r
        · rw [e2] at ho'
          have hle : (rw_ L i).n ≤ (rw_ X i).n + 1 := by have := g.ns i hi; omega
          have := Holds.pref (cap := (rw_ L i).cap) ho' hle
          rw [Rw.v, ha]; exact this
        · rw [Rw.v] at hold ⊢
          refine hold.le' ?_
          intro A o hA hAo
          rw [ha] at hA; cases hA
          rcases hg with rfl | ⟨r2, o2, h2, rfl⟩
          · exact hAo
          · rw [upd_ne _ _ ?_]; exact hAo
            intro e3
            simp only at e3
            subst e3
            -- the block that was changed is r: so it is the new slice's
            obtain ⟨_, ⟨_, h5, _⟩ | ⟨r4, _, _, _, h6, _, _, _, h7⟩⟩ := ho'
            · omega
            · rcases hr r4 h7 with h8 | h8
              · rcases h2 with h2 | h2
                · rw [h2] at h8; cases h8; exact e2 h7
                · rw [h2] at hAo; cases hAo
              · by_cases e5 : r4 = r
                · subst e5; exact e2 h7
                · rw [upd_ne _ _ e5, h8] at h6; cases h6
      · rw [Rw.v] at hold ⊢
        refine hold.le' ?_
        intro A o hA hAo
        rw [ha] at hA; cases hA
        refine hg.known _ _ hAo (fun e2 => ?_)
        rcases g.fresh k hk r e2 with h3 | h3
        · exact hdL k i hk hi (Ne.symm e) r h3 hrs
        · exact hkn i hi r hrs h3
  · intro i hi h0
    rw [rw_set hkx]
    by_cases e : i = k
    · subst e; simp [gext] at h0
    · rw [if_neg e]
      refine g.eq i hi ?_
      simpa [gext, e] using h0
  · intro i hi r
    rw [rw_set hkx]
    by_cases e : i = k
    · subst e; rw [if_pos rfl]
      intro h1
      rcases hr r h1 with h3 | h3
      · exact g.fresh i hi r h3
      · exact .inr (g.kn r h3)
    · rw [if_neg e]; exact g.fresh i hi r
  · intro b o hb hn
    refine hg.known b o (g.frame b o hb hn) (fun e => ?_)
    rcases g.fresh k hk b e with h3 | h3
    · exact hn ⟨k, hk, h3⟩
    · rw [hb] at h3; cases h3
theorem GI.next {E : TypeId} {H0 H : Hp} {L X : List Rw} {k : Nat} (g : GI E H0 H L X k 10) : GI E H0 H L X (k + 1) 0 := by
  have e : ∀ i, gext (k + 1) 0 i = gext k 10 i := fun i => by
    unfold gext
    by_cases h : i < k
    · rw [if_pos h, if_pos (by omega)]
    · by_cases h2 : i = k
      · rw [if_pos (by omega), if_neg h, if_pos h2]
      · rw [if_neg (by omega), if_neg h, if_neg h2]; simp
  exact ⟨g.len, g.rows, g.dis, fun i hi => by rw [e]; exact g.ns i hi, g.old, fun i hi h => g.eq i hi (by rw [← e]; exact h), g.fresh, g.frame, g.kn⟩
theorem GI.keep {E : TypeId} {H0 H H' : Hp} {L X : List Rw} {k t : Nat} (g : GI E H0 H L X k t) (hs : ∀ b o, H b = some o → (rown L b ∨ rown X b ∨ H0 b ≠ none) → H' b = some o)
    (hL : ∀ i, i < L.length → (rw_ L i).n = 0 ∨ ∃ r, (rw_ L i).a = some ⟨r, 0, none⟩ ∧ (rw_ L i).rs = some r) (hk : ∀ b, H' b = none → H b = none) : GI E H0 H' L X k t := by
  refine ⟨g.len, fun i hi => (g.rows i hi).stay (fun b o hb ho => hs b o ho (.inr (.inl ⟨i, hi, hb⟩))), g.dis, g.ns, fun i hi => ?_, g.eq, g.fresh, fun b o hb hn => hs b o (g.frame b o hb hn) (.inr (.inr (by rw [hb]; simp))), fun b hb => g.kn b (hk b hb)⟩
  rcases hL i hi with h0 | ⟨r, ha, hrs⟩
  · have e0 : mks i (rw_ L i).n = [] := by rw [h0]; rfl
    refine ⟨by rw [e0, h0]; rfl, .inl ⟨(rw_ L i).a, (rw_ L i).cap, ?_, h0⟩⟩
    rw [Rw.v, h0]
  · have hold := g.old i hi
    rw [Rw.v] at hold ⊢
    refine hold.le' ?_
    intro A o hA hAo
    rw [ha] at hA; cases hA
    exact hs _ _ hAo (.inl ⟨i, hi, hrs⟩)
theorem GI.start {E : TypeId} {H0 H : Hp} {L : List Rw} (h : RowsC E H L (mksOf L)) (hd : RDis L) (hf : ∀ b o, H0 b = some o → ¬ rown L b → H b = some o) : GI E H0 H L L 0 0 := by
  have hkn : ∀ b, H b = none → H0 b = none := fun b hb => by
    cases ho : H0 b with
    | none => rfl
    | some o =>
      by_cases e : rown L b
      · obtain ⟨i, hi, h1⟩ := e
        exact absurd hb ((h i hi).known b h1)
      · rw [hf b o ho e] at hb; cases hb
  refine ⟨rfl, h, hd, fun i _ => by simp [gext], fun i hi => (h i hi).holds, fun _ _ _ => rfl, fun i _ r hr => .inl hr, hf, hkn⟩
theorem upd_none {H : Hp} {x b : Nat} {o : Obj} (h : H.upd x o b = none) : H b = none := by
  by_cases e : b = x
  · subst e; rw [upd_same] at h; cases h
  · rwa [upd_ne _ _ e] at h
/-- a new block beside it -/
theorem GI.new {E : TypeId} {H0 H : Hp} {L X : List Rw} {k t : Nat} (g : GI E H0 H L X k t) (hL : ∀ i, i < L.length → (rw_ L i).n = 0 ∨ ∃ r, (rw_ L i).a = some ⟨r, 0, none⟩ ∧ (rw_ L i).rs = some r) {b : Nat} (hb : H b = none) (o : Obj) : GI E H0 (H.upd b o) L X k t :=
  g.keep (fun x o' hx _ => (upd_ne _ _ (ne_of_none hx hb)).trans hx) hL (fun _ h => upd_none h)
theorem RowsC.form {E : TypeId} {H : Hp} {L : List Rw} {C : Nat → List Int} (h : RowsC E H L C) : ∀ i, i < L.length → (rw_ L i).n = 0 ∨ ∃ r, (rw_ L i).a = some ⟨r, 0, none⟩ ∧ (rw_ L i).rs = some r := by
  intro i hi
  by_cases e : (rw_ L i).n = 0
  · exact .inl e
  · obtain ⟨r, c, h1, h2, _⟩ := h.row hi (by omega)
    exact .inr ⟨r, h1, h2⟩
theorem Lt_indexSof {P : Program} {H : Hp} {t e : TypeId} (hu : P.underlying t = some (.slice e)) {m : Nat} (hs : szOf P e = some m) {a : Option Addr} {b o n cap : Nat} (ha : a = some ⟨b, o, none⟩) {k : IntKind} {i : Int} (h0 : 0 ≤ i) (h1 : i < n) {K : Value → Hp → Prop}
    (h : K (.pointer (some ⟨b, o + i.toNat * m, none⟩)) H) : Lt P (Instr.indexAt t (.slice a n cap) (.int k i)) H K := by
  subst ha
  refine Lt_indexS hu hs h0 h1 ?_
  rw [add_mk]; exact h
end Go.Proofs.Ytcjdkfhmlnfedaa.HL
end
section
namespace Go.Proofs.Ytcjdkfhmlnfedaa.HL
open Go Go.Proofs
set_option linter.unusedSimpArgs false
set_option linter.unusedVariables false
attribute [local irreducible] Lt Lq CW OW TW CallH



theorem foldl_put : ∀ (l : List Value) (k off : Nat) (c : Array Value), (l.zipIdx k).foldl (fun cs (p : Value × Nat) => cs.setIfInBounds (off + p.2) p.1) c = putCells c (off + k) l
  | [], _, _, _ => rfl
  | v :: r, k, off, c => by
    simp only [List.zipIdx_cons, List.foldl_cons, putCells]
    rw [foldl_put r (k + 1) off]; rfl
theorem fill_many {place : Nat → Option (Nat × Nat)} {c : Array Value} {i off n : Nat} {v : Value} {l : List Value} {r : List (Nat × Value)} (hp : place i = some (off, n)) (hv : v.cells = l.toArray) (hn : l.length = n) (ho : off + n ≤ c.size) : Instr.fill place c ((i, v) :: r) = Instr.fill place (putCells c off l) r := by
  simp only [Instr.fill, hp, hv]
  rw [if_neg (by simp; omega)]
  congr 1
  rw [← Array.foldl_toList, Array.toList_zipIdx]
  exact foldl_put l 0 off c
theorem put_one {a : Value} {z l : List Value} (h : z.length = l.length) : putCells (a :: z).toArray 1 l = (a :: l).toArray := by
  apply Array.ext'
  rw [putCells_toList l _ 1 (by simp; omega)]
  rw [List.drop_eq_nil_of_le (by simp; omega)]; simp
theorem bw_ok (H : Hp) (K : Value → Hp → Prop) (i : Int) (x : Sec) : Lt Try.prog (Instr.build 120 #[(0, .int .i64 i), (1, .agg x.c.toArray)]) H K = K (.agg (Wt.c ⟨i, x⟩).toArray) H := by
  rw [bp120]
  rw [fill_one rfl rfl (by simp)]
  rw [fill_many (l := x.c) (n := 64) rfl rfl x.len (by simp), fill_nil, orF_some]
  simp only [List.setIfInBounds_toArray, List.set_cons_zero]
  rw [put_one (by rw [x.len]; rfl)]
theorem wt_holds {H : Hp} {b : Nat} {w : Wt} (hb : H b = some (.cells w.c.toArray 120)) : Holds H 65 (.slice (some ⟨b, 0, none⟩) 1 1) 1 w.c := by
  refine ⟨by rw [Wt.len], .inr ⟨b, 0, 1, _, _, _, rfl, hb, by simp [Sec.h], ?_⟩⟩
  rw [Array.toList_extract, List.extract_eq_take_drop]
  exact List.take_of_length_le (by rw [List.drop_zero, Wt.len]; omega)
theorem SX.mono {F K : Hp} {p : Nat} {s : St} {r cap : Nat} {bs : List Nat} {Fs : Nat → Hp} (h : SX F p s r cap bs Fs) (k : Le F K) : SX K p s r cap bs Fs :=
  ⟨k _ _ h.hd, h.len, h.own.le k, h.dev, fun i hi => Le.trans (h.le i hi) k, h.fp, h.sep⟩
theorem SX.ne {F : Hp} {p : Nat} {s : St} {r cap : Nat} {bs : List Nat} {Fs : Nat → Hp} (h : SX F p s r cap bs Fs) : r ≠ p := by
  obtain ⟨_, ⟨h0, _, _⟩ | ⟨r', cc, c, h1, h2, _⟩⟩ := h.own
  · cases h0
  · injection h1 with h1 _ _
    injection h1 with h1
    injection h1 with h1 _ _
    subst h1
    intro e; subst e
    rw [h.hd] at h2; injection h2 with h2; injection h2 with _ h2; revert h2; decide
/-- the set behind a change of one device, and of its head -/
theorem SX.put2 {F K : Hp} {p : Nat} {s t : St} {r cap : Nat} {bs : List Nat} {Fs : Nat → Hp} (h : SX F p s r cap bs Fs) {i : Nat} (hi : i < s.dv.length) {Fi : Hp} {d : Dv} (hd : DvX Fi (bs.getD i 0) d) (ht : t.dv = s.dv.set i d)
    (hK : K p = some (.cells #[.int .i64 t.steps, .int .i64 t.left, .bool t.armed, .bool t.gone, .slice (some ⟨r, 0, none⟩) s.dv.length cap] 78)) (hle : Le Fi K) (hkeep : ∀ x o, F x = some o → Fs i x = none → x ≠ p → K x = some o) (hnew : ∀ x, Fi x ≠ none → Fs i x ≠ none ∨ F x = none) : ∃ Fs', SX K p t r cap bs Fs' ∧ Fs' = (fun j => if j = i then Fi else Fs j) := by
  have hl : t.dv.length = s.dv.length := by rw [ht]; simp
  have hFp : ∀ x, F x ≠ none → Fs i x = none → Fi x = none := fun x hx hn => by
    cases hc : Fi x with
    | none => rfl
    | some o => rcases hnew x (by rw [hc]; simp) with h1 | h1
                · exact absurd hn h1
                · exact absurd h1 hx
  have hr : F r ≠ none := h.own.known r rfl
  refine ⟨fun j => if j = i then Fi else Fs j, ⟨by rw [hl]; exact hK, by rw [hl]; exact h.len, ?_, ?_, ?_, ?_, ?_⟩, rfl⟩
  · rw [hl]; exact h.own.stay (fun b o hb ho => by cases hb; exact hkeep r o ho (h.fp i hi).2 h.ne)
  · intro j hj
    rw [hl] at hj
    by_cases e : j = i
    · subst e; simp only [if_true]; rw [ht]; simpa [List.getD_eq_getElem?_getD, List.getElem?_set_self hi] using hd
    · simp only [if_neg e]; rw [ht]
      have := h.dev j hj
      simpa [List.getD_eq_getElem?_getD, List.getElem?_set_ne (Ne.symm e)] using this
  · intro j hj
    rw [hl] at hj
    by_cases e : j = i
    · subst e; simp only [if_true]; exact hle
    · simp only [if_neg e]
      intro x o hx
      refine hkeep x o (h.le j hj x o hx) (h.sep j i hj hi e x (by rw [hx]; simp)) (fun e2 => by subst e2; rw [(h.fp j hj).1] at hx; cases hx)
  · intro j hj
    rw [hl] at hj
    by_cases e : j = i
    · subst e; simp only [if_true]
      exact ⟨hFp p (by rw [h.hd]; simp) (h.fp j hj).1, hFp r hr (h.fp j hj).2⟩
    · simp only [if_neg e]; exact h.fp j hj
  · intro j k hj hk hjk x hx
    rw [hl] at hj hk
    by_cases e : j = i
    · subst e
      simp only [if_true] at hx
      simp only [if_neg (Ne.symm hjk)]
      rcases hnew x hx with h1 | h1
      · exact h.sep j k hj hk hjk x h1
      · exact none_of_le (h.le k hk) h1
    · simp only [if_neg e] at hx
      by_cases e2 : k = i
      · subst e2
        simp only [if_true]
        refine hFp x ?_ (h.sep j k hj hk hjk x hx)
        cases hc : Fs j x with
        | none => exact absurd hc hx
        | some o => rw [h.le j hj x o hc]; simp
      · simp only [if_neg e2]; exact h.sep j k hj hk hjk x hx
theorem SX.put {F K : Hp} {p : Nat} {s t : St} {r cap : Nat} {bs : List Nat} {Fs : Nat → Hp} (h : SX F p s r cap bs Fs) {i : Nat} (hi : i < s.dv.length) {Fi : Hp} {d : Dv} (hd : DvX Fi (bs.getD i 0) d) (ht : t.dv = s.dv.set i d)
    (hK : K p = some (.cells #[.int .i64 t.steps, .int .i64 t.left, .bool t.armed, .bool t.gone, .slice (some ⟨r, 0, none⟩) s.dv.length cap] 78)) (hle : Le Fi K) (hkeep : ∀ x o, F x = some o → Fs i x = none → x ≠ p → K x = some o) (hnew : ∀ x, Fi x ≠ none → Fs i x ≠ none ∨ F x = none) : SetX K p t := by
  obtain ⟨Fs', h', _⟩ := h.put2 hi hd ht hK hle hkeep hnew
  exact ⟨r, cap, bs, Fs', h'⟩
/-- the set behind a change of its head -/
theorem SX.head {F K : Hp} {p : Nat} {s t : St} {r cap : Nat} {bs : List Nat} {Fs : Nat → Hp} (h : SX F p s r cap bs Fs) (ht : t.dv = s.dv)
    (hK : K p = some (.cells #[.int .i64 t.steps, .int .i64 t.left, .bool t.armed, .bool t.gone, .slice (some ⟨r, 0, none⟩) s.dv.length cap] 78)) (hkeep : ∀ x o, F x = some o → x ≠ p → K x = some o) : SX K p t r cap bs Fs := by
  refine ⟨by rw [ht]; exact hK, by rw [ht]; exact h.len, by rw [ht]; exact h.own.stay (fun b o hb ho => by cases hb; exact hkeep r o ho h.ne), by rw [ht]; exact h.dev, ?_, by rw [ht]; exact h.fp, by rw [ht]; exact h.sep⟩
  rw [ht]
  exact fun i hi x o hx => hkeep x o (h.le i hi x o hx) (fun e => by subst e; rw [(h.fp i hi).1] at hx; cases hx)
theorem DvX.put {K : Hp} {b m : Nat} {d : Dv} {w : Wt} {es : Array MapEntry} {c : Nat} {wv' : Value} {wrs' : Option Nat} (hb : K b = some (.cells #[.int .i64 d.size, .map (some m), wv'] 83)) (hm : K m = some (.map es c)) (hs : MapS es d.sure) (ho : OwnS K 120 65 wv' (d.wait.length + 1) (wts d.wait ++ w.c) wrs') :
    ∃ Fi, DvX Fi b (d.put w) ∧ Le Fi K ∧ ∀ x, Fi x ≠ none → x = b ∨ x = m ∨ wrs' = some x := by
  refine ⟨fun x => if x = b ∨ x = m ∨ wrs' = some x then K x else none, ⟨m, es, c, wv', wrs', by simpa [Dv.put] using hb, by simpa using hm, hs, ?_, fun x hx => ?_⟩, fun x o hx => ?_, fun x hx => ?_⟩
  · have e : wts (d.put w).wait = wts d.wait ++ w.c := by simp [Dv.put, wts]
    have e2 : (d.put w).wait.length = d.wait.length + 1 := by simp [Dv.put]
    rw [e, e2]
    exact ho.stay (fun b o hb ho => by simp [hb, ho])
  · by_cases h : x = b ∨ x = m ∨ wrs' = some x
    · exact h
    · simp [h] at hx
  · by_cases h : x = b ∨ x = m ∨ wrs' = some x
    · simpa [h] using hx
    · simp [h] at hx
  · by_cases h : x = b ∨ x = m ∨ wrs' = some x
    · exact h
    · simp [h] at hx


theorem has_dev (H : Hp) (p : Nat) (s : St) (rd cap : Nat) (bs : List Nat) (Fs : Nat → Hp) (h : SX H p s rd cap bs Fs) (dev i : Int) : CallH Try.prog 47 #[devV s bs dev, .int .i64 i] H (fun v H' => v = .bool (s.has dev i) ∧ H' = H) := by
  unfold devV St.has
  by_cases hin : 0 ≤ dev ∧ dev < s.dv.length
  · rw [if_pos hin]
    obtain ⟨m, wv, hb⟩ := (h.dev dev.toNat (by omega)).blk
    refine (has_ok H _ _ _ _ (h.le dev.toNat (by omega) _ _ hb) i).mono ?_
    rintro v H' ⟨rfl, rfl⟩
    exact ⟨by simp [hin], rfl⟩
  · rw [if_neg hin]
    refine (has_nil H i).mono ?_
    rintro v H' ⟨rfl, rfl⟩
    exact ⟨by simp [hin], rfl⟩

set_option maxRecDepth 100000 in
set_option maxHeartbeats 4000000 in
theorem write_ok (H : Hp) (p : Nat) (s : St) (rd cap : Nat) (bs : List Nat) (Fs : Nat → Hp) (h : SX H p s rd cap bs Fs) (hl : s.dv.length ≤ 1000) (hw : ∀ i, (s.dv.getD i default).wait.length ≤ 1000000) (dev i : Int) (x : Sec) : CallH Try.prog 21 #[(.pointer (some ⟨p, 0, none⟩)), .int .i64 dev, .int .i64 i, x.v] H (fun v H' => v = errV (s.wr dev i x).2 ∧ SetX H' p (s.wr dev i x).1) := by
  refine CallH_enter (l := [_, _, _, _]) (rl := [.tmp 8]) (n := 43) Try.func21 rfl rfl rfl rfl rfl ?_
  simp only [envOf, Nat.reduceAdd]
  refine CW_seq (fun K1 hK1 => ?_)
  refine CW_region ?_
  refine OW_opS (fun K hK r => ?_)
  simp only [x_box, Value.cells, eX, ↓reduceIte, Nat.reduceEqDiff, Int.reduceToNat]
  intro b7 hb7
  have f7_H : H b7 = none := none_of_le lhA hb7
  have h7 := h.mono (le_upd H b7 (.cells x.c.toArray 45) hb7)
  have k7p := h7.hd
  try simp only [eX, ↓reduceIte, Nat.reduceEqDiff, Int.reduceToNat]
  refine hK _ _ ?_; clear hK K
  refine OW_as rfl ?_
  refine OW_nil ?_
  try simp only [Ex.thnH, Ex.inBlockH, ↓reduceIte, Nat.reduceEqDiff]
  refine hK1 _ _ ?_; try clear hK1 K1
  refine CW_seq (fun K2 hK2 => ?_)
  refine CW_region ?_
  refine OW_mv rfl ?_
  refine OW_mv rfl ?_
  refine OW_opS (fun K hK r => ?_)
  simp only [x_callF _ bd46, List.map_toArray, List.map_cons, List.map_nil, eX, ↓reduceIte, Nat.reduceEqDiff, Int.reduceToNat]
  refine (device_ok _ p s rd cap bs Fs h7 dev hl).mono ?_
  rintro v H' ⟨rfl, rfl⟩
  try simp only [eX, ↓reduceIte, Nat.reduceEqDiff, Int.reduceToNat]
  refine hK _ _ ?_; clear hK K
  refine OW_as rfl ?_
  refine OW_nil ?_
  try simp only [Ex.thnH, Ex.inBlockH, ↓reduceIte, Nat.reduceEqDiff]
  refine hK2 _ _ ?_; try clear hK2 K2
  refine CW_seq (fun K3 hK3 => ?_)
  refine CW_block ?_
  refine CW_seq (fun K4 hK4 => ?_)
  refine CW_region ?_
  refine OW_mv rfl ?_
  refine OW_opS (fun K hK r => ?_)
  simp only [x_bin, g_int, g_bool, g_string, g_pointer, g_slice, g_map, g_func, g_nilFunc, g_iface, g_nil_iface, g_nil_r, g_nil_l, eX, ↓reduceIte, Nat.reduceEqDiff, Int.reduceToNat]
  rw [e_eql _ _ _ _ (by simp)]
  rw [q_equal]
  first | rw [q_ptr_nil _ _ _ Try.underlying31] | rw [q_nil_ptr _ _ _ Try.underlying31]
  try simp only [eX, ↓reduceIte, Nat.reduceEqDiff, Int.reduceToNat]
  refine hK _ _ ?_; clear hK K
  refine OW_as rfl ?_
  refine OW_nil ?_
  try simp only [Ex.thnH, Ex.inBlockH, ↓reduceIte, Nat.reduceEqDiff]
  refine hK4 _ _ ?_; try clear hK4 K4
  refine CW_cond (fun r => rfl) (fun c14 => ?_) (fun c14 => ?_)
  · first
    | (exfalso; exact cnA c14; done)
    | skip
      (try simp only [decide_eq_true_eq, decide_eq_false_iff_not, Bool.not_eq_true, Bool.not_eq_false, Bool.and_eq_true, Bool.or_eq_true, Bool.or_eq_false_iff, Bool.not_eq_true, Bool.not_eq_eq_eq_not, Bool.not_true, Bool.not_false] at c14)
      refine CW_seq (fun K5 hK5 => ?_)
      refine CW_region ?_
      refine OW_opS (fun K hK r => ?_)
      simp only [x_makeInterface, i_makeInterface, Try.underlying73, orF_some, eX, ↓reduceIte, Nat.reduceEqDiff, Int.reduceToNat]
      refine hK _ _ ?_; clear hK K
      refine OW_as rfl ?_
      refine OW_nil ?_
      try simp only [Ex.thnH, Ex.inBlockH, ↓reduceIte, Nat.reduceEqDiff]
      refine hK5 _ _ ?_; try clear hK5 K5
      refine CW_ret ?_
      try simp only [Ex.thnH, Ex.inBlockH, ↓reduceIte, Nat.reduceEqDiff]
      skip
  · first
    | (exfalso; exact cnA c14; done)
    | skip
      (try simp only [decide_eq_true_eq, decide_eq_false_iff_not, Bool.not_eq_true, Bool.not_eq_false, Bool.and_eq_true, Bool.or_eq_true, Bool.or_eq_false_iff, Bool.not_eq_true, Bool.not_eq_eq_eq_not, Bool.not_true, Bool.not_false] at c14)
      refine CW_seq (fun K6 hK6 => ?_)
      refine CW_region ?_
      refine OW_mv rfl ?_
      refine OW_mv rfl ?_
      refine OW_opS (fun K hK r => ?_)
      simp only [x_callF _ bd47, List.map_toArray, List.map_cons, List.map_nil, eX, ↓reduceIte, Nat.reduceEqDiff, Int.reduceToNat]
      refine (has_dev _ p s rd cap bs Fs h7 dev i).mono ?_
      rintro v H' ⟨rfl, rfl⟩
      try simp only [eX, ↓reduceIte, Nat.reduceEqDiff, Int.reduceToNat]
      refine hK _ _ ?_; clear hK K
      refine OW_opS (fun K hK r => ?_)
      simp only [x_un, u_not, eX, ↓reduceIte, Nat.reduceEqDiff, Int.reduceToNat]
      refine hK _ _ ?_; clear hK K
      refine OW_as rfl ?_
      refine OW_nil ?_
      try simp only [Ex.thnH, Ex.inBlockH, ↓reduceIte, Nat.reduceEqDiff]
      refine hK6 _ _ ?_; try clear hK6 K6
      refine CW_cond (fun r => rfl) (fun c18 => ?_) (fun c18 => ?_)
      · first
        | (exfalso; exact cnA c18; done)
        | skip
          (try simp only [decide_eq_true_eq, decide_eq_false_iff_not, Bool.not_eq_true, Bool.not_eq_false, Bool.and_eq_true, Bool.or_eq_true, Bool.or_eq_false_iff, Bool.not_eq_true, Bool.not_eq_eq_eq_not, Bool.not_true, Bool.not_false] at c18)
          have hno : s.has dev i = false := by simpa using c18
          refine CW_seq (fun K7 hK7 => ?_)
          refine CW_region ?_
          refine OW_opS (fun K hK r => ?_)
          simp only [x_makeInterface, i_makeInterface, Try.underlying73, orF_some, eX, ↓reduceIte, Nat.reduceEqDiff, Int.reduceToNat]
          refine hK _ _ ?_; clear hK K
          refine OW_as rfl ?_
          refine OW_nil ?_
          try simp only [Ex.thnH, Ex.inBlockH, ↓reduceIte, Nat.reduceEqDiff]
          refine hK7 _ _ ?_; try clear hK7 K7
          refine CW_ret ?_
          try simp only [Ex.thnH, Ex.inBlockH, ↓reduceIte, Nat.reduceEqDiff]
          refine ⟨[_], ⟨rfl, trivial⟩, _, Le.refl _, ?_, ?_⟩
          · show _ = errV _
            unfold St.wr; rw [if_neg (by rw [hno]; simp)]; rfl
          · unfold St.wr; rw [if_neg (by rw [hno]; simp)]; exact ⟨rd, cap, bs, Fs, h7⟩
      · first
        | (exfalso; exact cnA c18; done)
        | skip
          (try simp only [decide_eq_true_eq, decide_eq_false_iff_not, Bool.not_eq_true, Bool.not_eq_false, Bool.and_eq_true, Bool.or_eq_true, Bool.or_eq_false_iff, Bool.not_eq_true, Bool.not_eq_eq_eq_not, Bool.not_true, Bool.not_false] at c18)
          have hyes : s.has dev i = true := by simpa using c18
          have hin : 0 ≤ dev ∧ dev < s.dv.length := by unfold St.has at hyes; simp at hyes; omega
          have hk : dev.toNat < s.dv.length := by omega
          have hdv : devV s bs dev = ptrV (bs.getD dev.toNat 0) := by unfold devV; rw [if_pos hin]
          rw [hdv]
          obtain ⟨b, hbd⟩ : ∃ b, b = bs.getD dev.toNat 0 := ⟨_, rfl⟩
          rw [← hbd]
          obtain ⟨m, es, c, wv, wrs, hb0, hm0, hms, how, hdom⟩ := hbd ▸ h.dev dev.toNat hk
          have hle := h.le dev.toNat hk
          have hfp := h.fp dev.toNat hk
          have hbp : b ≠ p := fun e => by rw [e, hfp.1] at hb0; cases hb0
          have hmp : m ≠ p := fun e => by rw [e, hfp.1] at hm0; cases hm0
          have hb7' : b ≠ b7 := ne_of_none (hle _ _ hb0) hb7
          have hm7' : m ≠ b7 := ne_of_none (hle _ _ hm0) hb7
          have hp7 : p ≠ b7 := ne_of_none h.hd hb7
          have kb := hle _ _ hb0
          have km := hle _ _ hm0
          obtain ⟨wa, wcp, rfl⟩ := how.holds.form
          refine CW_skip ?_
          try simp only [Ex.thnH, Ex.inBlockH, ↓reduceIte, Nat.reduceEqDiff]
          refine hK3 _ _ ?_; try clear hK3 K3
          refine CW_seq (fun K8 hK8 => ?_)
          refine CW_seq (fun K9 hK9 => ?_)
          refine CW_region ?_
          refine OW_mv rfl ?_
          refine OW_opS (fun K hK r => ?_)
          rw [x_nilCheck _ _ rfl]
          simp only [eX, ↓reduceIte, Nat.reduceEqDiff, Int.reduceToNat]
          refine hK _ _ ?_; clear hK K
          refine OW_opS (fun K hK r => ?_)
          simp only [x_fieldAddr, fa78_0, add_mk, Nat.reduceAdd, Nat.zero_add, eX, ↓reduceIte, Nat.reduceEqDiff, Int.reduceToNat]
          refine hK _ _ ?_; clear hK K
          refine OW_opS (fun K hK r => ?_)
          simp only [x_callF _ bd48, List.map_toArray, List.map_cons, List.map_nil, eX, ↓reduceIte, Nat.reduceEqDiff, Int.reduceToNat]
          refine (step_ok _ p s _ h7.hd).mono ?_
          rintro v H' ⟨rfl, rfl⟩
          try simp only [eX, ↓reduceIte, Nat.reduceEqDiff, Int.reduceToNat]
          refine hK _ _ ?_; clear hK K
          refine OW_as rfl ?_
          refine OW_nil ?_
          try simp only [Ex.thnH, Ex.inBlockH, ↓reduceIte, Nat.reduceEqDiff]
          refine hK9 _ _ ?_; try clear hK9 K9
          refine CW_seq (fun K10 hK10 => ?_)
          refine CW_region ?_
          refine OW_mv rfl ?_
          refine OW_opS (fun K hK r => ?_)
          simp only [x_bin, g_int, g_bool, g_string, g_pointer, g_slice, g_map, g_func, g_nilFunc, g_err, g_iface, g_nil_iface, g_nil_r, g_nil_l, eX, ↓reduceIte, Nat.reduceEqDiff, Int.reduceToNat]
          first | rw [b_err_neq _ _ Try.underlying33] | (rw [e_neq _ _ _ _ (by simp), q_equal]; first | rw [q_iface_nil _ _ _ Try.underlying33] | rw [q_nil_iface _ _ _ Try.underlying33] | rw [q_nil_nil _ _ _ Try.underlying33])
          try simp only [eX, ↓reduceIte, Nat.reduceEqDiff, Int.reduceToNat]
          refine hK _ _ ?_; clear hK K
          refine OW_nil ?_
          try simp only [Ex.thnH, Ex.inBlockH, ↓reduceIte, Nat.reduceEqDiff]
          refine hK10 _ _ ?_; try clear hK10 K10
          refine CW_cond (fun r => rfl) (fun c29 => ?_) (fun c29 => ?_)
          · first
            | (exfalso; exact cnA c29; done)
            | skip
              (try simp only [decide_eq_true_eq, decide_eq_false_iff_not, Bool.not_eq_true, Bool.not_eq_false, Bool.and_eq_true, Bool.or_eq_true, Bool.or_eq_false_iff, Bool.not_eq_true, Bool.not_eq_eq_eq_not, Bool.not_true, Bool.not_false] at c29)
              have hst : s.step.2 = false := by cases hc : s.step.2 with
                | false => rfl
                | true => rw [hc] at c29; simp at c29
              refine CW_seq (fun K11 hK11 => ?_)
              refine CW_region ?_
              refine OW_mv rfl ?_
              refine OW_as rfl ?_
              refine OW_nil ?_
              try simp only [Ex.thnH, Ex.inBlockH, ↓reduceIte, Nat.reduceEqDiff]
              refine hK11 _ _ ?_; try clear hK11 K11
              refine CW_ret ?_
              try simp only [Ex.thnH, Ex.inBlockH, ↓reduceIte, Nat.reduceEqDiff]
              have hwr : s.wr dev i x = (s.step.1, some 3) := by
                unfold St.wr; rw [if_pos hyes]
                generalize hq : s.step = q at *
                obtain ⟨t, bb⟩ := q
                simp only at hst; subst hst; rfl
              refine ⟨[_], ⟨rfl, trivial⟩, _, Le.refl _, ?_, ?_⟩
              · rw [hwr, hst]; rfl
              · rw [hwr]; exact ⟨rd, cap, bs, Fs, h7.head (step_dv s) (upd_same _ _ _) (fun z o hz hzp => (upd_ne _ _ hzp).trans hz)⟩
          · first
            | (exfalso; exact cnA c29; done)
            | skip
              (try simp only [decide_eq_true_eq, decide_eq_false_iff_not, Bool.not_eq_true, Bool.not_eq_false, Bool.and_eq_true, Bool.or_eq_true, Bool.or_eq_false_iff, Bool.not_eq_true, Bool.not_eq_eq_eq_not, Bool.not_true, Bool.not_false] at c29)
              have hst : s.step.2 = true := by cases hc : s.step.2 with
                | true => rfl
                | false => rw [hc] at c29; simp at c29
              have hwl := hw dev.toNat
              refine CW_skip ?_
              try simp only [Ex.thnH, Ex.inBlockH, ↓reduceIte, Nat.reduceEqDiff]
              refine hK8 _ _ ?_; try clear hK8 K8
              refine CW_seq (fun K12 hK12 => ?_)
              obtain ⟨R9, hR9⟩ : ∃ R : Hp, R = (emptyHp.upd b (.cells #[.int .i64 (s.dv.getD dev.toNat default).size, .map (some m), .slice wa (s.dv.getD dev.toNat default).wait.length wcp] 83)).upd b7 (.cells x.c.toArray 45) := ⟨_, rfl⟩
              refine CW_drawR [0, 0, 0, 0, 1, 0, 1, 0, 2, 2, 0, 0, 3] [0, 1, 2, 3, 4, 5, 6, 7, 8, 9, 10, 11, 12] R9 (by kernel_rfl) (by kernel_rfl) (by subst hR9; exact le_put (le_put (le_empty _) hbA) hbA) (fun lR9 => ?_)
              apply TW_pure rfl (lt_some (by decide)) rfl
              · intro r
                simp only [x_move, eX, ↓reduceIte, Nat.reduceEqDiff]
                exact ⟨rfl, Le.refl _⟩
              simp only [eX, ↓reduceIte, Nat.reduceEqDiff, Int.reduceToNat]
              apply TW_pure rfl (lt_some (by decide)) rfl
              · intro r
                simp only [x_move, eX, ↓reduceIte, Nat.reduceEqDiff]
                exact ⟨rfl, Le.refl _⟩
              simp only [eX, ↓reduceIte, Nat.reduceEqDiff, Int.reduceToNat]
              apply TW_pure rfl (lt_some (by decide)) rfl
              · intro r
                rw [x_nilCheck _ _ rfl]
                exact ⟨rfl, Le.refl _⟩
              simp only [eX, ↓reduceIte, Nat.reduceEqDiff, Int.reduceToNat]
              apply TW_pure rfl (lt_some (by decide)) rfl
              · intro r
                simp only [x_fieldAddr, fa83_2, add_mk, Nat.reduceAdd, Nat.zero_add, eX, ↓reduceIte, Nat.reduceEqDiff]
                exact ⟨rfl, Le.refl _⟩
              simp only [eX, ↓reduceIte, Nat.reduceEqDiff, Int.reduceToNat]
              apply TW_look rfl (lt_some (by decide)) rfl
              · intro r
                simp only [x_load, eX, ↓reduceIte, Nat.reduceEqDiff]
                refine Lt_loadAt1 Try.underlying81 rfl hbA ldA ?_
                exact ⟨rfl, Le.refl _⟩
              simp only [eX, ↓reduceIte, Nat.reduceEqDiff, Int.reduceToNat]
              apply TW_pure rfl (lt_some (by decide)) rfl
              · intro r
                simp only [x_move, eX, ↓reduceIte, Nat.reduceEqDiff]
                exact ⟨rfl, Le.refl _⟩
              simp only [eX, ↓reduceIte, Nat.reduceEqDiff, Int.reduceToNat]
              apply TW_look rfl (lt_some (by decide)) rfl
              · intro r
                simp only [x_load, eX, ↓reduceIte, Nat.reduceEqDiff]
                refine Lt_loadAll Try.underlying45 rfl sz45 hbA (by simp [x.h]) ?_
                exact ⟨rfl, Le.refl _⟩
              simp only [eX, ↓reduceIte, Nat.reduceEqDiff, Int.reduceToNat]
              apply TW_pure rfl (lt_some (by decide)) rfl
              · intro r
                simp only [x_build, List.map_toArray, List.map_cons, List.map_nil, eX, ↓reduceIte, Nat.reduceEqDiff]
                rw [bw_ok]
                exact ⟨rfl, Le.refl _⟩
              simp only [eX, ↓reduceIte, Nat.reduceEqDiff, Int.reduceToNat]
              refine TW_chain rfl (lt_some (by decide)) rfl (fun K hK r => ?_)
              simp only [x_buildSlice, List.map_toArray, List.map_cons, List.map_nil, eX, ↓reduceIte, Nat.reduceEqDiff, Int.reduceToNat]
              refine Lt_buildSlice (vs := [.agg (Wt.c ⟨i, x⟩).toArray]) Try.underlying81 sz120 zr120 rfl (fun v hv => by simp at hv; subst hv; show (Wt.c ⟨i, x⟩).toArray.size = 65; simp [Sec.h]) (by first | decide | (simp; done)) ?_
              simp only [List.flatMap_cons, List.flatMap_nil, Value.cells, List.append_nil]
              intro b39 hb39
              have n39b : b ≠ b39 := ne_of_none hbA hb39
              have n39b7 : b7 ≠ b39 := ne_of_none hbA hb39
              have n39p : p ≠ b39 := ne_of_none hbA hb39
              have f39_R9 : R9 b39 = none := none_of_le lR9 hb39
              refine hK _ _ leA ?_; clear hK K
              refine TW_chain rfl (lt_some (by decide)) rfl (fun K hK r => ?_)
              simp only [x_builtin, l_append, List.map_toArray, List.map_cons, List.map_nil, eX, ↓reduceIte, Nat.reduceEqDiff, Int.reduceToNat]
              have how40 : OwnS ((H.upd b7 (.cells x.c.toArray 45)).upd p (.cells #[.int .i64 s.step.1.steps, .int .i64 s.step.1.left, .bool s.step.1.armed, .bool s.step.1.gone, .slice (some ⟨rd, 0, none⟩) s.dv.length cap] 78)) 120 65 (.slice wa (s.dv.getD dev.toNat default).wait.length wcp) (s.dv.getD dev.toNat default).wait.length (wts (s.dv.getD dev.toNat default).wait) wrs := (how.le hle).stay (fun z o hz ho => by
                have hzp : z ≠ p := fun e => by subst e; have := how.known z hz; rw [hfp.1] at this; exact this rfl
                rw [upd_ne _ _ hzp, upd_ne _ _ (ne_of_none ho hb7)]; exact ho)
              refine Lt_append Try.underlying81 Try.underlying81 (by simp) sz120 by120 (by decide) zr120 rfl _ (n := (s.dv.getD dev.toNat default).wait.length) (m := 1) (ds := Wt.c ⟨i, x⟩) (how40.make hb39) (fun Kx => len_slice _ _ _ Kx) (fun Kx => first_slice (w := 65) (n := 1) (cs := Wt.c ⟨i, x⟩) (wt_holds (w := ⟨i, x⟩) hbA) Kx) (by rw [Wt.len]) (Wt.plain _) (by omega) ?_
              intro v40 H40 rs40 hg40 ho40 hr40
              obtain ⟨wa40, wc40, rfl⟩ := ho40.holds.form
              have hwb : wrs ≠ some b := fun e => by
                obtain ⟨_, ⟨_, _, h0⟩ | ⟨r', cc, c', _, h2, _, _, _, h3⟩⟩ := how
                · rw [e] at h0; cases h0
                · rw [e] at h3; cases h3; rw [hb0] at h2; injection h2 with h2; injection h2 with _ h2; revert h2; decide
              have hw7 : wrs ≠ some b7 := fun e => how.known b7 e (none_of_le hle hb7)
              have hwp : wrs ≠ some p := fun e => how.known p e hfp.1
              have hwm : wrs ≠ some m := fun e => by
                obtain ⟨_, ⟨_, _, h0⟩ | ⟨r', cc, c', _, h2, _, _, _, h3⟩⟩ := how
                · rw [e] at h0; cases h0
                · rw [e] at h3; cases h3; rw [hm0] at h2; cases h2
              have hbm : b ≠ m := fun e => by rw [e, hm0] at hb0; cases hb0
              have kb40 := hg40.known b _ hbA hwb
              have k740 := hg40.known b7 _ hbA hw7
              have kp40 := hg40.known p _ hbA hwp
              have lR40 : Le R9 H40 := by rw [hR9]; exact le_put (le_put (le_empty _) kb40) k740
              have keep40 : ∀ x o, H x = some o → Fs dev.toNat x = none → x ≠ p → H40 x = some o := fun z o hz hn hzp => hg40.known z o ((upd_ne _ _ (ne_of_none ((upd_ne _ _ hzp).trans ((upd_ne _ _ (ne_of_none hz hb7)).trans hz)) hb39)).trans ((upd_ne _ _ hzp).trans ((upd_ne _ _ (ne_of_none hz hb7)).trans hz))) (fun e => how.known z e hn)
              have km40 : H40 m = some (.map es c) := hg40.known m _ ((upd_ne _ _ (ne_of_none ((upd_ne _ _ hmp).trans ((upd_ne _ _ hm7').trans km)) hb39)).trans ((upd_ne _ _ hmp).trans ((upd_ne _ _ hm7').trans km))) hwm
              refine hK _ _ leA ?_; clear hK K
              apply TW_pure rfl (lt_some (by decide)) rfl
              · intro r
                rw [x_nilCheck _ _ rfl]
                exact ⟨rfl, Le.refl _⟩
              simp only [eX, ↓reduceIte, Nat.reduceEqDiff, Int.reduceToNat]
              apply TW_pure rfl (lt_some (by decide)) rfl
              · intro r
                simp only [x_fieldAddr, fa83_2, add_mk, Nat.reduceAdd, Nat.zero_add, eX, ↓reduceIte, Nat.reduceEqDiff]
                exact ⟨rfl, Le.refl _⟩
              simp only [eX, ↓reduceIte, Nat.reduceEqDiff, Int.reduceToNat]
              refine TW_last rfl (lt_none) rfl (fun K hK r => ?_)
              simp only [x_store, eX, ↓reduceIte, Nat.reduceEqDiff, Int.reduceToNat]
              refine Lt_storeAt1 sz81 hbA bdA plA fzA ?_
              try simp only [setL0, setL1, setL2, setL3, setL4, setL5, setL6, setL7, setL8, setL9]
              try simp only [eX, ↓reduceIte, Nat.reduceEqDiff, Int.reduceToNat]
              refine hK _ _ ?_; clear hK K
              refine TW_nil ?_
              try simp only [Ex.thnH, Ex.inBlockH, ↓reduceIte, Nat.reduceEqDiff]
              refine hK12 _ _ ?_; try clear hK12 K12
              refine CW_seq (fun K13 hK13 => ?_)
              refine CW_region ?_
              refine OW_as rfl ?_
              refine OW_nil ?_
              try simp only [Ex.thnH, Ex.inBlockH, ↓reduceIte, Nat.reduceEqDiff]
              refine hK13 _ _ ?_; try clear hK13 K13
              refine CW_ret ?_
              try simp only [Ex.thnH, Ex.inBlockH, ↓reduceIte, Nat.reduceEqDiff]
              have hwr : s.wr dev i x = ({ s.step.1 with dv := s.dv.set dev.toNat ((s.dv.getD dev.toNat default).put ⟨i, x⟩) }, none) := by
                unfold St.wr; rw [if_pos hyes]
                have hdq := step_dv s
                generalize hq : s.step = q at *
                obtain ⟨t, bb⟩ := q
                simp only at hst hdq; subst hst; rw [← hdq]
              obtain ⟨Fi, hFi, hlFi, hdFi⟩ := DvX.put (w := ⟨i, x⟩) (K := H40.upd b (.cells #[.int .i64 (s.dv.getD dev.toNat default).size, .map (some m), .slice wa40 ((s.dv.getD dev.toNat default).wait.length + 1) wc40] 83)) (upd_same _ _ _) ((upd_ne _ _ (Ne.symm hbm)).trans km40) hms (ho40.upd (fun e => by
                rcases hr40 b e with h1 | h1
                · exact hwb h1
                · have h2 := upd_none h1
                  rw [upd_ne _ _ hbp, upd_ne _ _ hb7', kb] at h2; cases h2))
              have hbF : Fs dev.toNat b ≠ none := by rw [hb0]; simp
              have hmF : Fs dev.toNat m ≠ none := by rw [hm0]; simp
              refine ⟨[_], ⟨rfl, trivial⟩, _, Le.refl _, ?_, ?_⟩
              · rw [hwr]; rfl
              · rw [hwr]
                refine h.put hk (hbd ▸ hFi) rfl ((upd_ne _ _ (Ne.symm hbp)).trans kp40) hlFi (fun z o hz hn hzp => (upd_ne _ _ (fun e => by subst e; exact hbF hn)).trans (keep40 z o hz hn hzp)) (fun z hz => ?_)
                rcases hdFi z hz with rfl | rfl | h1
                · exact .inl hbF
                · exact .inl hmF
                · rcases hr40 z h1 with h2 | h2
                  · exact .inl (how.known z h2)
                  · have h3 := upd_none h2
                    by_cases e : z = p
                    · subst e; rw [upd_same] at h3; cases h3
                    · rw [upd_ne _ _ e] at h3
                      exact .inr (upd_none h3)

end Go.Proofs.Ytcjdkfhmlnfedaa.HL
end
section
namespace Go.Proofs.Ytcjdkfhmlnfedaa.HL
open Go Go.Proofs
set_option linter.unusedSimpArgs false
set_option linter.unusedVariables false
attribute [local irreducible] Lt Lq CW OW TW CallH


theorem PlainL.drop {l : List Value} (h : PlainL l) (n : Nat) : PlainL (l.drop n) := fun v hv => h v (List.mem_of_mem_drop hv)
theorem wt_x (w : Wt) : (w.c.toArray).extract 1 (1 + 64) = w.x.c.toArray := by
  apply Array.ext'
  rw [Array.toList_extract, List.extract_eq_take_drop]
  show ((w.x.c).take 64) = _
  exact List.take_of_length_le (by rw [Sec.len]; omega)
theorem wt_at (w : Wt) : (w.c.toArray)[0]? = some (.int .i64 w.at_) := rfl
theorem torn_cells (x old : Sec) (t : Int) (h : 0 < t ∧ t < 64) : putCells x.c.toArray t.toNat (old.c.drop t.toNat) = (torn x old t).c.toArray := by
  apply Array.ext'
  have hl : (old.c.drop t.toNat).length = 64 - t.toNat := by rw [List.length_drop, Sec.len]
  rw [putCells_toList (old.c.drop t.toNat) x.c.toArray t.toNat (by rw [hl]; simp only [List.size_toArray, Sec.len]; omega), hl]
  unfold torn
  rw [dif_pos h]
  have e0 : List.drop (t.toNat + (64 - t.toNat)) (u8s x.b) = [] := List.drop_eq_nil_of_le (by rw [List.length_map, x.h]; omega)
  simp only [Sec.c, u8s, List.map_append, List.map_take, List.map_drop] at e0 ⊢
  rw [e0, List.append_nil]
theorem torn_not (x old : Sec) (t : Int) (h : ¬ (0 < t ∧ t < 64)) : torn x old t = x := by unfold torn; rw [dif_neg h]
theorem stN_none {kept : Nat → Option Int} {ws : List Wt} {s : Int → Sec} {n : Nat} (h : kept n = none) : stN kept ws s (n + 1) = stN kept ws s n := by simp only [stN, h]
theorem stN_some {kept : Nat → Option Int} {ws : List Wt} {s : Int → Sec} {n : Nat} {t : Int} (h : kept n = some t) : stN kept ws s (n + 1) = fun x => if x = (ws.getD n default).at_ then torn (ws.getD n default).x (stN kept ws s n (ws.getD n default).at_) t else stN kept ws s n x := by simp only [stN, h]
theorem sec_holds {H : Hp} {b : Nat} {x : Sec} {T : TypeId} (hb : H b = some (.cells x.c.toArray T)) {t : Nat} (ht : t ≤ 64) (cap : Nat) : Holds H 1 (.slice (some ⟨b, t, none⟩) (64 - t) cap) (64 - t) (x.c.drop t) := by
  refine ⟨by rw [List.length_drop, Sec.len]; omega, .inr ⟨b, t, _, _, _, _, rfl, hb, by simp only [List.size_toArray, Sec.len]; omega, ?_⟩⟩
  rw [Array.toList_extract, List.extract_eq_take_drop]
  exact List.take_of_length_le (by rw [List.length_drop, Sec.len]; omega)
theorem DvX.facts {F : Hp} {b : Nat} {d : Dv} (h : DvX F b d) : ∃ mb es c wv wrs, F b = some (.cells #[.int .i64 d.size, .map (some mb), wv] 83) ∧ F mb = some (.map es c) ∧ MapS es d.sure ∧ OwnS F 120 65 wv d.wait.length (wts d.wait) wrs ∧ b ≠ mb ∧ wrs ≠ some b ∧ wrs ≠ some mb := by
  obtain ⟨mb, es, c, wv, wrs, h1, h2, h3, h4, _⟩ := h
  refine ⟨mb, es, c, wv, wrs, h1, h2, h3, h4, (fun e => by rw [e, h2] at h1; cases h1), (fun e => ?_), (fun e => ?_)⟩
  · obtain ⟨_, ⟨_, _, h0⟩ | ⟨r', cc, c', _, g2, _, _, _, g3⟩⟩ := h4
    · rw [e] at h0; cases h0
    · rw [e] at g3; cases g3; rw [h1] at g2; injection g2 with g2; injection g2 with _ g2; revert g2; decide
  · obtain ⟨_, ⟨_, _, h0⟩ | ⟨r', cc, c', _, g2, _, _, _, g3⟩⟩ := h4
    · rw [e] at h0; cases h0
    · rw [e] at g3; cases g3; rw [h2] at g2; cases g2

set_option maxRecDepth 100000 in
set_option maxHeartbeats 8000000 in
theorem settle_ok (H : Hp) (b : Nat) (d : Dv) (F G : Hp) (hd : DvX F b d) (hF : Le F H) (hG : Le G H) (hdis : ∀ x, F x ≠ none → G x = none) (gf : Fn) (ga gb : Array Value) (kept : Nat → Option Int) (hg : ∀ K, Le G K → ∀ n : Nat, n < d.wait.length → ValH Try.prog (.func gf ga gb) #[.int .i64 n] K (fun v K' => v = .tuple #[.int .i64 ((kept n).getD 0), .bool (kept n).isSome] ∧ K' = K)) (hl : d.wait.length ≤ 1000000) :
  CallH Try.prog 42 #[ptrV b, .func gf ga gb] H (fun _ H' => ∃ F', DvX F' b (d.settle kept) ∧ Le F' H' ∧ (∀ x, F' x ≠ none → F x ≠ none) ∧ ∀ x o, H x = some o → F x = none → H' x = some o) := by
  refine CallH_enter (l := [_, _]) (rl := []) (n := 59) Try.func42 rfl rfl rfl rfl rfl ?_
  simp only [envOf, Nat.reduceAdd]
  obtain ⟨mb, es, c, wv, wrs, hb0, hm0, hms, how, hbm, hwb, hwm⟩ := hd.facts
  obtain ⟨wa, wcp, rfl⟩ := how.holds.form
  have kb := hF _ _ hb0
  have km := hF _ _ hm0
  have gm : G mb = none := hdis mb (by rw [hm0]; simp)
  refine CW_seq (fun K1 hK1 => ?_)
  refine CW_seq (fun K2 hK2 => ?_)
  refine CW_region ?_
  refine OW_mv rfl ?_
  refine OW_opS (fun K hK r => ?_)
  rw [x_nilCheck _ _ rfl]
  simp only [eX, ↓reduceIte, Nat.reduceEqDiff, Int.reduceToNat]
  refine hK _ _ ?_; clear hK K
  refine OW_opS (fun K hK r => ?_)
  simp only [x_fieldAddr, fa83_2, add_mk, Nat.reduceAdd, Nat.zero_add, eX, ↓reduceIte, Nat.reduceEqDiff, Int.reduceToNat]
  refine hK _ _ ?_; clear hK K
  refine OW_opS (fun K hK r => ?_)
  simp only [x_load, eX, ↓reduceIte, Nat.reduceEqDiff, Int.reduceToNat]
  refine Lt_loadAt1 Try.underlying81 rfl hbA ldA ?_
  try simp only [eX, ↓reduceIte, Nat.reduceEqDiff, Int.reduceToNat]
  refine hK _ _ ?_; clear hK K
  refine OW_opS (fun K hK r => ?_)
  simp only [x_builtin, l_len, List.map_toArray, List.map_cons, List.map_nil, i_len_slice _ _ Try.underlying81, eX, ↓reduceIte, Nat.reduceEqDiff, Int.reduceToNat]
  refine hK _ _ ?_; clear hK K
  refine OW_mv rfl ?_
  refine OW_nil ?_
  try simp only [Ex.thnH, Ex.inBlockH, ↓reduceIte, Nat.reduceEqDiff]
  refine hK2 _ _ ?_; try clear hK2 K2
  refine CW_block ?_
  refine CW_loop (fun m e H_ => ∃ (k : Nat) (es' : Array MapEntry) (c' : Nat), k ≤ d.wait.length ∧ m = d.wait.length - k ∧ MapS es' (stN kept d.wait d.sure k) ∧ H_ mb = some (.map es' c') ∧ (∀ x o, H x = some o → x ≠ mb → H_ x = some o) ∧ Env.has [(0, ptrV b), (1, .func gf ga gb), (13, .slice wa d.wait.length wcp), (14, .int .i64 d.wait.length), (15, .int .i64 k)] e) (d.wait.length) ?_ ?_
  · skip
    exact ⟨0, es, c, by omega, by omega, hms, km, (fun x o hx _ => hx), rfl, rfl, rfl, rfl, rfl, trivial⟩
  intro m_ e_ H_ hI_
  obtain ⟨k, es', c', hk, rfl, hms', km', hkp, he⟩ := hI_
  refine CW_env he.sub ?_; clear he e_
  have kb' := hkp b _ kb hbm
  have how_ : OwnS H_ 120 65 (.slice wa d.wait.length wcp) d.wait.length (wts d.wait) wrs := (how.le hF).stay (fun z o hz ho => hkp z o ho (fun e => hwm (by rw [hz, e])))
  have hG_ : Le G H_ := fun x o hx => hkp x o (hG x o hx) (fun e => by rw [e, gm] at hx; cases hx)
  have hi0 := hms'.1
  refine CW_seq (fun K3 hK3 => ?_)
  refine CW_region ?_
  refine OW_opS (fun K hK r => ?_)
  simp (disch := (first | omega | decide)) only [x_bin, g_int, b_lss, dec_lt_t, dec_lt_f, dec_le_t, dec_le_f, dec_eq_t, dec_eq_f, Bool.not_true, Bool.not_false, eX, ↓reduceIte, Nat.reduceEqDiff, Int.reduceToNat]
  refine hK _ _ ?_; clear hK K
  refine OW_nil ?_
  try simp only [Ex.thnH, Ex.inBlockH, ↓reduceIte, Nat.reduceEqDiff]
  refine hK3 _ _ ?_; try clear hK3 K3
  refine CW_seq (fun K4 hK4 => ?_)
  refine CW_cond (fun r => rfl) (fun c16 => ?_) (fun c16 => ?_)
  · first
    | (exfalso; exact cnA c16; done)
    | skip
      (try simp only [decide_eq_true_eq, decide_eq_false_iff_not, Bool.not_eq_true, Bool.not_eq_false, Bool.and_eq_true, Bool.or_eq_true, Bool.or_eq_false_iff, Bool.not_eq_true, Bool.not_eq_eq_eq_not, Bool.not_true, Bool.not_false] at c16)
      obtain ⟨bw, ow, cw, Tw, Fw, ew, hbw, hsw, atw⟩ := how_.holds.at (by omega)
      refine CW_skip ?_
      try simp only [Ex.thnH, Ex.inBlockH, ↓reduceIte, Nat.reduceEqDiff]
      refine hK4 _ _ ?_; try clear hK4 K4
      refine CW_seq (fun K5 hK5 => ?_)
      refine CW_block ?_
      refine CW_seq (fun K6 hK6 => ?_)
      refine CW_region ?_
      refine OW_mv rfl ?_
      refine OW_opS (fun K hK r => ?_)
      simp only [x_indexAddr, eX, ↓reduceIte, Nat.reduceEqDiff, Int.reduceToNat]
      refine Lt_indexSof Try.underlying81 sz120 ew ixA ixA ?_
      try simp only [Int.toNat_natCast]
      refine hK _ _ ?_; clear hK K
      refine OW_opS (fun K hK r => ?_)
      simp only [x_load, eX, ↓reduceIte, Nat.reduceEqDiff, Int.reduceToNat]
      refine Lt_loadAtA Try.underlying120 rfl sz120 hbw (by omega) ?_
      rw [ext_at Wt.len atw rfl k (by omega) hsw]
      refine hK _ _ ?_; clear hK K
      refine OW_opS (fun K hK r => ?_)
      simp only [x_alloc, zr120, orF_some, Value.cells, eX, ↓reduceIte, Nat.reduceEqDiff, Int.reduceToNat]
      intro b5 hb5
      try have n5_b : b ≠ b5 := ne_of_none hbA hb5
      try have n5_mb : mb ≠ b5 := ne_of_none hbA hb5
      have f5_H_ : H_ b5 = none := none_of_le lhA hb5
      try simp only [eX, ↓reduceIte, Nat.reduceEqDiff, Int.reduceToNat]
      refine hK _ _ ?_; clear hK K
      refine OW_as rfl ?_
      refine OW_op rfl (lt_none) (fun K hK r => ?_)
      simp only [x_store, eX, ↓reduceIte, Nat.reduceEqDiff, Int.reduceToNat]
      refine Lt_storeAll sz120 (by simp [Sec.h]) hbA (by simp [Sec.h]) (Wt.plain _) (by decide) ?_
      refine hK _ _ ?_; clear hK K
      refine OW_nil ?_
      try simp only [Ex.thnH, Ex.inBlockH, ↓reduceIte, Nat.reduceEqDiff]
      refine hK6 _ _ ?_; try clear hK6 K6
      refine CW_seq (fun K7 hK7 => ?_)
      refine CW_region ?_
      refine OW_mv rfl ?_
      refine OW_mv rfl ?_
      refine OW_opS (fun K hK r => ?_)
      simp only [x_call, List.map_toArray, List.map_cons, List.map_nil, eX, ↓reduceIte, Nat.reduceEqDiff, Int.reduceToNat]
      show ValH _ _ _ _ _
      refine (hg _ (by exact le_upd_of hG_ (none_of_le hG_ hb5)) k (by omega)).mono ?_
      rintro v H' ⟨rfl, hq⟩
      have hq := hq.symm
      subst hq
      try simp only [eX, ↓reduceIte, Nat.reduceEqDiff, Int.reduceToNat]
      refine hK _ _ ?_; clear hK K
      refine OW_mv rfl ?_
      refine OW_opS (fun K hK r => ?_)
      simp only [x_extract, i_extract, List.getElem?_toArray, List.getElem?_cons_zero, List.getElem?_cons_succ, orF_some, eX, ↓reduceIte, Nat.reduceEqDiff, Int.reduceToNat]
      refine hK _ _ ?_; clear hK K
      refine OW_opS (fun K hK r => ?_)
      simp only [x_extract, i_extract, List.getElem?_toArray, List.getElem?_cons_zero, List.getElem?_cons_succ, orF_some, eX, ↓reduceIte, Nat.reduceEqDiff, Int.reduceToNat]
      refine hK _ _ ?_; clear hK K
      refine OW_as rfl ?_
      refine OW_as rfl ?_
      refine OW_nil ?_
      try simp only [Ex.thnH, Ex.inBlockH, ↓reduceIte, Nat.reduceEqDiff]
      refine hK7 _ _ ?_; try clear hK7 K7
      refine CW_seq (fun K8 hK8 => ?_)
      refine CW_seq (fun K9 hK9 => ?_)
      refine CW_region ?_
      refine OW_mv rfl ?_
      refine OW_opS (fun K hK r => ?_)
      simp only [x_un, u_not, eX, ↓reduceIte, Nat.reduceEqDiff, Int.reduceToNat]
      refine hK _ _ ?_; clear hK K
      refine OW_nil ?_
      try simp only [Ex.thnH, Ex.inBlockH, ↓reduceIte, Nat.reduceEqDiff]
      refine hK9 _ _ ?_; try clear hK9 K9
      refine CW_cond (fun r => rfl) (fun c27 => ?_) (fun c27 => ?_)
      · first
        | (exfalso; exact cnA c27; done)
        | skip
          have hkt : kept k = none := by cases hc : kept k with
            | none => rfl
            | some t => rw [hc] at c27; simp at c27
          refine CW_exit ?_
          try simp only [Ex.thnH, Ex.inBlockH, ↓reduceIte, Nat.reduceEqDiff]
          refine hK5 _ _ ?_; try clear hK5 K5
          refine CW_region ?_
          refine OW_opS (fun K hK r => ?_)
          simp (disch := (first | omega | decide)) only [x_bin, g_int, b_add, wrap_i64, wrap_u64, wrap_u32, wrap_u8, eX, ↓reduceIte, Nat.reduceEqDiff, Int.reduceToNat]
          refine hK _ _ ?_; clear hK K
          refine OW_mv rfl ?_
          refine OW_nil ?_
          try simp only [Ex.thnH, Ex.inBlockH, ↓reduceIte, Nat.reduceEqDiff]
          first
          | (refine ⟨d.wait.length - (k + 1), by omega, k + 1, es', c', by omega, rfl, ?_, hbA, ?_, rfl, rfl, rfl, rfl, rfl, trivial⟩
             · rw [stN_none (by first | assumption | (simpa using c27))]; exact hms'
             · exact fun z o hz hn => (show Le H_ _ from lhA) z o (hkp z o hz hn))
          | (refine ⟨d.wait.length - (k + 1), by omega, k + 1, es9, c9, by omega, rfl, ?_, upd_same _ _ _, ?_, rfl, rfl, rfl, rfl, rfl, trivial⟩
             · rw [stN_some hkt]
               first
               | exact hms'.put h91 h92
               | (rw [torn_not _ _ _ htr]; exact hms'.put h91 h92)
             · exact fun z o hz hn => (upd_ne _ _ hn).trans ((show Le H_ _ from lhA) z o (hkp z o hz hn)))
      · first
        | (exfalso; exact cnA c27; done)
        | skip
          obtain ⟨t, hkt⟩ : ∃ t, kept k = some t := by cases hc : kept k with
            | none => rw [hc] at c27; simp at c27
            | some t => exact ⟨t, rfl⟩
          simp only [hkt, Option.getD_some]
          clear c27
          refine CW_skip ?_
          try simp only [Ex.thnH, Ex.inBlockH, ↓reduceIte, Nat.reduceEqDiff]
          refine hK8 _ _ ?_; try clear hK8 K8
          refine CW_seq (fun K10 hK10 => ?_)
          refine CW_region ?_
          refine OW_opS (fun K hK r => ?_)
          simp only [x_fieldAddr, fa120_1, add_mk, Nat.reduceAdd, Nat.zero_add, eX, ↓reduceIte, Nat.reduceEqDiff, Int.reduceToNat]
          refine hK _ _ ?_; clear hK K
          refine OW_opS (fun K hK r => ?_)
          simp only [x_load, eX, ↓reduceIte, Nat.reduceEqDiff, Int.reduceToNat]
          refine Lt_loadAtA Try.underlying45 rfl sz45 hbA (by simp [Sec.h]) ?_
          rw [wt_x]
          refine hK _ _ ?_; clear hK K
          refine OW_opS (fun K hK r => ?_)
          simp only [x_alloc, zr45, orF_some, Value.cells, eX, ↓reduceIte, Nat.reduceEqDiff, Int.reduceToNat]
          intro b8 hb8
          try have n8_b : b ≠ b8 := ne_of_none hbA hb8
          try have n8_mb : mb ≠ b8 := ne_of_none hbA hb8
          try have n8_b5 : b5 ≠ b8 := ne_of_none hbA hb8
          have f8_H_ : H_ b8 = none := none_of_le lhA hb8
          try simp only [eX, ↓reduceIte, Nat.reduceEqDiff, Int.reduceToNat]
          refine hK _ _ ?_; clear hK K
          refine OW_op rfl (lt_none) (fun K hK r => ?_)
          simp only [x_store, eX, ↓reduceIte, Nat.reduceEqDiff, Int.reduceToNat]
          refine Lt_storeAll sz45 (by simp [Sec.h]) hbA (by simp [Sec.h]) (PlainL.ints _ _) (by decide) ?_
          refine hK _ _ ?_; clear hK K
          refine OW_nil ?_
          try simp only [Ex.thnH, Ex.inBlockH, ↓reduceIte, Nat.reduceEqDiff]
          refine hK10 _ _ ?_; try clear hK10 K10
          refine CW_seq (fun K11 hK11 => ?_)
          refine CW_seq (fun K12 hK12 => ?_)
          refine CW_region ?_
          refine OW_mv rfl ?_
          refine OW_opS (fun K hK r => ?_)
          simp (disch := (first | omega | decide)) only [x_bin, g_int, b_gtr, dec_lt_t, dec_lt_f, dec_le_t, dec_le_f, dec_eq_t, dec_eq_f, Bool.not_true, Bool.not_false, eX, ↓reduceIte, Nat.reduceEqDiff, Int.reduceToNat]
          refine hK _ _ ?_; clear hK K
          refine OW_mv rfl ?_
          (first | refine OW_split (d := 32) rfl (fun g32 => ?_) (fun g32 => ?_) | skip)
          all_goals try (exfalso; exact cnA g32)
          all_goals (try simp only [decide_eq_true_eq, decide_eq_false_iff_not, Bool.not_eq_true, Bool.not_eq_false, Bool.and_eq_true, Bool.or_eq_true, Bool.or_eq_false_iff, Bool.not_eq_true, Bool.not_eq_eq_eq_not, Bool.not_true, Bool.not_false] at g32)
          all_goals
            try simp only [eX, ↓reduceIte, Nat.reduceEqDiff, Int.reduceToNat]
            first
            | refine OW_guardT rfl (lt_some (by decide)) rfl (fun K hK r => ?_)
              simp only [x_move, eX, ↓reduceIte, Nat.reduceEqDiff, Int.reduceToNat]
              refine hK _ _ ?_; clear hK K
            | refine OW_guardF rfl (lt_some (by decide)) rfl ?_
              simp only [eX, ↓reduceIte, Nat.reduceEqDiff, Int.reduceToNat]
            first
            | refine OW_guardT rfl (lt_some (by decide)) rfl (fun K hK r => ?_)
              simp (disch := (first | omega | decide)) only [x_bin, g_int, b_lss, dec_lt_t, dec_lt_f, dec_le_t, dec_le_f, dec_eq_t, dec_eq_f, Bool.not_true, Bool.not_false, eX, ↓reduceIte, Nat.reduceEqDiff, Int.reduceToNat]
              refine hK _ _ ?_; clear hK K
            | refine OW_guardF rfl (lt_some (by decide)) rfl ?_
              simp only [eX, ↓reduceIte, Nat.reduceEqDiff, Int.reduceToNat]
            refine OW_opS (fun K hK r => ?_)
            simp only [x_pick, l_asBool, HL.ite_bool, if_true, if_false, Bool.false_eq_true, eX, ↓reduceIte, Nat.reduceEqDiff, Int.reduceToNat]
            refine hK _ _ ?_; clear hK K
            refine OW_nil ?_
            try simp only [Ex.thnH, Ex.inBlockH, ↓reduceIte, Nat.reduceEqDiff]
            refine hK12 _ _ ?_; try clear hK12 K12
            refine CW_cond (fun r => rfl) (fun c35 => ?_) (fun c35 => ?_)
            · first
              | (exfalso; exact cnA c35; done)
              | skip
                (try simp only [decide_eq_true_eq, decide_eq_false_iff_not, Bool.not_eq_true, Bool.not_eq_false, Bool.and_eq_true, Bool.or_eq_true, Bool.or_eq_false_iff, Bool.not_eq_true, Bool.not_eq_eq_eq_not, Bool.not_true, Bool.not_false] at c35)
                have htr : 0 < t ∧ t < 64 := by omega
                refine CW_seq (fun K13 hK13 => ?_)
                refine CW_drawE [0, 0, 0, 1, 0, 1, 1, 4, 3] [0, 1, 2, 3, 4, 5, 6, 7, 8] (by kernel_rfl) (by kernel_rfl) (fun R7 hR7 => ?_)
                apply TW_pure rfl (lt_some (by decide)) rfl
                · intro r
                  simp only [x_move, eX, ↓reduceIte, Nat.reduceEqDiff]
                  exact ⟨rfl, Le.refl _⟩
                simp only [eX, ↓reduceIte, Nat.reduceEqDiff, Int.reduceToNat]
                apply TW_pure rfl (lt_some (by decide)) rfl
                · intro r
                  rw [x_nilCheck _ _ rfl]
                  exact ⟨rfl, Le.refl _⟩
                simp only [eX, ↓reduceIte, Nat.reduceEqDiff, Int.reduceToNat]
                apply TW_pure rfl (lt_some (by decide)) rfl
                · intro r
                  simp only [x_fieldAddr, fa83_1, add_mk, Nat.reduceAdd, Nat.zero_add, eX, ↓reduceIte, Nat.reduceEqDiff]
                  exact ⟨rfl, Le.refl _⟩
                simp only [eX, ↓reduceIte, Nat.reduceEqDiff, Int.reduceToNat]
                apply TW_look rfl (lt_some (by decide)) rfl
                · intro r
                  simp only [x_load, eX, ↓reduceIte, Nat.reduceEqDiff]
                  refine Lt_loadAt1 Try.underlying80 rfl hbA ldA ?_
                  exact ⟨rfl, Le.refl _⟩
                simp only [eX, ↓reduceIte, Nat.reduceEqDiff, Int.reduceToNat]
                apply TW_pure rfl (lt_some (by decide)) rfl
                · intro r
                  simp only [x_fieldAddr, fa120_0, add_mk, Nat.reduceAdd, Nat.zero_add, eX, ↓reduceIte, Nat.reduceEqDiff]
                  exact ⟨rfl, Le.refl _⟩
                simp only [eX, ↓reduceIte, Nat.reduceEqDiff, Int.reduceToNat]
                apply TW_look rfl (lt_some (by decide)) rfl
                · intro r
                  simp only [x_load, eX, ↓reduceIte, Nat.reduceEqDiff]
                  refine Lt_loadAt1 Try.underlying3 rfl hbA (wt_at (d.wait.getD k default)) ?_
                  exact ⟨rfl, Le.refl _⟩
                simp only [eX, ↓reduceIte, Nat.reduceEqDiff, Int.reduceToNat]
                apply TW_look rfl (lt_some (by decide)) rfl
                · intro r
                  simp only [x_lookup, eX, ↓reduceIte, Nat.reduceEqDiff]
                  refine Lt_lookup Try.underlying80 Try.underlying3 zr45 hbA hi0 ?_
                  rw [hms'.2]
                  exact ⟨rfl, Le.refl _⟩
                simp only [eX, ↓reduceIte, Nat.reduceEqDiff, Int.reduceToNat]
                refine TW_make rfl (lt_some (by decide)) rfl (fun K hK r => ?_)
                simp only [x_alloc, zr45, orF_some, Value.cells, eX, ↓reduceIte, Nat.reduceEqDiff, Int.reduceToNat]
                intro b9 hb9
                try have n9_b : b ≠ b9 := ne_of_none hbA hb9
                try have n9_mb : mb ≠ b9 := ne_of_none hbA hb9
                try have n9_b5 : b5 ≠ b9 := ne_of_none hbA hb9
                try have n9_b8 : b8 ≠ b9 := ne_of_none hbA hb9
                have f9_H_ : H_ b9 = none := none_of_le lhA hb9
                have f9_R7 : R7 b9 = none := none_of_le lhA hb9
                try simp only [eX, ↓reduceIte, Nat.reduceEqDiff, Int.reduceToNat]
                refine hK _ _ ?_; clear hK K
                refine TW_last rfl (lt_none) rfl (fun K hK r => ?_)
                simp only [x_store, eX, ↓reduceIte, Nat.reduceEqDiff, Int.reduceToNat]
                refine Lt_storeAll sz45 (by simp [Sec.h]) hbA (by simp [Sec.h]) (PlainL.ints _ _) (by decide) ?_
                refine hK _ _ ?_; clear hK K
                refine TW_nil ?_
                try simp only [Ex.thnH, Ex.inBlockH, ↓reduceIte, Nat.reduceEqDiff]
                refine hK13 _ _ ?_; try clear hK13 K13
                refine CW_drawO [0, 0, 0, 0, 3] [0, 1, 2, 3, 4] emptyHp (by kernel_rfl) (by kernel_rfl) (le_empty _) ?_
                apply TW_pure rfl (lt_some (by decide)) rfl
                · intro r
                  simp only [x_move, eX, ↓reduceIte, Nat.reduceEqDiff]
                  exact ⟨rfl, Le.refl _⟩
                simp only [eX, ↓reduceIte, Nat.reduceEqDiff, Int.reduceToNat]
                apply TW_pure rfl (lt_some (by decide)) rfl
                · intro r
                  simp only [x_slice, Option.map_some, Option.map_none, eX, ↓reduceIte, Nat.reduceEqDiff]
                  refine Lt_sliceA Try.underlying45 sz5 bound_none bound_none (bound_some (by omega)) (by omega) (by omega) (by omega) (by simp) ?_
                  rw [if_neg (show ¬ 64 = t.toNat by omega)]
                  simp only [add_mk, Nat.mul_one, Nat.zero_add]
                  exact ⟨rfl, Le.refl _⟩
                simp only [eX, ↓reduceIte, Nat.reduceEqDiff, Int.reduceToNat]
                apply TW_pure rfl (lt_some (by decide)) rfl
                · intro r
                  simp only [x_move, eX, ↓reduceIte, Nat.reduceEqDiff]
                  exact ⟨rfl, Le.refl _⟩
                simp only [eX, ↓reduceIte, Nat.reduceEqDiff, Int.reduceToNat]
                apply TW_pure rfl (lt_some (by decide)) rfl
                · intro r
                  simp only [x_slice, Option.map_some, Option.map_none, eX, ↓reduceIte, Nat.reduceEqDiff]
                  refine Lt_sliceA Try.underlying45 sz5 bound_none bound_none (bound_some (by omega)) (by omega) (by omega) (by omega) (by simp) ?_
                  rw [if_neg (show ¬ 64 = t.toNat by omega)]
                  simp only [add_mk, Nat.mul_one, Nat.zero_add]
                  exact ⟨rfl, Le.refl _⟩
                simp only [eX, ↓reduceIte, Nat.reduceEqDiff, Int.reduceToNat]
                refine TW_last rfl (lt_some (by decide)) rfl (fun K hK r => ?_)
                simp only [x_builtin, l_copy, List.map_toArray, List.map_cons, List.map_nil, eX, ↓reduceIte, Nat.reduceEqDiff, Int.reduceToNat]
                have hmin : Nat.min (64 - t.toNat) (64 - t.toNat) = 64 - t.toNat := Nat.min_self _
                refine Lt_copy (w := 1) (cs := (stN kept d.wait d.sure k (d.wait.getD k default).at_).c.drop t.toNat) Try.underlying22 sz5 _ hbA (by simp only [List.size_toArray, Sec.len]; omega) (len_slice _ _ _) (fun Kx => ?_) (by rw [hmin, List.length_drop, Sec.len, Nat.mul_one]) (PlainL.drop (PlainL.ints _ _) _) (by decide) ?_
                · rw [hmin]
                  refine (first_holds (sec_holds (x := stN kept d.wait d.sure k (d.wait.getD k default).at_) hbA (t := t.toNat) (by omega) _) (Nat.le_refl _) Kx).trans ?_
                  rw [Nat.mul_one, List.take_of_length_le (by rw [List.length_drop, Sec.len]; omega)]
                rw [torn_cells _ _ _ htr]
                refine hK _ _ ?_; clear hK K
                refine TW_nil ?_
                try simp only [Ex.thnH, Ex.inBlockH, ↓reduceIte, Nat.reduceEqDiff]
                refine hK11 _ _ ?_; try clear hK11 K11
                refine CW_drawE [0, 0, 0, 1, 0, 1, 1, 3] [0, 1, 2, 3, 4, 5, 6, 7] (by kernel_rfl) (by kernel_rfl) (fun R9 hR9 => ?_)
                apply TW_pure rfl (lt_some (by decide)) rfl
                · intro r
                  simp only [x_move, eX, ↓reduceIte, Nat.reduceEqDiff]
                  exact ⟨rfl, Le.refl _⟩
                simp only [eX, ↓reduceIte, Nat.reduceEqDiff, Int.reduceToNat]
                apply TW_pure rfl (lt_some (by decide)) rfl
                · intro r
                  rw [x_nilCheck _ _ rfl]
                  exact ⟨rfl, Le.refl _⟩
                simp only [eX, ↓reduceIte, Nat.reduceEqDiff, Int.reduceToNat]
                apply TW_pure rfl (lt_some (by decide)) rfl
                · intro r
                  simp only [x_fieldAddr, fa83_1, add_mk, Nat.reduceAdd, Nat.zero_add, eX, ↓reduceIte, Nat.reduceEqDiff]
                  exact ⟨rfl, Le.refl _⟩
                simp only [eX, ↓reduceIte, Nat.reduceEqDiff, Int.reduceToNat]
                apply TW_look rfl (lt_some (by decide)) rfl
                · intro r
                  simp only [x_load, eX, ↓reduceIte, Nat.reduceEqDiff]
                  refine Lt_loadAt1 Try.underlying80 rfl hbA ldA ?_
                  exact ⟨rfl, Le.refl _⟩
                simp only [eX, ↓reduceIte, Nat.reduceEqDiff, Int.reduceToNat]
                apply TW_pure rfl (lt_some (by decide)) rfl
                · intro r
                  simp only [x_fieldAddr, fa120_0, add_mk, Nat.reduceAdd, Nat.zero_add, eX, ↓reduceIte, Nat.reduceEqDiff]
                  exact ⟨rfl, Le.refl _⟩
                simp only [eX, ↓reduceIte, Nat.reduceEqDiff, Int.reduceToNat]
                apply TW_look rfl (lt_some (by decide)) rfl
                · intro r
                  simp only [x_load, eX, ↓reduceIte, Nat.reduceEqDiff]
                  refine Lt_loadAt1 Try.underlying3 rfl hbA (wt_at (d.wait.getD k default)) ?_
                  exact ⟨rfl, Le.refl _⟩
                simp only [eX, ↓reduceIte, Nat.reduceEqDiff, Int.reduceToNat]
                apply TW_look rfl (lt_some (by decide)) rfl
                · intro r
                  simp only [x_load, eX, ↓reduceIte, Nat.reduceEqDiff]
                  refine Lt_loadAll Try.underlying45 rfl sz45 hbA (by simp [Sec.h]) ?_
                  exact ⟨rfl, Le.refl _⟩
                simp only [eX, ↓reduceIte, Nat.reduceEqDiff, Int.reduceToNat]
                refine TW_last rfl (lt_none) rfl (fun K hK r => ?_)
                simp only [x_mapUpdate, eX, ↓reduceIte, Nat.reduceEqDiff, Int.reduceToNat]
                refine Lt_mapUpdate Try.underlying80 Try.underlying3 hbA hi0 ?_
                intro es9 c9 h91 h92
                refine hK _ _ ?_; clear hK K
                refine TW_nil ?_
                try simp only [Ex.thnH, Ex.inBlockH, ↓reduceIte, Nat.reduceEqDiff]
                refine hK5 _ _ ?_; try clear hK5 K5
                refine CW_region ?_
                refine OW_opS (fun K hK r => ?_)
                simp (disch := (first | omega | decide)) only [x_bin, g_int, b_add, wrap_i64, wrap_u64, wrap_u32, wrap_u8, eX, ↓reduceIte, Nat.reduceEqDiff, Int.reduceToNat]
                refine hK _ _ ?_; clear hK K
                refine OW_mv rfl ?_
                refine OW_nil ?_
                try simp only [Ex.thnH, Ex.inBlockH, ↓reduceIte, Nat.reduceEqDiff]
                first
                | (refine ⟨d.wait.length - (k + 1), by omega, k + 1, es', c', by omega, rfl, ?_, hbA, ?_, rfl, rfl, rfl, rfl, rfl, trivial⟩
                   · rw [stN_none (by first | assumption | (simpa using c27))]; exact hms'
                   · exact fun z o hz hn => (show Le H_ _ from lhA) z o (hkp z o hz hn))
                | (refine ⟨d.wait.length - (k + 1), by omega, k + 1, es9, c9, by omega, rfl, ?_, upd_same _ _ _, ?_, rfl, rfl, rfl, rfl, rfl, trivial⟩
                   · rw [stN_some hkt]
                     first
                     | exact hms'.put h91 h92
                     | (rw [torn_not _ _ _ htr]; exact hms'.put h91 h92)
                   · exact fun z o hz hn => (upd_ne _ _ hn).trans ((show Le H_ _ from lhA) z o (hkp z o hz hn)))
            · first
              | (exfalso; exact cnA c35; done)
              | skip
                (try simp only [decide_eq_true_eq, decide_eq_false_iff_not, Bool.not_eq_true, Bool.not_eq_false, Bool.and_eq_true, Bool.or_eq_true, Bool.or_eq_false_iff, Bool.not_eq_true, Bool.not_eq_eq_eq_not, Bool.not_true, Bool.not_false] at c35)
                have htr : ¬ (0 < t ∧ t < 64) := by omega
                refine CW_skip ?_
                try simp only [Ex.thnH, Ex.inBlockH, ↓reduceIte, Nat.reduceEqDiff]
                refine hK11 _ _ ?_; try clear hK11 K11
                refine CW_drawE [0, 0, 0, 1, 0, 1, 1, 3] [0, 1, 2, 3, 4, 5, 6, 7] (by kernel_rfl) (by kernel_rfl) (fun R9 hR9 => ?_)
                apply TW_pure rfl (lt_some (by decide)) rfl
                · intro r
                  simp only [x_move, eX, ↓reduceIte, Nat.reduceEqDiff]
                  exact ⟨rfl, Le.refl _⟩
                simp only [eX, ↓reduceIte, Nat.reduceEqDiff, Int.reduceToNat]
                apply TW_pure rfl (lt_some (by decide)) rfl
                · intro r
                  rw [x_nilCheck _ _ rfl]
                  exact ⟨rfl, Le.refl _⟩
                simp only [eX, ↓reduceIte, Nat.reduceEqDiff, Int.reduceToNat]
                apply TW_pure rfl (lt_some (by decide)) rfl
                · intro r
                  simp only [x_fieldAddr, fa83_1, add_mk, Nat.reduceAdd, Nat.zero_add, eX, ↓reduceIte, Nat.reduceEqDiff]
                  exact ⟨rfl, Le.refl _⟩
                simp only [eX, ↓reduceIte, Nat.reduceEqDiff, Int.reduceToNat]
                apply TW_look rfl (lt_some (by decide)) rfl
                · intro r
                  simp only [x_load, eX, ↓reduceIte, Nat.reduceEqDiff]
                  refine Lt_loadAt1 Try.underlying80 rfl hbA ldA ?_
                  exact ⟨rfl, Le.refl _⟩
                simp only [eX, ↓reduceIte, Nat.reduceEqDiff, Int.reduceToNat]
                apply TW_pure rfl (lt_some (by decide)) rfl
                · intro r
                  simp only [x_fieldAddr, fa120_0, add_mk, Nat.reduceAdd, Nat.zero_add, eX, ↓reduceIte, Nat.reduceEqDiff]
                  exact ⟨rfl, Le.refl _⟩
                simp only [eX, ↓reduceIte, Nat.reduceEqDiff, Int.reduceToNat]
                apply TW_look rfl (lt_some (by decide)) rfl
                · intro r
                  simp only [x_load, eX, ↓reduceIte, Nat.reduceEqDiff]
                  refine Lt_loadAt1 Try.underlying3 rfl hbA (wt_at (d.wait.getD k default)) ?_
                  exact ⟨rfl, Le.refl _⟩
                simp only [eX, ↓reduceIte, Nat.reduceEqDiff, Int.reduceToNat]
                apply TW_look rfl (lt_some (by decide)) rfl
                · intro r
                  simp only [x_load, eX, ↓reduceIte, Nat.reduceEqDiff]
                  refine Lt_loadAll Try.underlying45 rfl sz45 hbA (by simp [Sec.h]) ?_
                  exact ⟨rfl, Le.refl _⟩
                simp only [eX, ↓reduceIte, Nat.reduceEqDiff, Int.reduceToNat]
                refine TW_last rfl (lt_none) rfl (fun K hK r => ?_)
                simp only [x_mapUpdate, eX, ↓reduceIte, Nat.reduceEqDiff, Int.reduceToNat]
                refine Lt_mapUpdate Try.underlying80 Try.underlying3 hbA hi0 ?_
                intro es9 c9 h91 h92
                refine hK _ _ ?_; clear hK K
                refine TW_nil ?_
                try simp only [Ex.thnH, Ex.inBlockH, ↓reduceIte, Nat.reduceEqDiff]
                refine hK5 _ _ ?_; try clear hK5 K5
                refine CW_region ?_
                refine OW_opS (fun K hK r => ?_)
                simp (disch := (first | omega | decide)) only [x_bin, g_int, b_add, wrap_i64, wrap_u64, wrap_u32, wrap_u8, eX, ↓reduceIte, Nat.reduceEqDiff, Int.reduceToNat]
                refine hK _ _ ?_; clear hK K
                refine OW_mv rfl ?_
                refine OW_nil ?_
                try simp only [Ex.thnH, Ex.inBlockH, ↓reduceIte, Nat.reduceEqDiff]
                first
                | (refine ⟨d.wait.length - (k + 1), by omega, k + 1, es', c', by omega, rfl, ?_, hbA, ?_, rfl, rfl, rfl, rfl, rfl, trivial⟩
                   · rw [stN_none (by first | assumption | (simpa using c27))]; exact hms'
                   · exact fun z o hz hn => (show Le H_ _ from lhA) z o (hkp z o hz hn))
                | (refine ⟨d.wait.length - (k + 1), by omega, k + 1, es9, c9, by omega, rfl, ?_, upd_same _ _ _, ?_, rfl, rfl, rfl, rfl, rfl, trivial⟩
                   · rw [stN_some hkt]
                     first
                     | exact hms'.put h91 h92
                     | (rw [torn_not _ _ _ htr]; exact hms'.put h91 h92)
                   · exact fun z o hz hn => (upd_ne _ _ hn).trans ((show Le H_ _ from lhA) z o (hkp z o hz hn)))
  · first
    | (exfalso; exact cnA c16; done)
    | skip
      (try simp only [decide_eq_true_eq, decide_eq_false_iff_not, Bool.not_eq_true, Bool.not_eq_false, Bool.and_eq_true, Bool.or_eq_true, Bool.or_eq_false_iff, Bool.not_eq_true, Bool.not_eq_eq_eq_not, Bool.not_true, Bool.not_false] at c16)
      have hkn : k = d.wait.length := by omega
      refine CW_exit ?_
      try simp only [Ex.thnH, Ex.inBlockH, ↓reduceIte, Nat.reduceEqDiff]
      refine hK1 _ _ ?_; try clear hK1 K1
      refine CW_region ?_
      refine OW_mv rfl ?_
      refine OW_opS (fun K hK r => ?_)
      rw [x_nilCheck _ _ rfl]
      simp only [eX, ↓reduceIte, Nat.reduceEqDiff, Int.reduceToNat]
      refine hK _ _ ?_; clear hK K
      refine OW_opS (fun K hK r => ?_)
      simp only [x_fieldAddr, fa83_2, add_mk, Nat.reduceAdd, Nat.zero_add, eX, ↓reduceIte, Nat.reduceEqDiff, Int.reduceToNat]
      refine hK _ _ ?_; clear hK K
      refine OW_op rfl (lt_none) (fun K hK r => ?_)
      simp only [x_store, eX, ↓reduceIte, Nat.reduceEqDiff, Int.reduceToNat]
      refine Lt_storeAt1 sz81 hbA bdA plA fzA ?_
      try simp only [setL0, setL1, setL2, setL3, setL4, setL5, setL6, setL7, setL8, setL9]
      try simp only [eX, ↓reduceIte, Nat.reduceEqDiff, Int.reduceToNat]
      refine hK _ _ ?_; clear hK K
      refine OW_nil ?_
      try simp only [Ex.thnH, Ex.inBlockH, ↓reduceIte, Nat.reduceEqDiff]
      have es9 : MapS es' (stN kept d.wait d.sure d.wait.length) := hkn ▸ hms'
      have kmf : (H_.upd b (.cells #[.int .i64 d.size, .map (some mb), .slice none 0 0] 83)) mb = some (.map es' c') := (upd_ne _ _ (Ne.symm hbm)).trans km'
      refine ⟨[], trivial, _, Le.refl _, fun x => if x = b ∨ x = mb then (H_.upd b (.cells #[.int .i64 d.size, .map (some mb), .slice none 0 0] 83)) x else none, ⟨mb, es', c', .slice none 0 0, none, by simp [upd_same, Dv.settle], by simpa using kmf, es9, OwnS.nil _ _ _, fun x hx => ?_⟩, fun x o hx => ?_, fun x hx => ?_, fun x o hx hn => ?_⟩
      · by_cases h : x = b ∨ x = mb
        · exact h.imp id .inl
        · simp [h] at hx
      · by_cases h : x = b ∨ x = mb
        · simpa [h] using hx
        · simp [h] at hx
      · by_cases h : x = b ∨ x = mb
        · rcases h with rfl | rfl
          · rw [hb0]; simp
          · rw [hm0]; simp
        · simp [h] at hx
      · exact (upd_ne _ _ (fun e => by subst e; rw [hb0] at hn; cases hn)).trans (hkp x o hx (fun e => by subst e; rw [hm0] at hn; cases hn))

end Go.Proofs.Ytcjdkfhmlnfedaa.HL
end
section
namespace Go.Proofs.Ytcjdkfhmlnfedaa.HL
open Go Go.Proofs
set_option linter.unusedSimpArgs false
set_option linter.unusedVariables false
attribute [local irreducible] Lt Lq CW OW TW CallH


/-- what a crash keeps -/
structure Kp where
  dev : Int
  n : Int
  tear : Int
deriving Inhabited, DecidableEq
abbrev Kp.c (k : Kp) : List Value := [.int .i64 k.dev, .int .i64 k.n, .int .i64 k.tear]
theorem Kp.len (k : Kp) : k.c.length = 3 := rfl
abbrev kps (l : List Kp) : List Value := l.flatMap Kp.c
def keepOf (l : List Kp) (dev n : Int) : Option Int := (l.find? (fun k => decide (k.dev = dev) && decide (k.n = n))).map Kp.tear
theorem find_at {α : Type} [Inhabited α] (P : α → Bool) : ∀ (l : List α) (k : Nat), k < l.length → P (l.getD k default) = true → (∀ j, j < k → P (l.getD j default) = false) → l.find? P = some (l.getD k default)
  | [], k, h, _, _ => absurd h (by simp)
  | x :: r, 0, _, h1, _ => by simp at h1 ⊢; simp [List.find?, h1]
  | x :: r, k + 1, h, h1, h2 => by
    have h0 : P x = false := h2 0 (by omega)
    simp only [List.find?, h0]
    rw [find_at P r k (by simpa using h) (by simpa using h1) (fun j hj => by simpa using h2 (j + 1) (by omega))]
    simp
theorem find_no {α : Type} [Inhabited α] (P : α → Bool) (l : List α) (h : ∀ j, j < l.length → P (l.getD j default) = false) : l.find? P = none := by
  rw [List.find?_eq_none]
  intro x hx
  obtain ⟨j, hj, rfl⟩ := List.mem_iff_getElem.1 hx
  have := h j hj
  rw [List.getD_eq_getElem?_getD, List.getElem?_eq_getElem hj] at this
  simpa using this
def St.crK (s : St) (l : List Kp) (k : Nat) : St := { s with dv := s.dv.mapIdx (fun i d => if i < k then d.settle (fun n => keepOf l i n) else d) }
def St.cr (s : St) (l : List Kp) : St := { s with armed := false, gone := false, dv := s.dv.mapIdx (fun i d => d.settle (fun n => keepOf l i n)) }
theorem St.crK_len (s : St) (l : List Kp) (k : Nat) : (s.crK l k).dv.length = s.dv.length := by simp [St.crK]
theorem St.crK_at (s : St) (l : List Kp) (k : Nat) (hk : k < s.dv.length) : (s.crK l k).dv.getD k default = s.dv.getD k default := by
  simp [St.crK, List.getD_eq_getElem?_getD, List.getElem?_mapIdx, List.getElem?_eq_getElem hk]
theorem St.crK_zero (s : St) (l : List Kp) : s.crK l 0 = s := by
  have : s.dv.mapIdx (fun i d => if i < 0 then d.settle (fun n => keepOf l i n) else d) = s.dv := by
    apply List.ext_getElem?
    intro i; rw [List.getElem?_mapIdx]; cases s.dv[i]? <;> simp
  cases s; simp only [St.crK] at this ⊢; rw [this]
theorem St.crK_next (s : St) (l : List Kp) (k : Nat) (hk : k < s.dv.length) : (s.crK l (k + 1)).dv = (s.crK l k).dv.set k ((s.dv.getD k default).settle (fun n => keepOf l k n)) := by
  apply List.ext_getElem?
  intro i
  by_cases e : i = k
  · subst e
    rw [List.getElem?_set_self (by rw [St.crK_len]; exact hk)]
    simp [St.crK, List.getElem?_mapIdx, List.getD_eq_getElem?_getD, List.getElem?_eq_getElem hk]
  · rw [List.getElem?_set_ne (Ne.symm e)]
    simp only [St.crK, List.getElem?_mapIdx]
    cases s.dv[i]? with
    | none => rfl
    | some d =>
      simp only [Option.map_some]
      by_cases h : i < k
      · rw [if_pos h, if_pos (by omega)]
      · rw [if_neg h, if_neg (by omega)]
theorem St.crK_all (s : St) (l : List Kp) : (s.crK l s.dv.length).dv = (s.cr l).dv := by
  apply List.ext_getElem?
  intro i
  simp only [St.crK, St.cr, List.getElem?_mapIdx]
  rcases Nat.lt_or_ge i s.dv.length with h | h
  · rw [List.getElem?_eq_getElem h]; simp [h]
  · rw [List.getElem?_eq_none h]; rfl

set_option maxRecDepth 100000 in
set_option maxHeartbeats 1000000 in
theorem crash11_ok (H : Hp) (bd bn : Nat) (dev n : Int) (k : Kp) (hd : H bd = some (.cells #[.int .i64 dev] 3)) (hn : H bn = some (.cells #[.int .i64 n] 3)) : CallH Try.prog 45 #[.agg k.c.toArray, .pointer (some ⟨bd, 0, none⟩), .pointer (some ⟨bn, 0, none⟩)] H (fun v H' => v = .bool (decide (k.dev = dev) && decide (k.n = n)) ∧ H' = H) := by
  refine CallH_enter (l := [_, _, _]) (rl := [.tmp 4]) (n := 15) Try.func45 rfl rfl rfl rfl rfl ?_
  simp only [envOf, Nat.reduceAdd]
  refine CW_seq (fun K1 hK1 => ?_)
  refine CW_region ?_
  refine OW_opS (fun K hK r => ?_)
  simp only [x_box, Value.cells, eX, ↓reduceIte, Nat.reduceEqDiff, Int.reduceToNat]
  intro b3 hb3
  try have n3_bd : bd ≠ b3 := ne_of_none hbA hb3
  try have n3_bn : bn ≠ b3 := ne_of_none hbA hb3
  have f3_H : H b3 = none := none_of_le lhA hb3
  try simp only [eX, ↓reduceIte, Nat.reduceEqDiff, Int.reduceToNat]
  refine hK _ _ ?_; clear hK K
  refine OW_as rfl ?_
  refine OW_nil ?_
  try simp only [Ex.thnH, Ex.inBlockH, ↓reduceIte, Nat.reduceEqDiff]
  refine hK1 _ _ ?_; try clear hK1 K1
  refine CW_seq (fun K2 hK2 => ?_)
  refine CW_region ?_
  refine OW_opS (fun K hK r => ?_)
  simp only [x_fieldAddr, fa110_0, add_mk, Nat.reduceAdd, Nat.zero_add, eX, ↓reduceIte, Nat.reduceEqDiff, Int.reduceToNat]
  refine hK _ _ ?_; clear hK K
  refine OW_opS (fun K hK r => ?_)
  simp only [x_load, eX, ↓reduceIte, Nat.reduceEqDiff, Int.reduceToNat]
  refine Lt_loadAt1 Try.underlying3 rfl hbA ldA ?_
  try simp only [eX, ↓reduceIte, Nat.reduceEqDiff, Int.reduceToNat]
  refine hK _ _ ?_; clear hK K
  refine OW_opS (fun K hK r => ?_)
  simp only [x_load, eX, ↓reduceIte, Nat.reduceEqDiff, Int.reduceToNat]
  refine Lt_loadAt1 Try.underlying3 rfl hbA ldA ?_
  try simp only [eX, ↓reduceIte, Nat.reduceEqDiff, Int.reduceToNat]
  refine hK _ _ ?_; clear hK K
  refine OW_opS (fun K hK r => ?_)
  simp (disch := (first | omega | decide)) only [x_bin, g_int, b_eql, dec_lt_t, dec_lt_f, dec_le_t, dec_le_f, dec_eq_t, dec_eq_f, Bool.not_true, Bool.not_false, eX, ↓reduceIte, Nat.reduceEqDiff, Int.reduceToNat]
  refine hK _ _ ?_; clear hK K
  refine OW_mv rfl ?_
  (first | refine OW_split (d := 9) rfl (fun g9 => ?_) (fun g9 => ?_) | skip)
  all_goals try (exfalso; exact cnA g9)
  all_goals (try simp only [decide_eq_true_eq, decide_eq_false_iff_not, Bool.not_eq_true, Bool.not_eq_false, Bool.and_eq_true, Bool.or_eq_true, Bool.or_eq_false_iff, Bool.not_eq_true, Bool.not_eq_eq_eq_not, Bool.not_true, Bool.not_false] at g9)
  all_goals
    try simp only [eX, ↓reduceIte, Nat.reduceEqDiff, Int.reduceToNat]
    first
    | refine OW_guardT rfl (lt_some (by decide)) rfl (fun K hK r => ?_)
      simp only [x_fieldAddr, fa110_1, add_mk, Nat.reduceAdd, Nat.zero_add, eX, ↓reduceIte, Nat.reduceEqDiff, Int.reduceToNat]
      refine hK _ _ ?_; clear hK K
    | refine OW_guardF rfl (lt_some (by decide)) rfl ?_
      simp only [eX, ↓reduceIte, Nat.reduceEqDiff, Int.reduceToNat]
    first
    | refine OW_guardT rfl (lt_some (by decide)) rfl (fun K hK r => ?_)
      simp only [x_load, eX, ↓reduceIte, Nat.reduceEqDiff, Int.reduceToNat]
      refine Lt_loadAt1 Try.underlying3 rfl hbA ldA ?_
      try simp only [eX, ↓reduceIte, Nat.reduceEqDiff, Int.reduceToNat]
      refine hK _ _ ?_; clear hK K
    | refine OW_guardF rfl (lt_some (by decide)) rfl ?_
      simp only [eX, ↓reduceIte, Nat.reduceEqDiff, Int.reduceToNat]
    first
    | refine OW_guardT rfl (lt_some (by decide)) rfl (fun K hK r => ?_)
      simp only [x_load, eX, ↓reduceIte, Nat.reduceEqDiff, Int.reduceToNat]
      refine Lt_loadAt1 Try.underlying3 rfl hbA ldA ?_
      try simp only [eX, ↓reduceIte, Nat.reduceEqDiff, Int.reduceToNat]
      refine hK _ _ ?_; clear hK K
    | refine OW_guardF rfl (lt_some (by decide)) rfl ?_
      simp only [eX, ↓reduceIte, Nat.reduceEqDiff, Int.reduceToNat]
    first
    | refine OW_guardT rfl (lt_some (by decide)) rfl (fun K hK r => ?_)
      simp (disch := (first | omega | decide)) only [x_bin, g_int, b_eql, dec_lt_t, dec_lt_f, dec_le_t, dec_le_f, dec_eq_t, dec_eq_f, Bool.not_true, Bool.not_false, eX, ↓reduceIte, Nat.reduceEqDiff, Int.reduceToNat]
      refine hK _ _ ?_; clear hK K
    | refine OW_guardF rfl (lt_some (by decide)) rfl ?_
      simp only [eX, ↓reduceIte, Nat.reduceEqDiff, Int.reduceToNat]
    refine OW_opS (fun K hK r => ?_)
    simp only [x_pick, l_asBool, HL.ite_bool, if_true, if_false, Bool.false_eq_true, eX, ↓reduceIte, Nat.reduceEqDiff, Int.reduceToNat]
    refine hK _ _ ?_; clear hK K
    refine OW_as rfl ?_
    refine OW_nil ?_
    try simp only [Ex.thnH, Ex.inBlockH, ↓reduceIte, Nat.reduceEqDiff]
    refine hK2 _ _ ?_; try clear hK2 K2
    refine CW_ret ?_
    try simp only [Ex.thnH, Ex.inBlockH, ↓reduceIte, Nat.reduceEqDiff]
    refine ⟨[_], ⟨rfl, trivial⟩, H, lhA, ?_, rfl⟩
    show Value.bool _ = _
    congr 1
    by_cases hdd : k.dev = dev <;> simp_all

set_option maxRecDepth 100000 in
set_option maxHeartbeats 1000000 in
theorem index_ok (H : Hp) (a : Option Addr) (cap : Nat) (l : List Kp) (hv : Holds H 3 (.slice a l.length cap) l.length (kps l)) (gf : Fn) (ga gb : Array Value) (P : Kp → Bool) (hP : ∀ k, ValH Try.prog (.func gf ga gb) #[.agg k.c.toArray] H (fun v H' => v = .bool (P k) ∧ H' = H)) (hl : l.length ≤ 1000) :
  CallH Try.prog 44 #[.slice a l.length cap, .func gf ga gb] H (fun v H' => H' = H ∧ ∃ ix : Int, v = .int .i64 ix ∧ ((∃ k : Nat, k < l.length ∧ ix = (k : Int) ∧ P (l.getD k default) = true ∧ ∀ j, j < k → P (l.getD j default) = false) ∨ (ix = -1 ∧ ∀ j, j < l.length → P (l.getD j default) = false))) := by
  refine CallH_enter (l := [_, _]) (rl := [.tmp 4]) (n := 19) Try.func44 rfl rfl rfl rfl rfl ?_
  simp only [envOf, Nat.reduceAdd]
  refine CW_seq (fun K1 hK1 => ?_)
  refine CW_region ?_
  refine OW_as rfl ?_
  refine OW_nil ?_
  try simp only [Ex.thnH, Ex.inBlockH, ↓reduceIte, Nat.reduceEqDiff]
  refine hK1 _ _ ?_; try clear hK1 K1
  refine CW_seq (fun K2 hK2 => ?_)
  refine CW_seq (fun K3 hK3 => ?_)
  refine CW_region ?_
  refine OW_mv rfl ?_
  refine OW_opS (fun K hK r => ?_)
  simp only [x_builtin, l_len, List.map_toArray, List.map_cons, List.map_nil, i_len_slice _ _ Try.underlying54, eX, ↓reduceIte, Nat.reduceEqDiff, Int.reduceToNat]
  refine hK _ _ ?_; clear hK K
  refine OW_mv rfl ?_
  refine OW_nil ?_
  try simp only [Ex.thnH, Ex.inBlockH, ↓reduceIte, Nat.reduceEqDiff]
  refine hK3 _ _ ?_; try clear hK3 K3
  refine CW_block ?_
  refine CW_loop (fun m e H_ => ∃ k : Nat, k ≤ l.length ∧ m = l.length - k ∧ (∀ j, j < k → P (l.getD j default) = false) ∧ H_ = H ∧ Env.has [(0, .slice a l.length cap), (1, .func gf ga gb), (7, .int .i64 l.length), (8, .int .i64 k)] e) (l.length) ?_ ?_
  · skip
    exact ⟨0, by omega, by omega, (fun j hj => absurd hj (by omega)), rfl, rfl, rfl, rfl, rfl, trivial⟩
  intro m_ e_ H_ hI_
  obtain ⟨k, hk, rfl, hno, hH_, he⟩ := hI_
  have hH_ := hH_.symm; subst hH_
  refine CW_env he.sub ?_; clear he e_
  refine CW_seq (fun K4 hK4 => ?_)
  refine CW_region ?_
  refine OW_opS (fun K hK r => ?_)
  simp (disch := (first | omega | decide)) only [x_bin, g_int, b_lss, dec_lt_t, dec_lt_f, dec_le_t, dec_le_f, dec_eq_t, dec_eq_f, Bool.not_true, Bool.not_false, eX, ↓reduceIte, Nat.reduceEqDiff, Int.reduceToNat]
  refine hK _ _ ?_; clear hK K
  refine OW_nil ?_
  try simp only [Ex.thnH, Ex.inBlockH, ↓reduceIte, Nat.reduceEqDiff]
  refine hK4 _ _ ?_; try clear hK4 K4
  refine CW_seq (fun K5 hK5 => ?_)
  refine CW_cond (fun r => rfl) (fun c9 => ?_) (fun c9 => ?_)
  · first
    | (exfalso; exact cnA c9; done)
    | skip
      (try simp only [decide_eq_true_eq, decide_eq_false_iff_not, Bool.not_eq_true, Bool.not_eq_false, Bool.and_eq_true, Bool.or_eq_true, Bool.or_eq_false_iff, Bool.not_eq_true, Bool.not_eq_eq_eq_not, Bool.not_true, Bool.not_false] at c9)
      obtain ⟨bw, ow, cw, Tw, Fw, ew, hbw, hsw, atw⟩ := hv.at (by omega)
      refine CW_skip ?_
      try simp only [Ex.thnH, Ex.inBlockH, ↓reduceIte, Nat.reduceEqDiff]
      refine hK5 _ _ ?_; try clear hK5 K5
      refine CW_seq (fun K6 hK6 => ?_)
      refine CW_block ?_
      refine CW_seq (fun K7 hK7 => ?_)
      refine CW_region ?_
      refine OW_mv rfl ?_
      refine OW_as rfl ?_
      refine OW_nil ?_
      try simp only [Ex.thnH, Ex.inBlockH, ↓reduceIte, Nat.reduceEqDiff]
      refine hK7 _ _ ?_; try clear hK7 K7
      refine CW_seq (fun K8 hK8 => ?_)
      refine CW_region ?_
      refine OW_mv rfl ?_
      refine OW_mv rfl ?_
      refine OW_mv rfl ?_
      refine OW_opS (fun K hK r => ?_)
      simp only [x_indexAddr, eX, ↓reduceIte, Nat.reduceEqDiff, Int.reduceToNat]
      refine Lt_indexSof Try.underlying54 sz110 ew ixA ixA ?_
      try simp only [Int.toNat_natCast]
      refine hK _ _ ?_; clear hK K
      refine OW_opS (fun K hK r => ?_)
      simp only [x_load, eX, ↓reduceIte, Nat.reduceEqDiff, Int.reduceToNat]
      refine Lt_loadAtA Try.underlying110 rfl sz110 hbw (by omega) ?_
      rw [ext_at Kp.len atw rfl k (by omega) hsw]
      refine hK _ _ ?_; clear hK K
      refine OW_opS (fun K hK r => ?_)
      simp only [x_call, List.map_toArray, List.map_cons, List.map_nil, eX, ↓reduceIte, Nat.reduceEqDiff, Int.reduceToNat]
      show ValH _ _ _ _ _
      refine (hP (l.getD k default)).mono ?_
      rintro v H' ⟨rfl, hq⟩
      have hq := hq.symm
      subst hq
      try simp only [eX, ↓reduceIte, Nat.reduceEqDiff, Int.reduceToNat]
      refine hK _ _ ?_; clear hK K
      refine OW_nil ?_
      try simp only [Ex.thnH, Ex.inBlockH, ↓reduceIte, Nat.reduceEqDiff]
      refine hK8 _ _ ?_; try clear hK8 K8
      refine CW_cond (fun r => rfl) (fun c16 => ?_) (fun c16 => ?_)
      · first
        | (exfalso; exact cnA c16; done)
        | skip
          (try simp only [decide_eq_true_eq, decide_eq_false_iff_not, Bool.not_eq_true, Bool.not_eq_false, Bool.and_eq_true, Bool.or_eq_true, Bool.or_eq_false_iff, Bool.not_eq_true, Bool.not_eq_eq_eq_not, Bool.not_true, Bool.not_false] at c16)
          refine CW_seq (fun K9 hK9 => ?_)
          refine CW_region ?_
          refine OW_mv rfl ?_
          refine OW_as rfl ?_
          refine OW_nil ?_
          try simp only [Ex.thnH, Ex.inBlockH, ↓reduceIte, Nat.reduceEqDiff]
          refine hK9 _ _ ?_; try clear hK9 K9
          refine CW_ret ?_
          try simp only [Ex.thnH, Ex.inBlockH, ↓reduceIte, Nat.reduceEqDiff]
          exact ⟨[_], ⟨rfl, trivial⟩, _, Le.refl _, rfl, _, rfl, .inl ⟨k, by omega, rfl, c16, hno⟩⟩
      · first
        | (exfalso; exact cnA c16; done)
        | skip
          (try simp only [decide_eq_true_eq, decide_eq_false_iff_not, Bool.not_eq_true, Bool.not_eq_false, Bool.and_eq_true, Bool.or_eq_true, Bool.or_eq_false_iff, Bool.not_eq_true, Bool.not_eq_eq_eq_not, Bool.not_true, Bool.not_false] at c16)
          refine CW_skip ?_
          try simp only [Ex.thnH, Ex.inBlockH, ↓reduceIte, Nat.reduceEqDiff]
          refine hK6 _ _ ?_; try clear hK6 K6
          refine CW_region ?_
          refine OW_opS (fun K hK r => ?_)
          simp (disch := (first | omega | decide)) only [x_bin, g_int, b_add, wrap_i64, wrap_u64, wrap_u32, wrap_u8, eX, ↓reduceIte, Nat.reduceEqDiff, Int.reduceToNat]
          refine hK _ _ ?_; clear hK K
          refine OW_mv rfl ?_
          refine OW_nil ?_
          try simp only [Ex.thnH, Ex.inBlockH, ↓reduceIte, Nat.reduceEqDiff]
          refine ⟨l.length - (k + 1), by omega, k + 1, by omega, rfl, (fun j hj => ?_), rfA, rfl, rfl, rfl, rfl, trivial⟩
          by_cases e : j = k
          · subst e; exact c16
          · exact hno j (by omega)
  · first
    | (exfalso; exact cnA c9; done)
    | skip
      (try simp only [decide_eq_true_eq, decide_eq_false_iff_not, Bool.not_eq_true, Bool.not_eq_false, Bool.and_eq_true, Bool.or_eq_true, Bool.or_eq_false_iff, Bool.not_eq_true, Bool.not_eq_eq_eq_not, Bool.not_true, Bool.not_false] at c9)
      have hkn : k = l.length := by omega
      refine CW_exit ?_
      try simp only [Ex.thnH, Ex.inBlockH, ↓reduceIte, Nat.reduceEqDiff]
      refine hK2 _ _ ?_; try clear hK2 K2
      refine CW_seq (fun K10 hK10 => ?_)
      refine CW_region ?_
      refine OW_as rfl ?_
      refine OW_nil ?_
      try simp only [Ex.thnH, Ex.inBlockH, ↓reduceIte, Nat.reduceEqDiff]
      refine hK10 _ _ ?_; try clear hK10 K10
      refine CW_ret ?_
      try simp only [Ex.thnH, Ex.inBlockH, ↓reduceIte, Nat.reduceEqDiff]
      subst hkn
      exact ⟨[_], ⟨rfl, trivial⟩, _, Le.refl _, rfl, _, rfl, .inr ⟨rfl, hno⟩⟩

set_option maxRecDepth 100000 in
set_option maxHeartbeats 1000000 in
theorem crash1_ok (H : Hp) (kc bd : Nat) (a : Option Addr) (cap : Nat) (l : List Kp) (dev : Int) (n : Int) (hkc : H kc = some (.cells #[.slice a l.length cap] 54)) (hbd : H bd = some (.cells #[.int .i64 dev] 3)) (hv : Holds H 3 (.slice a l.length cap) l.length (kps l)) (hl : l.length ≤ 1000) :
  CallH Try.prog 43 #[.int .i64 n, .pointer (some ⟨kc, 0, none⟩), .pointer (some ⟨bd, 0, none⟩)] H (fun v H' => v = .tuple #[.int .i64 ((keepOf l dev n).getD 0), .bool (keepOf l dev n).isSome] ∧ H' = H) := by
  refine CallH_enter (l := [_, _, _]) (rl := [.tmp 4, .tmp 5]) (n := 17) Try.func43 rfl rfl rfl rfl rfl ?_
  simp only [envOf, Nat.reduceAdd]
  refine CW_seq (fun K1 hK1 => ?_)
  refine CW_region ?_
  refine OW_opS (fun K hK r => ?_)
  simp only [x_box, Value.cells, eX, ↓reduceIte, Nat.reduceEqDiff, Int.reduceToNat]
  intro b3 hb3
  try have n3_kc : kc ≠ b3 := ne_of_none hbA hb3
  try have n3_bd : bd ≠ b3 := ne_of_none hbA hb3
  have f3_H : H b3 = none := none_of_le lhA hb3
  try simp only [eX, ↓reduceIte, Nat.reduceEqDiff, Int.reduceToNat]
  refine hK _ _ ?_; clear hK K
  refine OW_as rfl ?_
  refine OW_as rfl ?_
  refine OW_nil ?_
  try simp only [Ex.thnH, Ex.inBlockH, ↓reduceIte, Nat.reduceEqDiff]
  refine hK1 _ _ ?_; try clear hK1 K1
  refine CW_seq (fun K2 hK2 => ?_)
  refine CW_region ?_
  refine OW_opS (fun K hK r => ?_)
  simp only [x_load, eX, ↓reduceIte, Nat.reduceEqDiff, Int.reduceToNat]
  refine Lt_loadAt1 Try.underlying54 rfl hbA ldA ?_
  try simp only [eX, ↓reduceIte, Nat.reduceEqDiff, Int.reduceToNat]
  refine hK _ _ ?_; clear hK K
  refine OW_opS (fun K hK r => ?_)
  simp only [x_makeFunc, List.map_toArray, List.map_cons, List.map_nil, eX, ↓reduceIte, Nat.reduceEqDiff, Int.reduceToNat]
  refine hK _ _ ?_; clear hK K
  refine OW_opS (fun K hK r => ?_)
  simp only [x_callF _ bd44, List.map_toArray, List.map_cons, List.map_nil, eX, ↓reduceIte, Nat.reduceEqDiff, Int.reduceToNat]
  refine (index_ok _ a cap l (hv.le lhA) _ _ _ (fun k => decide (k.dev = dev) && decide (k.n = n)) (fun k => ValH_func bd45 (crash11_ok _ bd b3 dev n k hbA hbA)) hl).mono ?_
  rintro v9 H' ⟨hq, ix, rfl, hix⟩
  have hq := hq.symm
  subst hq
  try simp only [eX, ↓reduceIte, Nat.reduceEqDiff, Int.reduceToNat]
  refine hK _ _ ?_; clear hK K
  refine OW_as rfl ?_
  refine OW_nil ?_
  try simp only [Ex.thnH, Ex.inBlockH, ↓reduceIte, Nat.reduceEqDiff]
  refine hK2 _ _ ?_; try clear hK2 K2
  refine CW_seq (fun K3 hK3 => ?_)
  refine CW_seq (fun K4 hK4 => ?_)
  refine CW_region ?_
  refine OW_mv rfl ?_
  refine OW_opS (fun K hK r => ?_)
  simp (disch := (first | omega | decide)) only [x_bin, g_int, b_lss, dec_lt_t, dec_lt_f, dec_le_t, dec_le_f, dec_eq_t, dec_eq_f, Bool.not_true, Bool.not_false, eX, ↓reduceIte, Nat.reduceEqDiff, Int.reduceToNat]
  refine hK _ _ ?_; clear hK K
  refine OW_nil ?_
  try simp only [Ex.thnH, Ex.inBlockH, ↓reduceIte, Nat.reduceEqDiff]
  refine hK4 _ _ ?_; try clear hK4 K4
  refine CW_cond (fun r => rfl) (fun c11 => ?_) (fun c11 => ?_)
  · first
    | (exfalso; exact cnA c11; done)
    | skip
      (try simp only [decide_eq_true_eq, decide_eq_false_iff_not, Bool.not_eq_true, Bool.not_eq_false, Bool.and_eq_true, Bool.or_eq_true, Bool.or_eq_false_iff, Bool.not_eq_true, Bool.not_eq_eq_eq_not, Bool.not_true, Bool.not_false] at c11)
      have hko : keepOf l dev n = none := by
        rcases hix with ⟨k, hk, rfl, hy, hno⟩ | ⟨rfl, hno⟩
        · omega
        · unfold keepOf; rw [find_no _ _ hno]; rfl
      refine CW_seq (fun K5 hK5 => ?_)
      refine CW_region ?_
      refine OW_as rfl ?_
      refine OW_as rfl ?_
      refine OW_nil ?_
      try simp only [Ex.thnH, Ex.inBlockH, ↓reduceIte, Nat.reduceEqDiff]
      refine hK5 _ _ ?_; try clear hK5 K5
      refine CW_ret ?_
      try simp only [Ex.thnH, Ex.inBlockH, ↓reduceIte, Nat.reduceEqDiff]
      rw [hko]
      exact ⟨[_, _], ⟨rfl, rfl, trivial⟩, H, lhA, rfl, rfl⟩
  · first
    | (exfalso; exact cnA c11; done)
    | skip
      (try simp only [decide_eq_true_eq, decide_eq_false_iff_not, Bool.not_eq_true, Bool.not_eq_false, Bool.and_eq_true, Bool.or_eq_true, Bool.or_eq_false_iff, Bool.not_eq_true, Bool.not_eq_eq_eq_not, Bool.not_true, Bool.not_false] at c11)
      obtain ⟨k, hk, rfl, hy, hno⟩ : ∃ k : Nat, k < l.length ∧ ix = (k : Int) ∧ (fun k : Kp => decide (k.dev = dev) && decide (k.n = n)) (l.getD k default) = true ∧ ∀ j, j < k → (fun k : Kp => decide (k.dev = dev) && decide (k.n = n)) (l.getD j default) = false := by
        rcases hix with h | ⟨rfl, _⟩
        · exact h
        · omega
      have hko : keepOf l dev n = some (l.getD k default).tear := by unfold keepOf; rw [find_at _ _ k hk hy hno]; rfl
      obtain ⟨bw, ow, cw, Tw, Fw, ew, hbw, hsw, atw⟩ := hv.at (by omega)
      refine CW_skip ?_
      try simp only [Ex.thnH, Ex.inBlockH, ↓reduceIte, Nat.reduceEqDiff]
      refine hK3 _ _ ?_; try clear hK3 K3
      refine CW_seq (fun K6 hK6 => ?_)
      refine CW_region ?_
      refine OW_opS (fun K hK r => ?_)
      simp only [x_load, eX, ↓reduceIte, Nat.reduceEqDiff, Int.reduceToNat]
      refine Lt_loadAt1 Try.underlying54 rfl hbA ldA ?_
      try simp only [eX, ↓reduceIte, Nat.reduceEqDiff, Int.reduceToNat]
      refine hK _ _ ?_; clear hK K
      refine OW_mv rfl ?_
      refine OW_opS (fun K hK r => ?_)
      simp only [x_indexAddr, eX, ↓reduceIte, Nat.reduceEqDiff, Int.reduceToNat]
      refine Lt_indexSof Try.underlying54 sz110 ew ixA ixA ?_
      try simp only [Int.toNat_natCast]
      refine hK _ _ ?_; clear hK K
      refine OW_opS (fun K hK r => ?_)
      simp only [x_fieldAddr, fa110_2, add_mk, Nat.reduceAdd, Nat.zero_add, eX, ↓reduceIte, Nat.reduceEqDiff, Int.reduceToNat]
      refine hK _ _ ?_; clear hK K
      refine OW_opS (fun K hK r => ?_)
      simp only [x_load, eX, ↓reduceIte, Nat.reduceEqDiff, Int.reduceToNat]
      refine Lt_loadAt1 Try.underlying3 rfl ((upd_ne _ _ (ne_of_none hbw f3_H)).trans hbw) (v := .int .i64 (l.getD k default).tear) (by first | exact cell_at Kp.len atw rfl k hk 2 (by decide) | (rw [cell_at Kp.len atw rfl k hk 2 (by decide)]; rfl)) ?_
      refine hK _ _ ?_; clear hK K
      refine OW_as rfl ?_
      refine OW_as rfl ?_
      refine OW_nil ?_
      try simp only [Ex.thnH, Ex.inBlockH, ↓reduceIte, Nat.reduceEqDiff]
      refine hK6 _ _ ?_; try clear hK6 K6
      refine CW_ret ?_
      try simp only [Ex.thnH, Ex.inBlockH, ↓reduceIte, Nat.reduceEqDiff]
      rw [hko]
      exact ⟨[_, _], ⟨rfl, rfl, trivial⟩, H, lhA, rfl, rfl⟩

end Go.Proofs.Ytcjdkfhmlnfedaa.HL
end
section
namespace Go.Proofs.Ytcjdkfhmlnfedaa.HL
open Go Go.Proofs
set_option linter.unusedSimpArgs false
set_option linter.unusedVariables false
attribute [local irreducible] Lt Lq CW OW TW CallH

set_option maxRecDepth 100000 in
set_option maxHeartbeats 8000000 in
theorem crash_ok (H : Hp) (p : Nat) (s : St) (rd cap : Nat) (bs : List Nat) (Fs : Nat → Hp) (h : SX H p s rd cap bs Fs) (hl : s.dv.length ≤ 1000) (hw : ∀ i, (s.dv.getD i default).wait.length ≤ 1000000) (G : Hp) (hG : Le G H) (hGp : G p = none) (hGd : ∀ i, i < s.dv.length → ∀ x, Fs i x ≠ none → G x = none) (a : Option Addr) (kcap : Nat) (l : List Kp) (hkv : Holds G 3 (.slice a l.length kcap) l.length (kps l)) (hkl : l.length ≤ 1000) : CallH Try.prog 17 #[(.pointer (some ⟨p, 0, none⟩)), .slice a l.length kcap] H (fun v H' => SetX H' p (s.cr l)) := by
  refine CallH_enter (l := [_, _]) (rl := []) (n := 30) Try.func17 rfl rfl rfl rfl rfl ?_
  simp only [envOf, Nat.reduceAdd]
  refine CW_seq (fun K1 hK1 => ?_)
  refine CW_region ?_
  refine OW_opS (fun K hK r => ?_)
  simp only [x_box, Value.cells, eX, ↓reduceIte, Nat.reduceEqDiff, Int.reduceToNat]
  intro b3 hb3
  have hpb3 : p ≠ b3 := ne_of_none h.hd hb3
  have hG3 : G b3 = none := none_of_le hG hb3
  have h3 := h.mono (le_upd H b3 (.cells #[.slice a l.length kcap] 54) hb3)
  have h3p := h3.hd
  have hF3 : ∀ i, i < s.dv.length → Fs i b3 = none := fun i hi => none_of_le (h.le i hi) hb3
  try simp only [eX, ↓reduceIte, Nat.reduceEqDiff, Int.reduceToNat]
  refine hK _ _ ?_; clear hK K
  refine OW_nil ?_
  try simp only [Ex.thnH, Ex.inBlockH, ↓reduceIte, Nat.reduceEqDiff]
  refine hK1 _ _ ?_; try clear hK1 K1
  refine CW_seq (fun K2 hK2 => ?_)
  refine CW_seq (fun K3 hK3 => ?_)
  refine CW_region ?_
  refine OW_mv rfl ?_
  refine OW_opS (fun K hK r => ?_)
  simp only [x_bin, g_int, g_bool, g_string, g_pointer, g_slice, g_map, g_func, g_nilFunc, g_iface, g_nil_iface, g_nil_r, g_nil_l, eX, ↓reduceIte, Nat.reduceEqDiff, Int.reduceToNat]
  rw [e_eql _ _ _ _ (by simp)]
  rw [q_equal]
  first | rw [q_ptr_nil _ _ _ Try.underlying31] | rw [q_nil_ptr _ _ _ Try.underlying31]
  try simp only [eX, ↓reduceIte, Nat.reduceEqDiff, Int.reduceToNat]
  refine hK _ _ ?_; clear hK K
  refine OW_nil ?_
  try simp only [Ex.thnH, Ex.inBlockH, ↓reduceIte, Nat.reduceEqDiff]
  refine hK3 _ _ ?_; try clear hK3 K3
  refine CW_cond (fun r => rfl) (fun c7 => ?_) (fun c7 => ?_)
  · first
    | (exfalso; exact cnA c7; done)
    | skip
      (try simp only [decide_eq_true_eq, decide_eq_false_iff_not, Bool.not_eq_true, Bool.not_eq_false, Bool.and_eq_true, Bool.or_eq_true, Bool.or_eq_false_iff, Bool.not_eq_true, Bool.not_eq_eq_eq_not, Bool.not_true, Bool.not_false] at c7)
      refine CW_ret ?_
      try simp only [Ex.thnH, Ex.inBlockH, ↓reduceIte, Nat.reduceEqDiff]
      skip
  · first
    | (exfalso; exact cnA c7; done)
    | skip
      (try simp only [decide_eq_true_eq, decide_eq_false_iff_not, Bool.not_eq_true, Bool.not_eq_false, Bool.and_eq_true, Bool.or_eq_true, Bool.or_eq_false_iff, Bool.not_eq_true, Bool.not_eq_eq_eq_not, Bool.not_true, Bool.not_false] at c7)
      refine CW_skip ?_
      try simp only [Ex.thnH, Ex.inBlockH, ↓reduceIte, Nat.reduceEqDiff]
      refine hK2 _ _ ?_; try clear hK2 K2
      refine CW_seq (fun K4 hK4 => ?_)
      refine CW_seq (fun K5 hK5 => ?_)
      refine CW_region ?_
      refine OW_mv rfl ?_
      refine OW_opS (fun K hK r => ?_)
      rw [x_nilCheck _ _ rfl]
      simp only [eX, ↓reduceIte, Nat.reduceEqDiff, Int.reduceToNat]
      refine hK _ _ ?_; clear hK K
      refine OW_opS (fun K hK r => ?_)
      simp only [x_fieldAddr, fa78_1, add_mk, Nat.reduceAdd, Nat.zero_add, eX, ↓reduceIte, Nat.reduceEqDiff, Int.reduceToNat]
      refine hK _ _ ?_; clear hK K
      refine OW_opS (fun K hK r => ?_)
      simp only [x_load, eX, ↓reduceIte, Nat.reduceEqDiff, Int.reduceToNat]
      refine Lt_loadAt1 Try.underlying76 rfl hbA ldA ?_
      try simp only [eX, ↓reduceIte, Nat.reduceEqDiff, Int.reduceToNat]
      refine hK _ _ ?_; clear hK K
      refine OW_opS (fun K hK r => ?_)
      simp only [x_builtin, l_len, List.map_toArray, List.map_cons, List.map_nil, i_len_slice _ _ Try.underlying76, eX, ↓reduceIte, Nat.reduceEqDiff, Int.reduceToNat]
      refine hK _ _ ?_; clear hK K
      refine OW_mv rfl ?_
      refine OW_nil ?_
      try simp only [Ex.thnH, Ex.inBlockH, ↓reduceIte, Nat.reduceEqDiff]
      refine hK5 _ _ ?_; try clear hK5 K5
      refine CW_block ?_
      refine CW_loop (fun m e H_ => ∃ (k : Nat) (Fk : Nat → Hp), k ≤ s.dv.length ∧ m = s.dv.length - k ∧ SX H_ p (s.crK l k) rd cap bs Fk ∧ (∀ i, i < s.dv.length → ∀ x, Fk i x ≠ none → (G.upd b3 (.cells #[.slice a l.length kcap] 54)) x = none) ∧ Le (G.upd b3 (.cells #[.slice a l.length kcap] 54)) H_ ∧ Env.has [(0, (.pointer (some ⟨p, 0, none⟩))), (3, .pointer (some ⟨b3, 0, none⟩)), (11, .slice (some ⟨rd, 0, none⟩) s.dv.length cap), (12, .int .i64 s.dv.length), (13, .int .i64 k)] e) (s.dv.length) ?_ ?_
      · skip
        refine ⟨0, Fs, by omega, by omega, by rw [St.crK_zero]; exact h3, (fun i hi x hx => ?_), ?_, rfl, rfl, rfl, rfl, rfl, trivial⟩
        · rw [upd_ne _ _ (fun e => by subst e; exact hx (hF3 i hi))]; exact hGd i hi x hx
        · exact le_put (Le.trans hG (le_upd _ _ _ hb3)) (upd_same _ _ _)
      intro m_ e_ H_ hI_
      obtain ⟨k, Fk, hk, rfl, hS, hap, hleG, he⟩ := hI_
      refine CW_env he.sub ?_; clear he e_
      have hk3 := hleG b3 _ (upd_same _ _ _)
      refine CW_seq (fun K6 hK6 => ?_)
      refine CW_region ?_
      refine OW_opS (fun K hK r => ?_)
      simp (disch := (first | omega | decide)) only [x_bin, g_int, b_lss, dec_lt_t, dec_lt_f, dec_le_t, dec_le_f, dec_eq_t, dec_eq_f, Bool.not_true, Bool.not_false, eX, ↓reduceIte, Nat.reduceEqDiff, Int.reduceToNat]
      refine hK _ _ ?_; clear hK K
      refine OW_nil ?_
      try simp only [Ex.thnH, Ex.inBlockH, ↓reduceIte, Nat.reduceEqDiff]
      refine hK6 _ _ ?_; try clear hK6 K6
      refine CW_seq (fun K7 hK7 => ?_)
      refine CW_cond (fun r => rfl) (fun c14 => ?_) (fun c14 => ?_)
      · first
        | (exfalso; exact cnA c14; done)
        | skip
          (try simp only [decide_eq_true_eq, decide_eq_false_iff_not, Bool.not_eq_true, Bool.not_eq_false, Bool.and_eq_true, Bool.or_eq_true, Bool.or_eq_false_iff, Bool.not_eq_true, Bool.not_eq_eq_eq_not, Bool.not_true, Bool.not_false] at c14)
          have hks : k < s.dv.length := by omega
          obtain ⟨cc, T, f, hr, hat, hlt⟩ := hS.at (k := k) (by rw [St.crK_len]; exact hks)
          refine CW_skip ?_
          try simp only [Ex.thnH, Ex.inBlockH, ↓reduceIte, Nat.reduceEqDiff]
          refine hK7 _ _ ?_; try clear hK7 K7
          refine CW_seq (fun K8 hK8 => ?_)
          refine CW_block ?_
          refine CW_seq (fun K9 hK9 => ?_)
          refine CW_region ?_
          refine OW_mv rfl ?_
          refine OW_opS (fun K hK r => ?_)
          simp only [x_indexAddr, eX, ↓reduceIte, Nat.reduceEqDiff, Int.reduceToNat]
          refine Lt_indexS Try.underlying76 sz79 ixA ixA ?_
          try simp only [add_mk, Nat.mul_one, Nat.zero_add, Int.reduceToNat]
          try simp only [eX, ↓reduceIte, Nat.reduceEqDiff, Int.reduceToNat]
          refine hK _ _ ?_; clear hK K
          refine OW_opS (fun K hK r => ?_)
          simp only [x_load, eX, ↓reduceIte, Nat.reduceEqDiff, Int.reduceToNat]
          refine Lt_loadAt1 Try.underlying79 rfl hbA hat ?_
          refine hK _ _ ?_; clear hK K
          refine OW_opS (fun K hK r => ?_)
          simp only [x_alloc, zr3, orF_some, Value.cells, eX, ↓reduceIte, Nat.reduceEqDiff, Int.reduceToNat]
          intro b4 hb4
          try have n4_b3 : b3 ≠ b4 := ne_of_none hbA hb4
          try simp only [eX, ↓reduceIte, Nat.reduceEqDiff, Int.reduceToNat]
          refine hK _ _ ?_; clear hK K
          refine OW_op rfl (lt_none) (fun K hK r => ?_)
          simp only [x_store, eX, ↓reduceIte, Nat.reduceEqDiff, Int.reduceToNat]
          refine Lt_storeAt1 sz3 hbA bdA plA fzA ?_
          try simp only [setL0, setL1, setL2, setL3, setL4, setL5, setL6, setL7, setL8, setL9]
          try simp only [eX, ↓reduceIte, Nat.reduceEqDiff, Int.reduceToNat]
          refine hK _ _ ?_; clear hK K
          refine OW_as rfl ?_
          refine OW_nil ?_
          try simp only [Ex.thnH, Ex.inBlockH, ↓reduceIte, Nat.reduceEqDiff]
          refine hK9 _ _ ?_; try clear hK9 K9
          refine CW_region ?_
          refine OW_mv rfl ?_
          refine OW_opS (fun K hK r => ?_)
          simp only [x_makeFunc, List.map_toArray, List.map_cons, List.map_nil, eX, ↓reduceIte, Nat.reduceEqDiff, Int.reduceToNat]
          refine hK _ _ ?_; clear hK K
          refine OW_opS (fun K hK r => ?_)
          simp only [x_callF _ bd42, List.map_toArray, List.map_cons, List.map_nil, eX, ↓reduceIte, Nat.reduceEqDiff, Int.reduceToNat]
          have hdk := hS.dev k (by rw [St.crK_len]; exact hks)
          rw [St.crK_at _ _ _ hks] at hdk
          have hfpk := hS.fp k (by rw [St.crK_len]; exact hks)
          have hlek := hS.le k (by rw [St.crK_len]; exact hks)
          have hFb4 : ∀ x, Fk k x ≠ none → x ≠ b4 := fun x hx e => by subst e; exact hx (none_of_le hlek hb4)
          have hpb4 : p ≠ b4 := ne_of_none hS.hd hb4
          have hGb4 : (G.upd b3 (.cells #[.slice a l.length kcap] 54)) b4 = none := none_of_le hleG hb4
          refine (settle_ok _ _ _ (Fk k) ((G.upd b3 (.cells #[.slice a l.length kcap] 54)).upd b4 (.cells #[.int .i64 (k : Int)] 3)) hdk (Le.trans hlek (le_upd _ _ _ hb4)) (le_put (Le.trans hleG (le_upd _ _ _ hb4)) (upd_same _ _ _)) (fun x hx => (upd_ne _ _ (hFb4 x hx)).trans (hap k hks x hx)) (.func 43) #[] #[.pointer (some ⟨b3, 0, none⟩), .pointer (some ⟨b4, 0, none⟩)] (fun n => keepOf l k n) (fun KK hKK n hn => ValH_func bd43 (crash1_ok KK b3 b4 a kcap l k n (hKK b3 _ ((upd_ne _ _ (ne_of_none (upd_same _ _ _) hGb4)).trans (upd_same _ _ _))) (hKK b4 _ (upd_same _ _ _)) (hkv.le (Le.trans (Le.trans (le_upd _ _ _ hG3) (le_upd _ _ _ hGb4)) hKK)) hkl)) (hw _)).mono ?_
          rintro v20 H20 ⟨F', hdF, hlF, hdom, hkp⟩
          have hkp4 : ∀ x o, H_ x = some o → Fk k x = none → H20 x = some o := fun x o hx hn => hkp x o ((upd_ne _ _ (ne_of_none hx hb4)).trans hx) hn
          obtain ⟨Fk', hS', hFk'⟩ := hS.put2 (t := s.crK l (k + 1)) (i := k) (by rw [St.crK_len]; exact hks) hdF (St.crK_next s l k hks) (by have := hkp4 p _ hS.hd hfpk.1; rw [this]; rfl) hlF (fun z o hz hn hzp => hkp4 z o hz hn) (fun z hz => .inl (hdom z hz))
          have hap' : ∀ i, i < s.dv.length → ∀ x, Fk' i x ≠ none → (G.upd b3 (.cells #[.slice a l.length kcap] 54)) x = none := fun i hi x hx => by
            subst hFk'
            by_cases e : i = k
            · subst e; simp only [if_true] at hx; exact hap i hi x (hdom x hx)
            · simp only [if_neg e] at hx; exact hap i hi x hx
          have hleG' : Le (G.upd b3 (.cells #[.slice a l.length kcap] 54)) H20 := fun z o hz => hkp4 z o (hleG z o hz) (by
            cases hc : Fk k z with
            | none => rfl
            | some u => rw [hap k hks z (by rw [hc]; simp)] at hz; cases hz)
          try simp only [eX, ↓reduceIte, Nat.reduceEqDiff, Int.reduceToNat]
          refine hK _ _ ?_; clear hK K
          refine OW_nil ?_
          try simp only [Ex.thnH, Ex.inBlockH, ↓reduceIte, Nat.reduceEqDiff]
          refine hK8 _ _ ?_; try clear hK8 K8
          refine CW_region ?_
          refine OW_opS (fun K hK r => ?_)
          simp (disch := (first | omega | decide)) only [x_bin, g_int, b_add, wrap_i64, wrap_u64, wrap_u32, wrap_u8, eX, ↓reduceIte, Nat.reduceEqDiff, Int.reduceToNat]
          refine hK _ _ ?_; clear hK K
          refine OW_mv rfl ?_
          refine OW_nil ?_
          try simp only [Ex.thnH, Ex.inBlockH, ↓reduceIte, Nat.reduceEqDiff]
          refine ⟨s.dv.length - (k + 1), by omega, k + 1, Fk', by omega, rfl, hS', hap', hleG', rfl, rfl, rfl, rfl, rfl, trivial⟩
      · first
        | (exfalso; exact cnA c14; done)
        | skip
          (try simp only [decide_eq_true_eq, decide_eq_false_iff_not, Bool.not_eq_true, Bool.not_eq_false, Bool.and_eq_true, Bool.or_eq_true, Bool.or_eq_false_iff, Bool.not_eq_true, Bool.not_eq_eq_eq_not, Bool.not_true, Bool.not_false] at c14)
          have hkn : k = s.dv.length := by omega
          have hSp := hS.hd
          refine CW_exit ?_
          try simp only [Ex.thnH, Ex.inBlockH, ↓reduceIte, Nat.reduceEqDiff]
          refine hK4 _ _ ?_; try clear hK4 K4
          refine CW_region ?_
          refine OW_mv rfl ?_
          refine OW_mv rfl ?_
          refine OW_opS (fun K hK r => ?_)
          rw [x_nilCheck _ _ rfl]
          simp only [eX, ↓reduceIte, Nat.reduceEqDiff, Int.reduceToNat]
          refine hK _ _ ?_; clear hK K
          refine OW_opS (fun K hK r => ?_)
          simp only [x_fieldAddr, fa78_0, add_mk, Nat.reduceAdd, Nat.zero_add, eX, ↓reduceIte, Nat.reduceEqDiff, Int.reduceToNat]
          refine hK _ _ ?_; clear hK K
          refine OW_opS (fun K hK r => ?_)
          simp only [x_fieldAddr, fa75_2, add_mk, Nat.reduceAdd, Nat.zero_add, eX, ↓reduceIte, Nat.reduceEqDiff, Int.reduceToNat]
          refine hK _ _ ?_; clear hK K
          refine OW_op rfl (lt_none) (fun K hK r => ?_)
          simp only [x_store, eX, ↓reduceIte, Nat.reduceEqDiff, Int.reduceToNat]
          refine Lt_storeAt1 sz4 hbA bdA plA fzA ?_
          try simp only [setL0, setL1, setL2, setL3, setL4, setL5, setL6, setL7, setL8, setL9]
          try simp only [eX, ↓reduceIte, Nat.reduceEqDiff, Int.reduceToNat]
          refine hK _ _ ?_; clear hK K
          refine OW_opS (fun K hK r => ?_)
          rw [x_nilCheck _ _ rfl]
          simp only [eX, ↓reduceIte, Nat.reduceEqDiff, Int.reduceToNat]
          refine hK _ _ ?_; clear hK K
          refine OW_opS (fun K hK r => ?_)
          simp only [x_fieldAddr, fa78_0, add_mk, Nat.reduceAdd, Nat.zero_add, eX, ↓reduceIte, Nat.reduceEqDiff, Int.reduceToNat]
          refine hK _ _ ?_; clear hK K
          refine OW_opS (fun K hK r => ?_)
          simp only [x_fieldAddr, fa75_3, add_mk, Nat.reduceAdd, Nat.zero_add, eX, ↓reduceIte, Nat.reduceEqDiff, Int.reduceToNat]
          refine hK _ _ ?_; clear hK K
          refine OW_op rfl (lt_none) (fun K hK r => ?_)
          simp only [x_store, eX, ↓reduceIte, Nat.reduceEqDiff, Int.reduceToNat]
          refine Lt_storeAt1 sz4 hbA bdA plA fzA ?_
          try simp only [setL0, setL1, setL2, setL3, setL4, setL5, setL6, setL7, setL8, setL9]
          try simp only [eX, ↓reduceIte, Nat.reduceEqDiff, Int.reduceToNat]
          refine hK _ _ ?_; clear hK K
          refine OW_nil ?_
          try simp only [Ex.thnH, Ex.inBlockH, ↓reduceIte, Nat.reduceEqDiff]
          have hcr : (s.cr l).dv = (s.crK l k).dv := by rw [hkn, St.crK_all]
          have hln : (s.crK l k).dv.length = s.dv.length := St.crK_len _ _ _
          refine ⟨[], trivial, _, Le.refl _, rd, cap, bs, Fk, hS.head hcr (by rw [hln]; exact upd_same _ _ _) (fun z o hz hzp => (upd_ne _ _ hzp).trans hz)⟩

end Go.Proofs.Ytcjdkfhmlnfedaa.HL
end
section
namespace Go.Proofs.Ytcjdkfhmlnfedaa.HL
open Go Go.Proofs
set_option linter.unusedSimpArgs false
set_option linter.unusedVariables false
attribute [local irreducible] Lt Lq CW OW TW CallH

set_option maxRecDepth 100000 in
set_option maxHeartbeats 1000000 in
theorem down_ok (H : Hp) (p : Nat) (s : St) (rd cap : Nat) (bs : List Nat) (Fs : Nat → Hp) (h : SX H p s rd cap bs Fs) : CallH Try.prog 52 #[(.pointer (some ⟨p, 0, none⟩))] H (fun v H' => v = .bool s.gone ∧ H' = H) := by
  refine CallH_enter (l := [_]) (rl := [.tmp 2]) (n := 12) Try.func52 rfl rfl rfl rfl rfl ?_
  simp only [envOf, Nat.reduceAdd]
  have hhd := h.hd
  refine CW_seq (fun K1 hK1 => ?_)
  refine CW_region ?_
  refine OW_as rfl ?_
  refine OW_nil ?_
  try simp only [Ex.thnH, Ex.inBlockH, ↓reduceIte, Nat.reduceEqDiff]
  refine hK1 _ _ ?_; try clear hK1 K1
  refine CW_seq (fun K2 hK2 => ?_)
  refine CW_region ?_
  refine OW_mv rfl ?_
  refine OW_opS (fun K hK r => ?_)
  simp only [x_bin, g_int, g_bool, g_string, g_pointer, g_slice, g_map, g_func, g_nilFunc, g_iface, g_nil_iface, g_nil_r, g_nil_l, eX, ↓reduceIte, Nat.reduceEqDiff, Int.reduceToNat]
  rw [e_eql _ _ _ _ (by simp)]
  rw [q_equal]
  first | rw [q_ptr_nil _ _ _ Try.underlying31] | rw [q_nil_ptr _ _ _ Try.underlying31]
  try simp only [eX, ↓reduceIte, Nat.reduceEqDiff, Int.reduceToNat]
  refine hK _ _ ?_; clear hK K
  refine OW_mv rfl ?_
  (first | refine OW_split (d := 5) rfl (fun g5 => ?_) (fun g5 => ?_) | skip)
  all_goals try (exfalso; exact cnA g5)
  all_goals (try simp only [decide_eq_true_eq, decide_eq_false_iff_not, Bool.not_eq_true, Bool.not_eq_false, Bool.and_eq_true, Bool.or_eq_true, Bool.or_eq_false_iff, Bool.not_eq_true, Bool.not_eq_eq_eq_not, Bool.not_true, Bool.not_false] at g5)
  all_goals
    try simp only [eX, ↓reduceIte, Nat.reduceEqDiff, Int.reduceToNat]
    first
    | refine OW_guardT rfl (lt_some (by decide)) rfl (fun K hK r => ?_)
      simp only [x_move, eX, ↓reduceIte, Nat.reduceEqDiff, Int.reduceToNat]
      refine hK _ _ ?_; clear hK K
    | refine OW_guardF rfl (lt_some (by decide)) rfl ?_
      simp only [eX, ↓reduceIte, Nat.reduceEqDiff, Int.reduceToNat]
    first
    | refine OW_guardT rfl (lt_some (by decide)) rfl (fun K hK r => ?_)
      rw [x_nilCheck _ _ rfl]
      simp only [eX, ↓reduceIte, Nat.reduceEqDiff, Int.reduceToNat]
      refine hK _ _ ?_; clear hK K
    | refine OW_guardF rfl (lt_some (by decide)) rfl ?_
      simp only [eX, ↓reduceIte, Nat.reduceEqDiff, Int.reduceToNat]
    first
    | refine OW_guardT rfl (lt_some (by decide)) rfl (fun K hK r => ?_)
      simp only [x_fieldAddr, fa78_0, add_mk, Nat.reduceAdd, Nat.zero_add, eX, ↓reduceIte, Nat.reduceEqDiff, Int.reduceToNat]
      refine hK _ _ ?_; clear hK K
    | refine OW_guardF rfl (lt_some (by decide)) rfl ?_
      simp only [eX, ↓reduceIte, Nat.reduceEqDiff, Int.reduceToNat]
    first
    | refine OW_guardT rfl (lt_some (by decide)) rfl (fun K hK r => ?_)
      simp only [x_fieldAddr, fa75_3, add_mk, Nat.reduceAdd, Nat.zero_add, eX, ↓reduceIte, Nat.reduceEqDiff, Int.reduceToNat]
      refine hK _ _ ?_; clear hK K
    | refine OW_guardF rfl (lt_some (by decide)) rfl ?_
      simp only [eX, ↓reduceIte, Nat.reduceEqDiff, Int.reduceToNat]
    first
    | refine OW_guardT rfl (lt_some (by decide)) rfl (fun K hK r => ?_)
      simp only [x_load, eX, ↓reduceIte, Nat.reduceEqDiff, Int.reduceToNat]
      refine Lt_loadAt1 Try.underlying4 rfl hbA ldA ?_
      try simp only [eX, ↓reduceIte, Nat.reduceEqDiff, Int.reduceToNat]
      refine hK _ _ ?_; clear hK K
    | refine OW_guardF rfl (lt_some (by decide)) rfl ?_
      simp only [eX, ↓reduceIte, Nat.reduceEqDiff, Int.reduceToNat]
    refine OW_opS (fun K hK r => ?_)
    simp only [x_pick, l_asBool, HL.ite_bool, if_true, if_false, Bool.false_eq_true, eX, ↓reduceIte, Nat.reduceEqDiff, Int.reduceToNat]
    refine hK _ _ ?_; clear hK K
    refine OW_as rfl ?_
    refine OW_nil ?_
    try simp only [Ex.thnH, Ex.inBlockH, ↓reduceIte, Nat.reduceEqDiff]
    refine hK2 _ _ ?_; try clear hK2 K2
    refine CW_ret ?_
    try simp only [Ex.thnH, Ex.inBlockH, ↓reduceIte, Nat.reduceEqDiff]
    first | exact ⟨[_], ⟨rfl, trivial⟩, _, Le.refl _, rfl, rfl⟩ | (exfalso; simp_all; done)

set_option maxRecDepth 100000 in
set_option maxHeartbeats 1000000 in
theorem arm_ok (H : Hp) (p : Nat) (s : St) (rd cap : Nat) (bs : List Nat) (Fs : Nat → Hp) (h : SX H p s rd cap bs Fs) (n : Int) : CallH Try.prog 20 #[(.pointer (some ⟨p, 0, none⟩)), .int .i64 n] H (fun v H' => v = errV (if n < 0 then some 1 else none) ∧ SetX H' p (if n < 0 then s else { s with armed := true, left := n })) := by
  refine CallH_enter (l := [_, _]) (rl := [.tmp 4]) (n := 22) Try.func20 rfl rfl rfl rfl rfl ?_
  simp only [envOf, Nat.reduceAdd]
  have hhd := h.hd
  refine CW_seq (fun K1 hK1 => ?_)
  refine CW_region ?_
  refine OW_as rfl ?_
  refine OW_nil ?_
  try simp only [Ex.thnH, Ex.inBlockH, ↓reduceIte, Nat.reduceEqDiff]
  refine hK1 _ _ ?_; try clear hK1 K1
  refine CW_seq (fun K2 hK2 => ?_)
  refine CW_block ?_
  refine CW_seq (fun K3 hK3 => ?_)
  refine CW_region ?_
  refine OW_mv rfl ?_
  refine OW_opS (fun K hK r => ?_)
  simp only [x_bin, g_int, g_bool, g_string, g_pointer, g_slice, g_map, g_func, g_nilFunc, g_iface, g_nil_iface, g_nil_r, g_nil_l, eX, ↓reduceIte, Nat.reduceEqDiff, Int.reduceToNat]
  rw [e_eql _ _ _ _ (by simp)]
  rw [q_equal]
  first | rw [q_ptr_nil _ _ _ Try.underlying31] | rw [q_nil_ptr _ _ _ Try.underlying31]
  try simp only [eX, ↓reduceIte, Nat.reduceEqDiff, Int.reduceToNat]
  refine hK _ _ ?_; clear hK K
  refine OW_as rfl ?_
  refine OW_nil ?_
  try simp only [Ex.thnH, Ex.inBlockH, ↓reduceIte, Nat.reduceEqDiff]
  refine hK3 _ _ ?_; try clear hK3 K3
  refine CW_cond (fun r => rfl) (fun c5 => ?_) (fun c5 => ?_)
  · first
    | (exfalso; exact cnA c5; done)
    | skip
      (try simp only [decide_eq_true_eq, decide_eq_false_iff_not, Bool.not_eq_true, Bool.not_eq_false, Bool.and_eq_true, Bool.or_eq_true, Bool.or_eq_false_iff, Bool.not_eq_true, Bool.not_eq_eq_eq_not, Bool.not_true, Bool.not_false] at c5)
      refine CW_seq (fun K4 hK4 => ?_)
      refine CW_region ?_
      refine OW_opS (fun K hK r => ?_)
      simp only [x_makeInterface, i_makeInterface, Try.underlying73, orF_some, eX, ↓reduceIte, Nat.reduceEqDiff, Int.reduceToNat]
      refine hK _ _ ?_; clear hK K
      refine OW_as rfl ?_
      refine OW_nil ?_
      try simp only [Ex.thnH, Ex.inBlockH, ↓reduceIte, Nat.reduceEqDiff]
      refine hK4 _ _ ?_; try clear hK4 K4
      refine CW_ret ?_
      try simp only [Ex.thnH, Ex.inBlockH, ↓reduceIte, Nat.reduceEqDiff]
      skip
  · first
    | (exfalso; exact cnA c5; done)
    | skip
      (try simp only [decide_eq_true_eq, decide_eq_false_iff_not, Bool.not_eq_true, Bool.not_eq_false, Bool.and_eq_true, Bool.or_eq_true, Bool.or_eq_false_iff, Bool.not_eq_true, Bool.not_eq_eq_eq_not, Bool.not_true, Bool.not_false] at c5)
      refine CW_seq (fun K5 hK5 => ?_)
      refine CW_region ?_
      refine OW_mv rfl ?_
      refine OW_opS (fun K hK r => ?_)
      simp (disch := (first | omega | decide)) only [x_bin, g_int, b_lss, dec_lt_t, dec_lt_f, dec_le_t, dec_le_f, dec_eq_t, dec_eq_f, Bool.not_true, Bool.not_false, eX, ↓reduceIte, Nat.reduceEqDiff, Int.reduceToNat]
      refine hK _ _ ?_; clear hK K
      refine OW_as rfl ?_
      refine OW_nil ?_
      try simp only [Ex.thnH, Ex.inBlockH, ↓reduceIte, Nat.reduceEqDiff]
      refine hK5 _ _ ?_; try clear hK5 K5
      refine CW_cond (fun r => rfl) (fun c9 => ?_) (fun c9 => ?_)
      · first
        | (exfalso; exact cnA c9; done)
        | skip
          (try simp only [decide_eq_true_eq, decide_eq_false_iff_not, Bool.not_eq_true, Bool.not_eq_false, Bool.and_eq_true, Bool.or_eq_true, Bool.or_eq_false_iff, Bool.not_eq_true, Bool.not_eq_eq_eq_not, Bool.not_true, Bool.not_false] at c9)
          refine CW_seq (fun K6 hK6 => ?_)
          refine CW_region ?_
          refine OW_opS (fun K hK r => ?_)
          simp only [x_makeInterface, i_makeInterface, Try.underlying73, orF_some, eX, ↓reduceIte, Nat.reduceEqDiff, Int.reduceToNat]
          refine hK _ _ ?_; clear hK K
          refine OW_as rfl ?_
          refine OW_nil ?_
          try simp only [Ex.thnH, Ex.inBlockH, ↓reduceIte, Nat.reduceEqDiff]
          refine hK6 _ _ ?_; try clear hK6 K6
          refine CW_ret ?_
          try simp only [Ex.thnH, Ex.inBlockH, ↓reduceIte, Nat.reduceEqDiff]
          refine ⟨[_], ⟨rfl, trivial⟩, _, Le.refl _, ?_, ?_⟩
          · rw [if_pos (by omega)]; rfl
          · rw [if_pos (by omega)]; exact ⟨rd, cap, bs, Fs, h⟩
      · first
        | (exfalso; exact cnA c9; done)
        | skip
          (try simp only [decide_eq_true_eq, decide_eq_false_iff_not, Bool.not_eq_true, Bool.not_eq_false, Bool.and_eq_true, Bool.or_eq_true, Bool.or_eq_false_iff, Bool.not_eq_true, Bool.not_eq_eq_eq_not, Bool.not_true, Bool.not_false] at c9)
          refine CW_skip ?_
          try simp only [Ex.thnH, Ex.inBlockH, ↓reduceIte, Nat.reduceEqDiff]
          refine hK2 _ _ ?_; try clear hK2 K2
          refine CW_seq (fun K7 hK7 => ?_)
          refine CW_region ?_
          refine OW_mv rfl ?_
          refine OW_mv rfl ?_
          refine OW_mv rfl ?_
          refine OW_opS (fun K hK r => ?_)
          rw [x_nilCheck _ _ rfl]
          simp only [eX, ↓reduceIte, Nat.reduceEqDiff, Int.reduceToNat]
          refine hK _ _ ?_; clear hK K
          refine OW_opS (fun K hK r => ?_)
          simp only [x_fieldAddr, fa78_0, add_mk, Nat.reduceAdd, Nat.zero_add, eX, ↓reduceIte, Nat.reduceEqDiff, Int.reduceToNat]
          refine hK _ _ ?_; clear hK K
          refine OW_opS (fun K hK r => ?_)
          simp only [x_fieldAddr, fa75_2, add_mk, Nat.reduceAdd, Nat.zero_add, eX, ↓reduceIte, Nat.reduceEqDiff, Int.reduceToNat]
          refine hK _ _ ?_; clear hK K
          refine OW_op rfl (lt_none) (fun K hK r => ?_)
          simp only [x_store, eX, ↓reduceIte, Nat.reduceEqDiff, Int.reduceToNat]
          refine Lt_storeAt1 sz4 hbA bdA plA fzA ?_
          try simp only [setL0, setL1, setL2, setL3, setL4, setL5, setL6, setL7, setL8, setL9]
          try simp only [eX, ↓reduceIte, Nat.reduceEqDiff, Int.reduceToNat]
          refine hK _ _ ?_; clear hK K
          refine OW_opS (fun K hK r => ?_)
          rw [x_nilCheck _ _ rfl]
          simp only [eX, ↓reduceIte, Nat.reduceEqDiff, Int.reduceToNat]
          refine hK _ _ ?_; clear hK K
          refine OW_opS (fun K hK r => ?_)
          simp only [x_fieldAddr, fa78_0, add_mk, Nat.reduceAdd, Nat.zero_add, eX, ↓reduceIte, Nat.reduceEqDiff, Int.reduceToNat]
          refine hK _ _ ?_; clear hK K
          refine OW_opS (fun K hK r => ?_)
          simp only [x_fieldAddr, fa75_1, add_mk, Nat.reduceAdd, Nat.zero_add, eX, ↓reduceIte, Nat.reduceEqDiff, Int.reduceToNat]
          refine hK _ _ ?_; clear hK K
          refine OW_op rfl (lt_none) (fun K hK r => ?_)
          simp only [x_store, eX, ↓reduceIte, Nat.reduceEqDiff, Int.reduceToNat]
          refine Lt_storeAt1 sz3 hbA bdA plA fzA ?_
          try simp only [setL0, setL1, setL2, setL3, setL4, setL5, setL6, setL7, setL8, setL9]
          try simp only [eX, ↓reduceIte, Nat.reduceEqDiff, Int.reduceToNat]
          refine hK _ _ ?_; clear hK K
          refine OW_nil ?_
          try simp only [Ex.thnH, Ex.inBlockH, ↓reduceIte, Nat.reduceEqDiff]
          refine hK7 _ _ ?_; try clear hK7 K7
          refine CW_seq (fun K8 hK8 => ?_)
          refine CW_region ?_
          refine OW_as rfl ?_
          refine OW_nil ?_
          try simp only [Ex.thnH, Ex.inBlockH, ↓reduceIte, Nat.reduceEqDiff]
          refine hK8 _ _ ?_; try clear hK8 K8
          refine CW_ret ?_
          try simp only [Ex.thnH, Ex.inBlockH, ↓reduceIte, Nat.reduceEqDiff]
          refine ⟨[_], ⟨rfl, trivial⟩, _, Le.refl _, ?_, ?_⟩
          · rw [if_neg (by omega)]; rfl
          · rw [if_neg (by omega)]; exact ⟨rd, cap, bs, Fs, h.head rfl (upd_same _ _ _) (fun z o hz hzp => (upd_ne _ _ hzp).trans hz)⟩

set_option maxRecDepth 100000 in
set_option maxHeartbeats 1000000 in
theorem size_in (H : Hp) (p : Nat) (s : St) (rd cap : Nat) (bs : List Nat) (Fs : Nat → Hp) (h : SX H p s rd cap bs Fs) (hl : s.dv.length ≤ 1000) (dev : Int) (hin : 0 ≤ dev ∧ dev < s.dv.length) : CallH Try.prog 31 #[(.pointer (some ⟨p, 0, none⟩)), .int .i64 dev] H (fun v H' => v = .int .i64 (s.dv.getD dev.toNat default).size ∧ H' = H) := by
  refine CallH_enter (l := [_, _]) (rl := [.tmp 4]) (n := 15) Try.func31 rfl rfl rfl rfl rfl ?_
  simp only [envOf, Nat.reduceAdd]
  have hk : dev.toNat < s.dv.length := by omega
  obtain ⟨mb, es, c, wv, wrs, hb0, hm0, hms, how, hbm, hwb, hwm⟩ := (h.dev dev.toNat hk).facts
  obtain ⟨wa, wcp, rfl⟩ := how.holds.form
  have kb := h.le dev.toNat hk _ _ hb0
  refine CW_seq (fun K1 hK1 => ?_)
  refine CW_region ?_
  refine OW_as rfl ?_
  refine OW_nil ?_
  try simp only [Ex.thnH, Ex.inBlockH, ↓reduceIte, Nat.reduceEqDiff]
  refine hK1 _ _ ?_; try clear hK1 K1
  refine CW_seq (fun K2 hK2 => ?_)
  refine CW_seq (fun K3 hK3 => ?_)
  refine CW_region ?_
  refine OW_mv rfl ?_
  refine OW_mv rfl ?_
  refine OW_opS (fun K hK r => ?_)
  simp only [x_callF _ bd46, List.map_toArray, List.map_cons, List.map_nil, eX, ↓reduceIte, Nat.reduceEqDiff, Int.reduceToNat]
  refine (device_ok _ p s rd cap bs Fs h dev hl).mono ?_
  rintro v H' ⟨rfl, rfl⟩
  rw [show devV s bs dev = ptrV (bs.getD dev.toNat 0) from if_pos hin]
  simp only [ptrV]
  try simp only [eX, ↓reduceIte, Nat.reduceEqDiff, Int.reduceToNat]
  refine hK _ _ ?_; clear hK K
  refine OW_as rfl ?_
  refine OW_nil ?_
  try simp only [Ex.thnH, Ex.inBlockH, ↓reduceIte, Nat.reduceEqDiff]
  refine hK3 _ _ ?_; try clear hK3 K3
  refine CW_seq (fun K4 hK4 => ?_)
  refine CW_region ?_
  refine OW_mv rfl ?_
  refine OW_opS (fun K hK r => ?_)
  simp only [x_bin, g_int, g_bool, g_string, g_pointer, g_slice, g_map, g_func, g_nilFunc, g_iface, g_nil_iface, g_nil_r, g_nil_l, eX, ↓reduceIte, Nat.reduceEqDiff, Int.reduceToNat]
  rw [e_neq _ _ _ _ (by simp)]
  rw [q_equal]
  first | rw [q_ptr_nil _ _ _ Try.underlying79] | rw [q_nil_ptr _ _ _ Try.underlying79]
  try simp only [eX, ↓reduceIte, Nat.reduceEqDiff, Int.reduceToNat]
  refine hK _ _ ?_; clear hK K
  refine OW_nil ?_
  try simp only [Ex.thnH, Ex.inBlockH, ↓reduceIte, Nat.reduceEqDiff]
  refine hK4 _ _ ?_; try clear hK4 K4
  refine CW_cond (fun r => rfl) (fun c10 => ?_) (fun c10 => ?_)
  · first
    | (exfalso; exact cnA c10; done)
    | skip
      (try simp only [decide_eq_true_eq, decide_eq_false_iff_not, Bool.not_eq_true, Bool.not_eq_false, Bool.and_eq_true, Bool.or_eq_true, Bool.or_eq_false_iff, Bool.not_eq_true, Bool.not_eq_eq_eq_not, Bool.not_true, Bool.not_false] at c10)
      refine CW_seq (fun K5 hK5 => ?_)
      refine CW_region ?_
      refine OW_mv rfl ?_
      refine OW_opS (fun K hK r => ?_)
      rw [x_nilCheck _ _ rfl]
      simp only [eX, ↓reduceIte, Nat.reduceEqDiff, Int.reduceToNat]
      refine hK _ _ ?_; clear hK K
      refine OW_opS (fun K hK r => ?_)
      simp only [x_fieldAddr, fa83_0, add_mk, Nat.reduceAdd, Nat.zero_add, eX, ↓reduceIte, Nat.reduceEqDiff, Int.reduceToNat]
      refine hK _ _ ?_; clear hK K
      refine OW_opS (fun K hK r => ?_)
      simp only [x_load, eX, ↓reduceIte, Nat.reduceEqDiff, Int.reduceToNat]
      refine Lt_loadAt1 Try.underlying3 rfl hbA ldA ?_
      try simp only [eX, ↓reduceIte, Nat.reduceEqDiff, Int.reduceToNat]
      refine hK _ _ ?_; clear hK K
      refine OW_as rfl ?_
      refine OW_nil ?_
      try simp only [Ex.thnH, Ex.inBlockH, ↓reduceIte, Nat.reduceEqDiff]
      refine hK5 _ _ ?_; try clear hK5 K5
      refine CW_ret ?_
      try simp only [Ex.thnH, Ex.inBlockH, ↓reduceIte, Nat.reduceEqDiff]
      exact ⟨[_], ⟨rfl, trivial⟩, _, Le.refl _, rfl, rfl⟩
  · first
    | (exfalso; exact cnA c10; done)
    | skip
      (try simp only [decide_eq_true_eq, decide_eq_false_iff_not, Bool.not_eq_true, Bool.not_eq_false, Bool.and_eq_true, Bool.or_eq_true, Bool.or_eq_false_iff, Bool.not_eq_true, Bool.not_eq_eq_eq_not, Bool.not_true, Bool.not_false] at c10)
      refine CW_skip ?_
      try simp only [Ex.thnH, Ex.inBlockH, ↓reduceIte, Nat.reduceEqDiff]
      refine hK2 _ _ ?_; try clear hK2 K2
      refine CW_seq (fun K6 hK6 => ?_)
      refine CW_region ?_
      refine OW_as rfl ?_
      refine OW_nil ?_
      try simp only [Ex.thnH, Ex.inBlockH, ↓reduceIte, Nat.reduceEqDiff]
      refine hK6 _ _ ?_; try clear hK6 K6
      refine CW_ret ?_
      try simp only [Ex.thnH, Ex.inBlockH, ↓reduceIte, Nat.reduceEqDiff]
      skip

set_option maxRecDepth 100000 in
set_option maxHeartbeats 1000000 in
theorem size_out (H : Hp) (p : Nat) (s : St) (rd cap : Nat) (bs : List Nat) (Fs : Nat → Hp) (h : SX H p s rd cap bs Fs) (hl : s.dv.length ≤ 1000) (dev : Int) (hno : ¬ (0 ≤ dev ∧ dev < s.dv.length)) : CallH Try.prog 31 #[(.pointer (some ⟨p, 0, none⟩)), .int .i64 dev] H (fun v H' => v = .int .i64 0 ∧ H' = H) := by
  refine CallH_enter (l := [_, _]) (rl := [.tmp 4]) (n := 15) Try.func31 rfl rfl rfl rfl rfl ?_
  simp only [envOf, Nat.reduceAdd]
  refine CW_seq (fun K1 hK1 => ?_)
  refine CW_region ?_
  refine OW_as rfl ?_
  refine OW_nil ?_
  try simp only [Ex.thnH, Ex.inBlockH, ↓reduceIte, Nat.reduceEqDiff]
  refine hK1 _ _ ?_; try clear hK1 K1
  refine CW_seq (fun K2 hK2 => ?_)
  refine CW_seq (fun K3 hK3 => ?_)
  refine CW_region ?_
  refine OW_mv rfl ?_
  refine OW_mv rfl ?_
  refine OW_opS (fun K hK r => ?_)
  simp only [x_callF _ bd46, List.map_toArray, List.map_cons, List.map_nil, eX, ↓reduceIte, Nat.reduceEqDiff, Int.reduceToNat]
  refine (device_ok _ p s rd cap bs Fs h dev hl).mono ?_
  rintro v H' ⟨rfl, rfl⟩
  rw [show devV s bs dev = .pointer none from if_neg hno]
  try simp only [eX, ↓reduceIte, Nat.reduceEqDiff, Int.reduceToNat]
  refine hK _ _ ?_; clear hK K
  refine OW_as rfl ?_
  refine OW_nil ?_
  try simp only [Ex.thnH, Ex.inBlockH, ↓reduceIte, Nat.reduceEqDiff]
  refine hK3 _ _ ?_; try clear hK3 K3
  refine CW_seq (fun K4 hK4 => ?_)
  refine CW_region ?_
  refine OW_mv rfl ?_
  refine OW_opS (fun K hK r => ?_)
  simp only [x_bin, g_int, g_bool, g_string, g_pointer, g_slice, g_map, g_func, g_nilFunc, g_iface, g_nil_iface, g_nil_r, g_nil_l, eX, ↓reduceIte, Nat.reduceEqDiff, Int.reduceToNat]
  rw [e_neq _ _ _ _ (by simp)]
  rw [q_equal]
  first | rw [q_ptr_nil _ _ _ Try.underlying79] | rw [q_nil_ptr _ _ _ Try.underlying79]
  try simp only [eX, ↓reduceIte, Nat.reduceEqDiff, Int.reduceToNat]
  refine hK _ _ ?_; clear hK K
  refine OW_nil ?_
  try simp only [Ex.thnH, Ex.inBlockH, ↓reduceIte, Nat.reduceEqDiff]
  refine hK4 _ _ ?_; try clear hK4 K4
  refine CW_cond (fun r => rfl) (fun c10 => ?_) (fun c10 => ?_)
  · first
    | (exfalso; exact cnA c10; done)
    | skip
      (try simp only [decide_eq_true_eq, decide_eq_false_iff_not, Bool.not_eq_true, Bool.not_eq_false, Bool.and_eq_true, Bool.or_eq_true, Bool.or_eq_false_iff, Bool.not_eq_true, Bool.not_eq_eq_eq_not, Bool.not_true, Bool.not_false] at c10)
      refine CW_seq (fun K5 hK5 => ?_)
      refine CW_region ?_
      refine OW_mv rfl ?_
      refine OW_opS (fun K hK r => ?_)
      rw [x_nilCheck _ _ rfl]
      simp only [eX, ↓reduceIte, Nat.reduceEqDiff, Int.reduceToNat]
      refine hK _ _ ?_; clear hK K
      refine OW_opS (fun K hK r => ?_)
      simp only [x_fieldAddr, fa83_0, add_mk, Nat.reduceAdd, Nat.zero_add, eX, ↓reduceIte, Nat.reduceEqDiff, Int.reduceToNat]
      refine hK _ _ ?_; clear hK K
      refine OW_opS (fun K hK r => ?_)
      simp only [x_load, eX, ↓reduceIte, Nat.reduceEqDiff, Int.reduceToNat]
      refine Lt_loadAt1 Try.underlying3 rfl hbA ldA ?_
      try simp only [eX, ↓reduceIte, Nat.reduceEqDiff, Int.reduceToNat]
      refine hK _ _ ?_; clear hK K
      refine OW_as rfl ?_
      refine OW_nil ?_
      try simp only [Ex.thnH, Ex.inBlockH, ↓reduceIte, Nat.reduceEqDiff]
      refine hK5 _ _ ?_; try clear hK5 K5
      refine CW_ret ?_
      try simp only [Ex.thnH, Ex.inBlockH, ↓reduceIte, Nat.reduceEqDiff]
      skip
  · first
    | (exfalso; exact cnA c10; done)
    | skip
      (try simp only [decide_eq_true_eq, decide_eq_false_iff_not, Bool.not_eq_true, Bool.not_eq_false, Bool.and_eq_true, Bool.or_eq_true, Bool.or_eq_false_iff, Bool.not_eq_true, Bool.not_eq_eq_eq_not, Bool.not_true, Bool.not_false] at c10)
      refine CW_skip ?_
      try simp only [Ex.thnH, Ex.inBlockH, ↓reduceIte, Nat.reduceEqDiff]
      refine hK2 _ _ ?_; try clear hK2 K2
      refine CW_seq (fun K6 hK6 => ?_)
      refine CW_region ?_
      refine OW_as rfl ?_
      refine OW_nil ?_
      try simp only [Ex.thnH, Ex.inBlockH, ↓reduceIte, Nat.reduceEqDiff]
      refine hK6 _ _ ?_; try clear hK6 K6
      refine CW_ret ?_
      try simp only [Ex.thnH, Ex.inBlockH, ↓reduceIte, Nat.reduceEqDiff]
      exact ⟨[_], ⟨rfl, trivial⟩, _, Le.refl _, rfl, rfl⟩

end Go.Proofs.Ytcjdkfhmlnfedaa.HL
end
section
namespace Go.Proofs.Ytcjdkfhmlnfedaa.HL
open Go Go.Proofs
set_option linter.unusedSimpArgs false
set_option linter.unusedVariables false
attribute [local irreducible] Lt Lq CW OW TW CallH


theorem lastW_none {i : Int} : ∀ {ws : List Wt}, (∀ j, j < ws.length → (ws.getD j default).at_ ≠ i) → lastW ws i = none
  | [], _ => rfl
  | w :: r, h => by
    simp only [lastW]
    rw [lastW_none (ws := r) (fun j hj => by simpa using h (j + 1) (by simp; omega))]
    have : w.at_ ≠ i := by simpa using h 0 (by simp)
    simp [this]
theorem lastW_at {i : Int} : ∀ {ws : List Wt} {k : Nat}, k < ws.length → (ws.getD k default).at_ = i → (∀ j, k < j → j < ws.length → (ws.getD j default).at_ ≠ i) → lastW ws i = some (ws.getD k default).x
  | [], _, h, _, _ => absurd h (by simp)
  | w :: r, 0, _, h1, h2 => by
    simp only [lastW]
    rw [lastW_none (ws := r) (fun j hj => by simpa using h2 (j + 1) (by omega) (by simp; omega))]
    have : w.at_ = i := by simpa using h1
    simp [this]
  | w :: r, k + 1, h, h1, h2 => by
    simp only [lastW]
    rw [lastW_at (ws := r) (k := k) (by simpa using h) (by simpa using h1) (fun j hj hjl => by simpa using h2 (j + 1) (by omega) (by simp; omega))]
    simp
def St.rd (s : St) (dev i : Int) : Sec × Option Int := if s.gone = true then (Sec.zero, some 3) else if s.has dev i = true then ((s.dv.getD dev.toNat default).read i, none) else (Sec.zero, some 1)
def St.su (s : St) (dev i : Int) : Sec := if 0 ≤ dev ∧ dev < s.dv.length then (s.dv.getD dev.toNat default).sure i else Sec.zero
abbrev TBack (ws : List Wt) : Nat → List Value → Hp → Prop := Tpure (fun i => [.int .i64 ((ws.length : Int) - 1 - i), .agg (ws.getD (ws.length - 1 - i) default).c.toArray])

set_option maxRecDepth 100000 in
set_option maxHeartbeats 1000000 in
theorem Backward_ok (H : Hp) (a : Option Addr) (n cap : Nat) : CallH Try.prog 64 #[.slice a n cap] H (fun v' H' => ∃ b1, H b1 = none ∧ v' = .func (.func 68) #[] #[.pointer (some ⟨b1, 0, none⟩)] ∧ H' = H.upd b1 (.cells #[.slice a n cap] 81)) := by
  refine CallH_enter (l := [_]) (rl := [.tmp 2]) (n := 4) Try.func64 rfl rfl rfl rfl rfl ?_
  simp only [envOf, Nat.reduceAdd]
  refine CW_seq (fun K1 hK1 => ?_)
  refine CW_region ?_
  refine OW_opS (fun K hK r => ?_)
  simp only [x_box, Value.cells, eX, ↓reduceIte, Nat.reduceEqDiff, Int.reduceToNat]
  intro b1 hb1
  have f1_H : H b1 = none := none_of_le lhA hb1
  try simp only [eX, ↓reduceIte, Nat.reduceEqDiff, Int.reduceToNat]
  refine hK _ _ ?_; clear hK K
  refine OW_as rfl ?_
  refine OW_nil ?_
  try simp only [Ex.thnH, Ex.inBlockH, ↓reduceIte, Nat.reduceEqDiff]
  refine hK1 _ _ ?_; try clear hK1 K1
  refine CW_seq (fun K2 hK2 => ?_)
  refine CW_region ?_
  refine OW_opS (fun K hK r => ?_)
  simp only [x_makeFunc, List.map_toArray, List.map_cons, List.map_nil, eX, ↓reduceIte, Nat.reduceEqDiff, Int.reduceToNat]
  refine hK _ _ ?_; clear hK K
  refine OW_as rfl ?_
  refine OW_nil ?_
  try simp only [Ex.thnH, Ex.inBlockH, ↓reduceIte, Nat.reduceEqDiff]
  refine hK2 _ _ ?_; try clear hK2 K2
  refine CW_ret ?_
  try simp only [Ex.thnH, Ex.inBlockH, ↓reduceIte, Nat.reduceEqDiff]
  exact ⟨[_], ⟨rfl, trivial⟩, _, Le.refl _, b1, hb1, rfl, rfl⟩

set_option maxRecDepth 100000 in
set_option maxHeartbeats 4000000 in
theorem backward1_ok (H0 : Hp) (b1 : Nat) (a : Option Addr) (cap : Nat) (ws : List Wt) (hv : Holds H0 65 (.slice a ws.length cap) ws.length (wts ws)) (h1 : H0 b1 = some (.cells #[.slice a ws.length cap] 81)) (hl : ws.length ≤ 1000000) (yf : Fn) (ya yb : Array Value) (J : Nat → Hp → Prop) (S : Hp → Prop) (H : Hp) (hle : ∀ i H, J i H → Le H0 H) (hy : ∀ i, i < ws.length → ∀ H, J i H → ∀ args F, TBack ws i args F → H.apart F → ValH Try.prog (.func yf ya yb) args.toArray (H.join F) (fun v H2 => ∃ H3, Le H3 H2 ∧ ((v = .bool true ∧ J (i + 1) H3) ∨ (v = .bool false ∧ S H3)))) (hj : J 0 H) :
  CallH Try.prog 68 #[.func yf ya yb, .pointer (some ⟨b1, 0, none⟩)] H (fun _ H2 => ∃ H3, Le H3 H2 ∧ (J ws.length H3 ∨ S H3)) := by
  refine CallH_enter (l := [_, _]) (rl := []) (n := 19) Try.func68 rfl rfl rfl rfl rfl ?_
  simp only [envOf, Nat.reduceAdd]
  have hk1 := hle 0 H hj _ _ h1
  refine CW_seq (fun K1 hK1 => ?_)
  refine CW_region ?_
  refine OW_opS (fun K hK r => ?_)
  simp only [x_load, eX, ↓reduceIte, Nat.reduceEqDiff, Int.reduceToNat]
  refine Lt_loadAt1 Try.underlying81 rfl hbA ldA ?_
  try simp only [eX, ↓reduceIte, Nat.reduceEqDiff, Int.reduceToNat]
  refine hK _ _ ?_; clear hK K
  refine OW_opS (fun K hK r => ?_)
  simp only [x_builtin, l_len, List.map_toArray, List.map_cons, List.map_nil, i_len_slice _ _ Try.underlying81, eX, ↓reduceIte, Nat.reduceEqDiff, Int.reduceToNat]
  refine hK _ _ ?_; clear hK K
  refine OW_opS (fun K hK r => ?_)
  simp (disch := (first | omega | decide)) only [x_bin, g_int, b_sub, wrap_i64, wrap_u64, wrap_u32, wrap_u8, eX, ↓reduceIte, Nat.reduceEqDiff, Int.reduceToNat]
  refine hK _ _ ?_; clear hK K
  refine OW_as rfl ?_
  refine OW_nil ?_
  try simp only [Ex.thnH, Ex.inBlockH, ↓reduceIte, Nat.reduceEqDiff]
  refine hK1 _ _ ?_; try clear hK1 K1
  refine CW_block ?_
  refine CW_loop (fun m e H_ => ∃ (k : Nat) (HJ : Hp), k ≤ ws.length ∧ m = ws.length - k ∧ J k HJ ∧ Le HJ H_ ∧ Env.has [(0, .func yf ya yb), (1, .pointer (some ⟨b1, 0, none⟩)), (3, .int .i64 ((ws.length : Int) - 1 - k))] e) (ws.length) ?_ ?_
  · skip
    refine ⟨0, H, by omega, by omega, hj, Le.refl _, rfl, rfl, ?_, trivial⟩
    show some (Value.int _ _) = some (Value.int _ _)
    congr 2; omega
  intro m_ e_ H_ hI_
  obtain ⟨k, HJ, hk, rfl, hJ, hlJ, he⟩ := hI_
  have hl0 := Le.trans (hle k HJ hJ) hlJ
  have hk1_ := hl0 _ _ h1
  refine CW_env he.sub ?_; clear he e_
  refine CW_seq (fun K2 hK2 => ?_)
  refine CW_seq (fun K3 hK3 => ?_)
  refine CW_region ?_
  refine OW_mv rfl ?_
  refine OW_opS (fun K hK r => ?_)
  simp (disch := (first | omega | decide)) only [x_bin, g_int, b_geq, dec_lt_t, dec_lt_f, dec_le_t, dec_le_f, dec_eq_t, dec_eq_f, Bool.not_true, Bool.not_false, eX, ↓reduceIte, Nat.reduceEqDiff, Int.reduceToNat]
  refine hK _ _ ?_; clear hK K
  refine OW_nil ?_
  try simp only [Ex.thnH, Ex.inBlockH, ↓reduceIte, Nat.reduceEqDiff]
  refine hK3 _ _ ?_; try clear hK3 K3
  refine CW_cond (fun r => rfl) (fun c8 => ?_) (fun c8 => ?_)
  · first
    | (exfalso; exact cnA c8; done)
    | skip
      (try simp only [decide_eq_true_eq, decide_eq_false_iff_not, Bool.not_eq_true, Bool.not_eq_false, Bool.and_eq_true, Bool.or_eq_true, Bool.or_eq_false_iff, Bool.not_eq_true, Bool.not_eq_eq_eq_not, Bool.not_true, Bool.not_false] at c8)
      have hkN : k < ws.length := by omega
      obtain ⟨bw, ow, cw, Tw, Fw, ew, hbw, hsw, atw⟩ := (hv.le hl0).at (by omega)
      refine CW_skip ?_
      try simp only [Ex.thnH, Ex.inBlockH, ↓reduceIte, Nat.reduceEqDiff]
      refine hK2 _ _ ?_; try clear hK2 K2
      refine CW_seq (fun K4 hK4 => ?_)
      refine CW_block ?_
      refine CW_seq (fun K5 hK5 => ?_)
      refine CW_region ?_
      refine OW_mv rfl ?_
      refine OW_mv rfl ?_
      refine OW_opS (fun K hK r => ?_)
      simp only [x_load, eX, ↓reduceIte, Nat.reduceEqDiff, Int.reduceToNat]
      refine Lt_loadAt1 Try.underlying81 rfl hbA ldA ?_
      try simp only [eX, ↓reduceIte, Nat.reduceEqDiff, Int.reduceToNat]
      refine hK _ _ ?_; clear hK K
      refine OW_mv rfl ?_
      refine OW_opS (fun K hK r => ?_)
      simp only [x_indexAddr, eX, ↓reduceIte, Nat.reduceEqDiff, Int.reduceToNat]
      refine Lt_indexSof Try.underlying81 sz120 ew ixA ixA ?_
      rw [show ((ws.length : Int) - 1 - k).toNat = ws.length - 1 - k from by omega]
      refine hK _ _ ?_; clear hK K
      refine OW_opS (fun K hK r => ?_)
      simp only [x_load, eX, ↓reduceIte, Nat.reduceEqDiff, Int.reduceToNat]
      refine Lt_loadAtA Try.underlying120 rfl sz120 hbw (by have := Nat.mul_le_mul_right 65 (show ws.length - 1 - k + 1 ≤ ws.length by omega); omega) ?_
      rw [ext_at Wt.len atw rfl (ws.length - 1 - k) (by omega) hsw]
      refine hK _ _ ?_; clear hK K
      refine OW_opS (fun K hK r => ?_)
      simp only [x_call, List.map_toArray, List.map_cons, List.map_nil, eX, ↓reduceIte, Nat.reduceEqDiff, Int.reduceToNat]
      show ValH _ _ _ _ _
      refine (Iter.yield0 (hy k hkN HJ hJ _ emptyHp ⟨rfl, rfl⟩ (apart_empty _)) hlJ).mono ?_
      rintro v17 H17 ⟨t, H3, rfl, hl3, hyes, hno, _⟩
      try simp only [eX, ↓reduceIte, Nat.reduceEqDiff, Int.reduceToNat]
      refine hK _ _ ?_; clear hK K
      refine OW_opS (fun K hK r => ?_)
      simp only [x_un, u_not, eX, ↓reduceIte, Nat.reduceEqDiff, Int.reduceToNat]
      refine hK _ _ ?_; clear hK K
      refine OW_nil ?_
      try simp only [Ex.thnH, Ex.inBlockH, ↓reduceIte, Nat.reduceEqDiff]
      refine hK5 _ _ ?_; try clear hK5 K5
      refine CW_cond (fun r => rfl) (fun c18 => ?_) (fun c18 => ?_)
      · first
        | (exfalso; exact cnA c18; done)
        | skip
          have q18 := c18
          refine CW_ret ?_
          try simp only [Ex.thnH, Ex.inBlockH, ↓reduceIte, Nat.reduceEqDiff]
          exact ⟨[], trivial, _, Le.refl _, H3, hl3, .inr (hno (by simpa using q18))⟩
      · first
        | (exfalso; exact cnA c18; done)
        | skip
          have ht : t = true := by simpa using c18
          have hJ3 := hyes ht
          refine CW_skip ?_
          try simp only [Ex.thnH, Ex.inBlockH, ↓reduceIte, Nat.reduceEqDiff]
          refine hK4 _ _ ?_; try clear hK4 K4
          refine CW_region ?_
          refine OW_mv rfl ?_
          refine OW_opS (fun K hK r => ?_)
          simp (disch := (first | omega | decide)) only [x_bin, g_int, b_sub, wrap_i64, wrap_u64, wrap_u32, wrap_u8, eX, ↓reduceIte, Nat.reduceEqDiff, Int.reduceToNat]
          refine hK _ _ ?_; clear hK K
          refine OW_as rfl ?_
          refine OW_nil ?_
          try simp only [Ex.thnH, Ex.inBlockH, ↓reduceIte, Nat.reduceEqDiff]
          refine ⟨ws.length - (k + 1), by omega, k + 1, H3, by omega, rfl, hJ3, hl3, rfl, rfl, ?_, trivial⟩
          show some (Value.int _ _) = some (Value.int _ _)
          congr 2; omega
  · first
    | (exfalso; exact cnA c8; done)
    | skip
      (try simp only [decide_eq_true_eq, decide_eq_false_iff_not, Bool.not_eq_true, Bool.not_eq_false, Bool.and_eq_true, Bool.or_eq_true, Bool.or_eq_false_iff, Bool.not_eq_true, Bool.not_eq_eq_eq_not, Bool.not_true, Bool.not_false] at c8)
      have hkN : k = ws.length := by omega
      refine CW_exit ?_
      try simp only [Ex.thnH, Ex.inBlockH, ↓reduceIte, Nat.reduceEqDiff]
      subst hkN
      exact ⟨[], trivial, _, Le.refl _, HJ, hlJ, .inl hJ⟩


theorem iter_back (H0 : Hp) (b1 : Nat) (a : Option Addr) (cap : Nat) (ws : List Wt) (hv : Holds H0 65 (.slice a ws.length cap) ws.length (wts ws)) (h1 : H0 b1 = some (.cells #[.slice a ws.length cap] 81)) (hl : ws.length ≤ 1000000) : Iter Try.prog (.func (.func 68) #[] #[.pointer (some ⟨b1, 0, none⟩)]) H0 ws.length (TBack ws) :=
  fun yf ya yb J S H hle hy hj => ValH_func bd68 (backward1_ok H0 b1 a cap ws hv h1 hl yf ya yb J S H hle hy hj)

set_option maxRecDepth 100000 in
set_option maxHeartbeats 8000000 in
theorem read_ok (H : Hp) (p : Nat) (s : St) (rd cap : Nat) (bs : List Nat) (Fs : Nat → Hp) (h : SX H p s rd cap bs Fs) (hl : s.dv.length ≤ 1000) (hw : ∀ i, (s.dv.getD i default).wait.length ≤ 1000000) (dev i : Int) : CallH Try.prog 54 #[(.pointer (some ⟨p, 0, none⟩)), .int .i64 dev, .int .i64 i] H (fun v H' => v = .tuple #[(s.rd dev i).1.v, errV (s.rd dev i).2] ∧ H' = H) := by
  refine CallH_enter (l := [_, _, _]) (rl := [.cell 6 45, .cell 7 33]) (n := 45) Try.func54 rfl rfl rfl rfl rfl ?_
  simp only [envOf, Nat.reduceAdd]
  refine CW_seq (fun K1 hK1 => ?_)
  refine CW_region ?_
  refine OW_opS (fun K hK r => ?_)
  simp only [x_box, Value.cells, eX, ↓reduceIte, Nat.reduceEqDiff, Int.reduceToNat]
  intro b5 hb5
  have f5_H : H b5 = none := none_of_le lhA hb5
  try simp only [eX, ↓reduceIte, Nat.reduceEqDiff, Int.reduceToNat]
  refine hK _ _ ?_; clear hK K
  refine OW_opS (fun K hK r => ?_)
  simp only [x_alloc, zr45, orF_some, Value.cells, eX, ↓reduceIte, Nat.reduceEqDiff, Int.reduceToNat]
  intro b6 hb6
  try have n6_b5 : b5 ≠ b6 := ne_of_none hbA hb6
  have f6_H : H b6 = none := none_of_le lhA hb6
  try simp only [eX, ↓reduceIte, Nat.reduceEqDiff, Int.reduceToNat]
  refine hK _ _ ?_; clear hK K
  refine OW_opS (fun K hK r => ?_)
  simp only [x_alloc, zr33, orF_some, Value.cells, eX, ↓reduceIte, Nat.reduceEqDiff, Int.reduceToNat]
  intro b7 hb7
  try have n7_b5 : b5 ≠ b7 := ne_of_none hbA hb7
  try have n7_b6 : b6 ≠ b7 := ne_of_none hbA hb7
  have f7_H : H b7 = none := none_of_le lhA hb7
  try simp only [eX, ↓reduceIte, Nat.reduceEqDiff, Int.reduceToNat]
  refine hK _ _ ?_; clear hK K
  refine OW_nil ?_
  try simp only [Ex.thnH, Ex.inBlockH, ↓reduceIte, Nat.reduceEqDiff]
  refine hK1 _ _ ?_; try clear hK1 K1
  refine CW_seq (fun K2 hK2 => ?_)
  refine CW_region ?_
  refine OW_mv rfl ?_
  refine OW_mv rfl ?_
  refine OW_opS (fun K hK r => ?_)
  simp only [x_callF _ bd46, List.map_toArray, List.map_cons, List.map_nil, eX, ↓reduceIte, Nat.reduceEqDiff, Int.reduceToNat]
  refine (device_ok _ p s rd cap bs Fs (h.mono lhA) dev hl).mono ?_
  rintro v H' ⟨rfl, rfl⟩
  try simp only [eX, ↓reduceIte, Nat.reduceEqDiff, Int.reduceToNat]
  refine hK _ _ ?_; clear hK K
  refine OW_as rfl ?_
  refine OW_nil ?_
  try simp only [Ex.thnH, Ex.inBlockH, ↓reduceIte, Nat.reduceEqDiff]
  refine hK2 _ _ ?_; try clear hK2 K2
  refine CW_seq (fun K3 hK3 => ?_)
  refine CW_block ?_
  refine CW_seq (fun K4 hK4 => ?_)
  refine CW_region ?_
  refine OW_mv rfl ?_
  refine OW_opS (fun K hK r => ?_)
  simp only [x_callF _ bd52, List.map_toArray, List.map_cons, List.map_nil, eX, ↓reduceIte, Nat.reduceEqDiff, Int.reduceToNat]
  refine (down_ok _ p s rd cap bs Fs (h.mono lhA)).mono ?_
  rintro v H' ⟨rfl, rfl⟩
  try simp only [eX, ↓reduceIte, Nat.reduceEqDiff, Int.reduceToNat]
  refine hK _ _ ?_; clear hK K
  refine OW_as rfl ?_
  refine OW_nil ?_
  try simp only [Ex.thnH, Ex.inBlockH, ↓reduceIte, Nat.reduceEqDiff]
  refine hK4 _ _ ?_; try clear hK4 K4
  refine CW_cond (fun r => rfl) (fun c14 => ?_) (fun c14 => ?_)
  · first
    | (exfalso; exact cnA c14; done)
    | skip
      have hgo : s.gone = true := c14
      refine CW_seq (fun K5 hK5 => ?_)
      refine CW_region ?_
      refine OW_opS (fun K hK r => ?_)
      simp only [x_build, List.map_toArray, List.map_cons, List.map_nil, eX, ↓reduceIte, Nat.reduceEqDiff, Int.reduceToNat]
      rw [l_buildArr Try.underlying45 sz5 zr45]
      simp only [Value.cells]
      simp only [fill_nil, orF_some, List.setIfInBounds_toArray, List.set_cons_zero, List.set_cons_succ]
      try simp only [eX, ↓reduceIte, Nat.reduceEqDiff, Int.reduceToNat]
      refine hK _ _ ?_; clear hK K
      refine OW_opS (fun K hK r => ?_)
      simp only [x_makeInterface, i_makeInterface, Try.underlying73, orF_some, eX, ↓reduceIte, Nat.reduceEqDiff, Int.reduceToNat]
      refine hK _ _ ?_; clear hK K
      refine OW_op rfl (lt_none) (fun K hK r => ?_)
      simp only [x_store, eX, ↓reduceIte, Nat.reduceEqDiff, Int.reduceToNat]
      first | refine Lt_storeAll sz45 bdA hbA bdA plA (by decide) ?_ | refine Lt_storeAtA sz45 bdA hbA bdA plA (by decide) ?_
      try simp only [eX, ↓reduceIte, Nat.reduceEqDiff, Int.reduceToNat]
      refine hK _ _ ?_; clear hK K
      refine OW_op rfl (lt_none) (fun K hK r => ?_)
      simp only [x_store, eX, ↓reduceIte, Nat.reduceEqDiff, Int.reduceToNat]
      refine Lt_storeAt1 sz33 hbA bdA plA fzA ?_
      try simp only [setL0, setL1, setL2, setL3, setL4, setL5, setL6, setL7, setL8, setL9]
      try simp only [eX, ↓reduceIte, Nat.reduceEqDiff, Int.reduceToNat]
      refine hK _ _ ?_; clear hK K
      refine OW_nil ?_
      try simp only [Ex.thnH, Ex.inBlockH, ↓reduceIte, Nat.reduceEqDiff]
      refine hK5 _ _ ?_; try clear hK5 K5
      refine CW_ret ?_
      try simp only [Ex.thnH, Ex.inBlockH, ↓reduceIte, Nat.reduceEqDiff]
      refine ⟨[_, _], ⟨⟨_, rfl, Lq_loadAll Try.underlying45 rfl sz45 hbA (by simp [Sec.h])⟩, ⟨_, rfl, Lq_load1 Try.underlying33 rfl hbA ldA⟩, trivial⟩, H, lhA, ?_, rfl⟩
      show Value.tuple _ = _
      unfold St.rd; rw [if_pos hgo]; rfl
  · first
    | (exfalso; exact cnA c14; done)
    | skip
      have hgo : s.gone = false := by simpa using c14
      refine CW_seq (fun K6 hK6 => ?_)
      refine CW_region ?_
      refine OW_mv rfl ?_
      refine OW_opS (fun K hK r => ?_)
      simp only [x_load, eX, ↓reduceIte, Nat.reduceEqDiff, Int.reduceToNat]
      refine Lt_loadAt1 Try.underlying3 rfl hbA ldA ?_
      try simp only [eX, ↓reduceIte, Nat.reduceEqDiff, Int.reduceToNat]
      refine hK _ _ ?_; clear hK K
      refine OW_opS (fun K hK r => ?_)
      simp only [x_callF _ bd47, List.map_toArray, List.map_cons, List.map_nil, eX, ↓reduceIte, Nat.reduceEqDiff, Int.reduceToNat]
      refine (has_dev _ p s rd cap bs Fs (h.mono lhA) dev i).mono ?_
      rintro v H' ⟨rfl, rfl⟩
      try simp only [eX, ↓reduceIte, Nat.reduceEqDiff, Int.reduceToNat]
      refine hK _ _ ?_; clear hK K
      refine OW_opS (fun K hK r => ?_)
      simp only [x_un, u_not, eX, ↓reduceIte, Nat.reduceEqDiff, Int.reduceToNat]
      refine hK _ _ ?_; clear hK K
      refine OW_as rfl ?_
      refine OW_nil ?_
      try simp only [Ex.thnH, Ex.inBlockH, ↓reduceIte, Nat.reduceEqDiff]
      refine hK6 _ _ ?_; try clear hK6 K6
      refine CW_cond (fun r => rfl) (fun c19 => ?_) (fun c19 => ?_)
      · first
        | (exfalso; exact cnA c19; done)
        | skip
          (try simp only [decide_eq_true_eq, decide_eq_false_iff_not, Bool.not_eq_true, Bool.not_eq_false, Bool.and_eq_true, Bool.or_eq_true, Bool.or_eq_false_iff, Bool.not_eq_true, Bool.not_eq_eq_eq_not, Bool.not_true, Bool.not_false] at c19)
          have hno : s.has dev i = false := by simpa using c19
          refine CW_seq (fun K7 hK7 => ?_)
          refine CW_region ?_
          refine OW_opS (fun K hK r => ?_)
          simp only [x_build, List.map_toArray, List.map_cons, List.map_nil, eX, ↓reduceIte, Nat.reduceEqDiff, Int.reduceToNat]
          rw [l_buildArr Try.underlying45 sz5 zr45]
          simp only [Value.cells]
          simp only [fill_nil, orF_some, List.setIfInBounds_toArray, List.set_cons_zero, List.set_cons_succ]
          try simp only [eX, ↓reduceIte, Nat.reduceEqDiff, Int.reduceToNat]
          refine hK _ _ ?_; clear hK K
          refine OW_opS (fun K hK r => ?_)
          simp only [x_makeInterface, i_makeInterface, Try.underlying73, orF_some, eX, ↓reduceIte, Nat.reduceEqDiff, Int.reduceToNat]
          refine hK _ _ ?_; clear hK K
          refine OW_op rfl (lt_none) (fun K hK r => ?_)
          simp only [x_store, eX, ↓reduceIte, Nat.reduceEqDiff, Int.reduceToNat]
          first | refine Lt_storeAll sz45 bdA hbA bdA plA (by decide) ?_ | refine Lt_storeAtA sz45 bdA hbA bdA plA (by decide) ?_
          try simp only [eX, ↓reduceIte, Nat.reduceEqDiff, Int.reduceToNat]
          refine hK _ _ ?_; clear hK K
          refine OW_op rfl (lt_none) (fun K hK r => ?_)
          simp only [x_store, eX, ↓reduceIte, Nat.reduceEqDiff, Int.reduceToNat]
          refine Lt_storeAt1 sz33 hbA bdA plA fzA ?_
          try simp only [setL0, setL1, setL2, setL3, setL4, setL5, setL6, setL7, setL8, setL9]
          try simp only [eX, ↓reduceIte, Nat.reduceEqDiff, Int.reduceToNat]
          refine hK _ _ ?_; clear hK K
          refine OW_nil ?_
          try simp only [Ex.thnH, Ex.inBlockH, ↓reduceIte, Nat.reduceEqDiff]
          refine hK7 _ _ ?_; try clear hK7 K7
          refine CW_ret ?_
          try simp only [Ex.thnH, Ex.inBlockH, ↓reduceIte, Nat.reduceEqDiff]
          refine ⟨[_, _], ⟨⟨_, rfl, Lq_loadAll Try.underlying45 rfl sz45 hbA (by simp [Sec.h])⟩, ⟨_, rfl, Lq_load1 Try.underlying33 rfl hbA ldA⟩, trivial⟩, H, lhA, ?_, rfl⟩
          show Value.tuple _ = _
          unfold St.rd; rw [if_neg (by rw [hgo]; simp), if_neg (by rw [hno]; simp)]; rfl
      · first
        | (exfalso; exact cnA c19; done)
        | skip
          (try simp only [decide_eq_true_eq, decide_eq_false_iff_not, Bool.not_eq_true, Bool.not_eq_false, Bool.and_eq_true, Bool.or_eq_true, Bool.or_eq_false_iff, Bool.not_eq_true, Bool.not_eq_eq_eq_not, Bool.not_true, Bool.not_false] at c19)
          have hyes : s.has dev i = true := by simpa using c19
          have hin : 0 ≤ dev ∧ dev < s.dv.length := by unfold St.has at hyes; simp at hyes; omega
          have hk : dev.toNat < s.dv.length := by omega
          have hdv : devV s bs dev = ptrV (bs.getD dev.toNat 0) := by unfold devV; rw [if_pos hin]
          simp only [hdv]
          have hwl := hw dev.toNat
          obtain ⟨b, hbd⟩ : ∃ b, b = bs.getD dev.toNat 0 := ⟨_, rfl⟩
          obtain ⟨d, hd0⟩ : ∃ d, d = s.dv.getD dev.toNat default := ⟨_, rfl⟩
          have hrd : s.rd dev i = (d.read i, none) := by unfold St.rd; rw [if_neg (by rw [hgo]; simp), if_pos hyes, hd0]
          rw [← hd0] at hwl
          simp only [← hbd]
          obtain ⟨mb, es, c, wv, wrs, hb0, hm0, hms, how, hbm, hwb, hwm⟩ := (hd0 ▸ hbd ▸ h.dev dev.toNat hk : DvX (Fs dev.toNat) b d).facts
          obtain ⟨wa, wcp, rfl⟩ := how.holds.form
          have hleF := h.le dev.toNat hk
          have kb := hleF _ _ hb0
          have km := hleF _ _ hm0
          have nb5 : b ≠ b5 := ne_of_none kb f5_H
          have nb6 : b ≠ b6 := ne_of_none kb f6_H
          have nb7 : b ≠ b7 := ne_of_none kb f7_H
          simp only [ptrV]
          refine CW_skip ?_
          try simp only [Ex.thnH, Ex.inBlockH, ↓reduceIte, Nat.reduceEqDiff]
          refine hK3 _ _ ?_; try clear hK3 K3
          refine CW_seq (fun K8 hK8 => ?_)
          refine CW_seq (fun K9 hK9 => ?_)
          refine CW_region ?_
          refine OW_mv rfl ?_
          refine OW_opS (fun K hK r => ?_)
          rw [x_nilCheck _ _ rfl]
          simp only [eX, ↓reduceIte, Nat.reduceEqDiff, Int.reduceToNat]
          refine hK _ _ ?_; clear hK K
          refine OW_opS (fun K hK r => ?_)
          simp only [x_fieldAddr, fa83_2, add_mk, Nat.reduceAdd, Nat.zero_add, eX, ↓reduceIte, Nat.reduceEqDiff, Int.reduceToNat]
          refine hK _ _ ?_; clear hK K
          refine OW_opS (fun K hK r => ?_)
          simp only [x_load, eX, ↓reduceIte, Nat.reduceEqDiff, Int.reduceToNat]
          refine Lt_loadAt1 Try.underlying81 rfl hbA ldA ?_
          try simp only [eX, ↓reduceIte, Nat.reduceEqDiff, Int.reduceToNat]
          refine hK _ _ ?_; clear hK K
          refine OW_opS (fun K hK r => ?_)
          simp only [x_callF _ bd64, List.map_toArray, List.map_cons, List.map_nil, eX, ↓reduceIte, Nat.reduceEqDiff, Int.reduceToNat]
          refine (Backward_ok _ wa d.wait.length wcp).mono ?_
          rintro v30 H30 ⟨b30, hb30, rfl, hH30⟩
          have f30 : H b30 = none := none_of_le lhA hb30
          have l30 : Le H H30 := by rw [hH30]; exact le_upd_of lhA f30
          have k30 : H30 b30 = some (.cells #[.slice wa d.wait.length wcp] 81) := by rw [hH30]; exact upd_same _ _ _
          have k5 : H30 b5 = some (.cells #[.int .i64 i] 3) := by rw [hH30]; exact (upd_ne _ _ (ne_of_none hbA hb30)).trans hbA
          have k6 : H30 b6 = some (.cells (Array.replicate 64 (.int .u8 0)) 45) := by rw [hH30]; exact (upd_ne _ _ (ne_of_none hbA hb30)).trans hbA
          have k7 : H30 b7 = some (.cells #[.nilIface] 33) := by rw [hH30]; exact (upd_ne _ _ (ne_of_none hbA hb30)).trans hbA
          try simp only [eX, ↓reduceIte, Nat.reduceEqDiff, Int.reduceToNat]
          refine hK _ _ ?_; clear hK K
          refine OW_nil ?_
          try simp only [Ex.thnH, Ex.inBlockH, ↓reduceIte, Nat.reduceEqDiff]
          refine hK9 _ _ ?_; try clear hK9 K9
          refine CW_block ?_
          refine CW_rangeFunc (fun r => rfl) (iter_back H30 b30 wa wcp d.wait (how.holds.le (Le.trans hleF l30)) k30 hwl) (fun j H_ => Le H30 H_ ∧ ∀ t, t < j → (d.wait.getD (d.wait.length - 1 - t) default).at_ ≠ i) ?_ ?_ (by decide) ?_ ?_
          · skip
            exact fun j H_ hj => hj.1
          · skip
            exact ⟨Le.refl _, fun t ht => absurd ht (by omega)⟩
          · intro l_ i_ hi_ H_ hI_ args_ F_ hT_ hF_
            obtain ⟨hl_, hno_⟩ := hI_
            obtain ⟨rfl, rfl⟩ := hT_
            rw [join_empty]
            have hlH := Le.trans l30 hl_
            have q5 := hl_ _ _ k5
            have q6 := hl_ _ _ k6
            have q7 := hl_ _ _ k7
            refine ⟨rfl, ?_⟩
            simp only [putAll, List.zip_cons_cons, List.zip_nil_right, List.zip_nil_left, eX, ↓reduceIte, Nat.reduceEqDiff, Int.reduceToNat]
            refine CW_region ?_
            refine OW_opS (fun K hK r => ?_)
            simp only [x_alloc, zr120, orF_some, Value.cells, eX, ↓reduceIte, Nat.reduceEqDiff, Int.reduceToNat]
            intro b10 hb10
            try have n10_b5 : b5 ≠ b10 := ne_of_none hbA hb10
            try have n10_b6 : b6 ≠ b10 := ne_of_none hbA hb10
            try have n10_b7 : b7 ≠ b10 := ne_of_none hbA hb10
            have f10_H : H b10 = none := none_of_le lhA hb10
            try simp only [eX, ↓reduceIte, Nat.reduceEqDiff, Int.reduceToNat]
            refine hK _ _ ?_; clear hK K
            refine OW_op rfl (lt_none) (fun K hK r => ?_)
            simp only [x_store, eX, ↓reduceIte, Nat.reduceEqDiff, Int.reduceToNat]
            refine Lt_storeAll sz120 (by simp [Sec.h]) hbA (by simp [Sec.h]) (Wt.plain _) (by decide) ?_
            refine hK _ _ ?_; clear hK K
            refine OW_nil ?_
            try simp only [Ex.thnH, Ex.inBlockH, ↓reduceIte, Nat.reduceEqDiff]
            first | refine ⟨rfl, ?_⟩ | refine ⟨trivial, ?_⟩
            refine CW_block ?_
            refine CW_seq (fun K10 hK10 => ?_)
            refine CW_region ?_
            refine OW_opS (fun K hK r => ?_)
            simp only [x_fieldAddr, fa120_0, add_mk, Nat.reduceAdd, Nat.zero_add, eX, ↓reduceIte, Nat.reduceEqDiff, Int.reduceToNat]
            refine hK _ _ ?_; clear hK K
            refine OW_opS (fun K hK r => ?_)
            simp only [x_load, eX, ↓reduceIte, Nat.reduceEqDiff, Int.reduceToNat]
            refine Lt_loadAt1 Try.underlying3 rfl hbA (wt_at (d.wait.getD (d.wait.length - 1 - i_) default)) ?_
            refine hK _ _ ?_; clear hK K
            refine OW_opS (fun K hK r => ?_)
            simp only [x_load, eX, ↓reduceIte, Nat.reduceEqDiff, Int.reduceToNat]
            refine Lt_loadAt1 Try.underlying3 rfl hbA ldA ?_
            try simp only [eX, ↓reduceIte, Nat.reduceEqDiff, Int.reduceToNat]
            refine hK _ _ ?_; clear hK K
            refine OW_opS (fun K hK r => ?_)
            simp (disch := (first | omega | decide)) only [x_bin, g_int, b_eql, dec_lt_t, dec_lt_f, dec_le_t, dec_le_f, dec_eq_t, dec_eq_f, Bool.not_true, Bool.not_false, eX, ↓reduceIte, Nat.reduceEqDiff, Int.reduceToNat]
            refine hK _ _ ?_; clear hK K
            refine OW_nil ?_
            try simp only [Ex.thnH, Ex.inBlockH, ↓reduceIte, Nat.reduceEqDiff]
            refine hK10 _ _ ?_; try clear hK10 K10
            refine CW_cond (fun r => rfl) (fun c36 => ?_) (fun c36 => ?_)
            · first
              | (exfalso; exact cnA c36; done)
              | skip
                (try simp only [decide_eq_true_eq, decide_eq_false_iff_not, Bool.not_eq_true, Bool.not_eq_false, Bool.and_eq_true, Bool.or_eq_true, Bool.or_eq_false_iff, Bool.not_eq_true, Bool.not_eq_eq_eq_not, Bool.not_true, Bool.not_false] at c36)
                refine CW_seq (fun K11 hK11 => ?_)
                refine CW_region ?_
                refine OW_opS (fun K hK r => ?_)
                simp only [x_fieldAddr, fa120_1, add_mk, Nat.reduceAdd, Nat.zero_add, eX, ↓reduceIte, Nat.reduceEqDiff, Int.reduceToNat]
                refine hK _ _ ?_; clear hK K
                refine OW_opS (fun K hK r => ?_)
                simp only [x_load, eX, ↓reduceIte, Nat.reduceEqDiff, Int.reduceToNat]
                refine Lt_loadAtA Try.underlying45 rfl sz45 hbA (by simp [Sec.h]) ?_
                rw [wt_x]
                refine hK _ _ ?_; clear hK K
                refine OW_op rfl (lt_none) (fun K hK r => ?_)
                simp only [x_store, eX, ↓reduceIte, Nat.reduceEqDiff, Int.reduceToNat]
                refine Lt_storeAll sz45 (by simp [Sec.h]) hbA (by simp [Sec.h]) (PlainL.ints _ _) (by decide) ?_
                refine hK _ _ ?_; clear hK K
                refine OW_op rfl (lt_none) (fun K hK r => ?_)
                simp only [x_store, eX, ↓reduceIte, Nat.reduceEqDiff, Int.reduceToNat]
                refine Lt_storeAt1 sz33 hbA bdA plA fzA ?_
                try simp only [setL0, setL1, setL2, setL3, setL4, setL5, setL6, setL7, setL8, setL9]
                try simp only [eX, ↓reduceIte, Nat.reduceEqDiff, Int.reduceToNat]
                refine hK _ _ ?_; clear hK K
                refine OW_nil ?_
                try simp only [Ex.thnH, Ex.inBlockH, ↓reduceIte, Nat.reduceEqDiff]
                refine hK11 _ _ ?_; try clear hK11 K11
                refine CW_ret ?_
                try simp only [Ex.thnH, Ex.inBlockH, ↓reduceIte, Nat.reduceEqDiff]
                refine ⟨[_, _], ⟨⟨_, rfl, Lq_loadAll Try.underlying45 rfl sz45 hbA (by simp [Sec.h])⟩, ⟨_, rfl, Lq_load1 Try.underlying33 rfl hbA ldA⟩, trivial⟩, H, lhA, ?_, rfl⟩
                show Value.tuple _ = _
                rw [hrd]
                unfold Dv.read
                rw [lastW_at (k := d.wait.length - 1 - i_) (by omega) c36 (fun j hj hjl => by have := hno_ (d.wait.length - 1 - j) (by omega); rwa [show d.wait.length - 1 - (d.wait.length - 1 - j) = j from by omega] at this)]
                rfl
            · first
              | (exfalso; exact cnA c36; done)
              | skip
                (try simp only [decide_eq_true_eq, decide_eq_false_iff_not, Bool.not_eq_true, Bool.not_eq_false, Bool.and_eq_true, Bool.or_eq_true, Bool.or_eq_false_iff, Bool.not_eq_true, Bool.not_eq_eq_eq_not, Bool.not_true, Bool.not_false] at c36)
                refine CW_skip ?_
                try simp only [Ex.thnH, Ex.inBlockH, ↓reduceIte, Nat.reduceEqDiff]
                refine ⟨le_upd_of hl_ (none_of_le hl_ hb10), fun t ht => ?_⟩
                by_cases e : t = i_
                · subst e; exact c36
                · exact hno_ t (by omega)
          intro H_ hI_
          obtain ⟨hl_, hno_⟩ := hI_
          have hlH := Le.trans l30 hl_
          have q5 := hl_ _ _ k5
          have q6 := hl_ _ _ k6
          have q7 := hl_ _ _ k7
          have qb := hlH _ _ kb
          have qm := hlH _ _ km
          try simp only [Ex.thnH, Ex.inBlockH, ↓reduceIte, Nat.reduceEqDiff]
          refine hK8 _ _ ?_; try clear hK8 K8
          refine CW_seq (fun K12 hK12 => ?_)
          refine CW_drawE [0, 0, 0, 1, 1, 1, 3, 3] [0, 1, 2, 3, 4, 5, 6, 7] (by kernel_rfl) (by kernel_rfl) (fun R10 hR10 => ?_)
          apply TW_pure rfl (lt_some (by decide)) rfl
          · intro r
            simp only [x_move, eX, ↓reduceIte, Nat.reduceEqDiff]
            exact ⟨rfl, Le.refl _⟩
          simp only [eX, ↓reduceIte, Nat.reduceEqDiff, Int.reduceToNat]
          apply TW_pure rfl (lt_some (by decide)) rfl
          · intro r
            rw [x_nilCheck _ _ rfl]
            exact ⟨rfl, Le.refl _⟩
          simp only [eX, ↓reduceIte, Nat.reduceEqDiff, Int.reduceToNat]
          apply TW_pure rfl (lt_some (by decide)) rfl
          · intro r
            simp only [x_fieldAddr, fa83_1, add_mk, Nat.reduceAdd, Nat.zero_add, eX, ↓reduceIte, Nat.reduceEqDiff]
            exact ⟨rfl, Le.refl _⟩
          simp only [eX, ↓reduceIte, Nat.reduceEqDiff, Int.reduceToNat]
          apply TW_look rfl (lt_some (by decide)) rfl
          · intro r
            simp only [x_load, eX, ↓reduceIte, Nat.reduceEqDiff]
            refine Lt_loadAt1 Try.underlying80 rfl hbA ldA ?_
            exact ⟨rfl, Le.refl _⟩
          simp only [eX, ↓reduceIte, Nat.reduceEqDiff, Int.reduceToNat]
          apply TW_look rfl (lt_some (by decide)) rfl
          · intro r
            simp only [x_load, eX, ↓reduceIte, Nat.reduceEqDiff]
            refine Lt_loadAt1 Try.underlying3 rfl hbA ldA ?_
            exact ⟨rfl, Le.refl _⟩
          simp only [eX, ↓reduceIte, Nat.reduceEqDiff, Int.reduceToNat]
          apply TW_look rfl (lt_some (by decide)) rfl
          · intro r
            simp only [x_lookup, eX, ↓reduceIte, Nat.reduceEqDiff]
            refine Lt_lookup Try.underlying80 Try.underlying3 zr45 hbA hms.1 ?_
            rw [hms.2]
            exact ⟨rfl, Le.refl _⟩
          simp only [eX, ↓reduceIte, Nat.reduceEqDiff, Int.reduceToNat]
          refine TW_last rfl (lt_none) rfl (fun K hK r => ?_)
          simp only [x_store, eX, ↓reduceIte, Nat.reduceEqDiff, Int.reduceToNat]
          refine Lt_storeAll sz45 (by simp [Sec.h]) hbA (by simp [Sec.h]) (PlainL.ints _ _) (by decide) ?_
          refine hK _ _ ?_; clear hK K
          refine TW_last rfl (lt_none) rfl (fun K hK r => ?_)
          simp only [x_store, eX, ↓reduceIte, Nat.reduceEqDiff, Int.reduceToNat]
          refine Lt_storeAt1 sz33 hbA bdA plA fzA ?_
          try simp only [setL0, setL1, setL2, setL3, setL4, setL5, setL6, setL7, setL8, setL9]
          try simp only [eX, ↓reduceIte, Nat.reduceEqDiff, Int.reduceToNat]
          refine hK _ _ ?_; clear hK K
          refine TW_nil ?_
          try simp only [Ex.thnH, Ex.inBlockH, ↓reduceIte, Nat.reduceEqDiff]
          refine hK12 _ _ ?_; try clear hK12 K12
          refine CW_ret ?_
          try simp only [Ex.thnH, Ex.inBlockH, ↓reduceIte, Nat.reduceEqDiff]
          refine ⟨[_, _], ⟨⟨_, rfl, Lq_loadAll Try.underlying45 rfl sz45 hbA (by simp [Sec.h])⟩, ⟨_, rfl, Lq_load1 Try.underlying33 rfl hbA ldA⟩, trivial⟩, H, lhA, ?_, rfl⟩
          show Value.tuple _ = _
          rw [hrd]
          unfold Dv.read
          rw [lastW_none (fun j hj => by have := hno_ (d.wait.length - 1 - j) (by omega); rwa [show d.wait.length - 1 - (d.wait.length - 1 - j) = j from by omega] at this)]
          rfl

end Go.Proofs.Ytcjdkfhmlnfedaa.HL
end
section
namespace Go.Proofs.Ytcjdkfhmlnfedaa.HL
open Go Go.Proofs
set_option linter.unusedSimpArgs false
set_option linter.unusedVariables false
attribute [local irreducible] Lt Lq CW OW TW CallH



/-- a set cut out of its heap -/

def SetF (F : Hp) (p : Nat) (s : St) : Prop := SetX F p s

theorem DvX.own {F : Hp} {b : Nat} {d : Dv} (h : DvX F b d) : F b ≠ none := by obtain ⟨m, wv, e⟩ := h.blk; rw [e]; simp

theorem SX.cut {F : Hp} {p : Nat} {s : St} {r cap : Nat} {bs : List Nat} {Fs : Nat → Hp} (h : SX F p s r cap bs Fs) : ∃ F', Le F' F ∧ SX F' p s r cap bs Fs ∧ ∀ x, F' x ≠ none → x = p ∨ x = r ∨ ∃ i, i < s.dv.length ∧ Fs i x ≠ none := by
  classical
  refine ⟨fun x => if x = p ∨ x = r ∨ ∃ i, i < s.dv.length ∧ Fs i x ≠ none then F x else none, fun x o hx => ?_, ⟨by simpa using h.hd, h.len, ?_, h.dev, fun i hi x o hx => ?_, h.fp, h.sep⟩, fun x hx => ?_⟩
  · by_cases hc : x = p ∨ x = r ∨ ∃ i, i < s.dv.length ∧ Fs i x ≠ none
    · simpa only [if_pos hc] using hx
    · simp only [if_neg hc] at hx; cases hx
  · exact h.own.stay (fun b o hb ho => by cases hb; simpa using ho)
  · have hc : x = p ∨ x = r ∨ ∃ i, i < s.dv.length ∧ Fs i x ≠ none := .inr (.inr ⟨i, hi, by rw [hx]; simp⟩)
    simp only [if_pos hc]; exact h.le i hi x o hx
  · by_cases hc : x = p ∨ x = r ∨ ∃ i, i < s.dv.length ∧ Fs i x ≠ none
    · exact hc
    · simp only [if_neg hc] at hx; exact absurd rfl hx

end Go.Proofs.Ytcjdkfhmlnfedaa.HL
end
