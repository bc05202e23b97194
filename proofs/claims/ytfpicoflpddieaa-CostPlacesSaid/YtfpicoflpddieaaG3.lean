/-
  CostPlaces: where any transaction is logged, by any policy, and which policies are good.
-/
import Derived.Test.YtfpicoflpddieaaC27
import Derived.Test.YtfpicoflpddieaaHLFrame
import Derived.Test.YtfpicoflpddieaaRows
import Derived.WalkKit
import Derived.ProofKit
import Derived.OpenShut
import Derived.KernelRfl
namespace Go.Proofs.Ytfpicoflpddieaa.costPlaces
open Go Go.Proofs.Ytfpicoflpddieaa.HL Go.Proofs Go.RowKit Go.ChangeShapes Go.WideShapes Go.ChangeAt
set_option linter.unusedVariables false

theorem fl23 {H : Type} {enc : TypeId × Value → H} {w : World} {base : Nat} {spare : Nat → Bool} {held : Bool} {fuel : Nat} {cs : List Value} {x : DataW H × List MemPlace} (h : DataW.trod enc Try.prog w base spare held fuel 23 cs = some x) : ∃ (z0 : Int) (z1 : Int) (z2 : Int) (z3 : Int) (z4 : Int), cs = [.int .i64 z0, .int .i64 z1, .int .i64 z2, .int .i64 z3, .int .i64 z4] ∧ (-9223372036854775808 ≤ z0 ∧ z0 ≤ 9223372036854775807) ∧ (-9223372036854775808 ≤ z1 ∧ z1 ≤ 9223372036854775807) ∧ (-9223372036854775808 ≤ z2 ∧ z2 ≤ 9223372036854775807) ∧ (-9223372036854775808 ≤ z3 ∧ z3 ≤ 9223372036854775807) ∧ (-9223372036854775808 ≤ z4 ∧ z4 ≤ 9223372036854775807) := by
  have hl := struct_len Try.underlying23 h
  rw [show Try.prog.cellsOf 23 = 5 from by kernel_rfl] at hl
  obtain ⟨_, _, h_0⟩ := field_cells Try.underlying23 h 0 rfl (o := 0) (n := 1) rfl (by kernel_rfl)
  obtain ⟨z0, g0, w0⟩ := int_cell Try.underlying3 h_0
  obtain ⟨_, _, h_1⟩ := field_cells Try.underlying23 h 1 rfl (o := 1) (n := 1) rfl (by kernel_rfl)
  obtain ⟨z1, g1, w1⟩ := int_cell Try.underlying3 h_1
  obtain ⟨_, _, h_2⟩ := field_cells Try.underlying23 h 2 rfl (o := 2) (n := 1) rfl (by kernel_rfl)
  obtain ⟨z2, g2, w2⟩ := int_cell Try.underlying3 h_2
  obtain ⟨_, _, h_3⟩ := field_cells Try.underlying23 h 3 rfl (o := 3) (n := 1) rfl (by kernel_rfl)
  obtain ⟨z3, g3, w3⟩ := int_cell Try.underlying3 h_3
  obtain ⟨_, _, h_4⟩ := field_cells Try.underlying23 h 4 rfl (o := 4) (n := 1) rfl (by kernel_rfl)
  obtain ⟨z4, g4, w4⟩ := int_cell Try.underlying3 h_4
  refine ⟨z0, z1, z2, z3, z4, ?_, i64_of_wf w0, i64_of_wf w1, i64_of_wf w2, i64_of_wf w3, i64_of_wf w4⟩
  apply List.ext_getElem?; intro i
  match i with
  | 0 => simpa using g0
  | 1 => simpa using g1
  | 2 => simpa using g2
  | 3 => simpa using g3
  | 4 => simpa using g4
  | i + 5 => rw [List.getElem?_eq_none (by rw [hl]; omega)]; simp

theorem arg23 {H : Type} {enc : TypeId × Value → H} {w : World} {base : Nat} {spare : Nat → Bool} {held : Bool} {r : Reach} {b0 : Nat} {v : Value} {d : DataW H} {ps : List MemPlace} (hval : Value.okWide Try.prog w r b0 23 v) (hd : DataW.Trod enc Try.prog w base spare held 23 v d ps) : ∃ (z0 : Int) (z1 : Int) (z2 : Int) (z3 : Int) (z4 : Int), v = .agg #[.int .i64 z0, .int .i64 z1, .int .i64 z2, .int .i64 z3, .int .i64 z4] ∧ (-9223372036854775808 ≤ z0 ∧ z0 ≤ 9223372036854775807) ∧ (-9223372036854775808 ≤ z1 ∧ z1 ≤ 9223372036854775807) ∧ (-9223372036854775808 ≤ z2 ∧ z2 ≤ 9223372036854775807) ∧ (-9223372036854775808 ≤ z3 ∧ z3 ≤ 9223372036854775807) ∧ (-9223372036854775808 ≤ z4 ∧ z4 ≤ 9223372036854775807) := by
  obtain ⟨fuel, hf⟩ := hd
  obtain ⟨z0, z1, z2, z3, z4, hc, hr⟩ := fl23 hf
  exact ⟨z0, z1, z2, z3, z4, by rw [val_of_agg (.inl ⟨_, Try.underlying23⟩) hval, cells_of_list hc], hr⟩

theorem fl63 {H : Type} {enc : TypeId × Value → H} {w : World} {base : Nat} {spare : Nat → Bool} {held : Bool} {fuel : Nat} {cs : List Value} {x : DataW H × List MemPlace} (h : DataW.trod enc Try.prog w base spare held fuel 63 cs = some x) : ∃ (z0 : Int) (z1 : Int) (z2 : Int) (z3 : Bool), cs = [.int .i64 z0, .int .i64 z1, .int .i64 z2, .bool z3] ∧ (-9223372036854775808 ≤ z0 ∧ z0 ≤ 9223372036854775807) ∧ (-9223372036854775808 ≤ z1 ∧ z1 ≤ 9223372036854775807) ∧ (-9223372036854775808 ≤ z2 ∧ z2 ≤ 9223372036854775807) := by
  have hl := struct_len Try.underlying63 h
  rw [show Try.prog.cellsOf 63 = 4 from by kernel_rfl] at hl
  obtain ⟨_, _, h_0⟩ := field_cells Try.underlying63 h 0 rfl (o := 0) (n := 2) rfl (by kernel_rfl)
  obtain ⟨_, _, h_0_0⟩ := field_cells Try.underlying61 h_0 0 rfl (o := 0) (n := 1) rfl (by kernel_rfl)
  rw [drop_take_drop (by omega)] at h_0_0
  obtain ⟨z0, g0, w0⟩ := int_cell Try.underlying3 h_0_0
  obtain ⟨_, _, h_0_1⟩ := field_cells Try.underlying61 h_0 1 rfl (o := 1) (n := 1) rfl (by kernel_rfl)
  rw [drop_take_drop (by omega)] at h_0_1
  obtain ⟨z1, g1, w1⟩ := int_cell Try.underlying3 h_0_1
  obtain ⟨_, _, h_1⟩ := field_cells Try.underlying63 h 1 rfl (o := 2) (n := 1) rfl (by kernel_rfl)
  obtain ⟨z2, g2, w2⟩ := int_cell Try.underlying3 h_1
  obtain ⟨_, _, h_2⟩ := field_cells Try.underlying63 h 2 rfl (o := 3) (n := 1) rfl (by kernel_rfl)
  obtain ⟨z3, g3⟩ := bool_cell Try.underlying4 h_2
  refine ⟨z0, z1, z2, z3, ?_, i64_of_wf w0, i64_of_wf w1, i64_of_wf w2⟩
  apply List.ext_getElem?; intro i
  match i with
  | 0 => simpa using g0
  | 1 => simpa using g1
  | 2 => simpa using g2
  | 3 => simpa using g3
  | i + 4 => rw [List.getElem?_eq_none (by rw [hl]; omega)]; simp

theorem arg63 {H : Type} {enc : TypeId × Value → H} {w : World} {base : Nat} {spare : Nat → Bool} {held : Bool} {r : Reach} {b0 : Nat} {v : Value} {d : DataW H} {ps : List MemPlace} (hval : Value.okWide Try.prog w r b0 63 v) (hd : DataW.Trod enc Try.prog w base spare held 63 v d ps) : ∃ (z0 : Int) (z1 : Int) (z2 : Int) (z3 : Bool), v = .agg #[.int .i64 z0, .int .i64 z1, .int .i64 z2, .bool z3] ∧ (-9223372036854775808 ≤ z0 ∧ z0 ≤ 9223372036854775807) ∧ (-9223372036854775808 ≤ z1 ∧ z1 ≤ 9223372036854775807) ∧ (-9223372036854775808 ≤ z2 ∧ z2 ≤ 9223372036854775807) := by
  obtain ⟨fuel, hf⟩ := hd
  obtain ⟨z0, z1, z2, z3, hc, hr⟩ := fl63 hf
  exact ⟨z0, z1, z2, z3, by rw [val_of_agg (.inl ⟨_, Try.underlying63⟩) hval, cells_of_list hc], hr⟩

theorem he63 {H : Type} {enc : TypeId × Value → H} {w : World} {base : Nat} {spare : Nat → Bool} {held : Bool} (n : Nat) (cs : List Value) (x : DataW H × List MemPlace) (h : DataW.trod enc Try.prog w base spare held n 63 cs = some x) : ∃ a : Wr, cs = a.c ∧ a.ok := by
  obtain ⟨z0, z1, z2, z3, hc, r0, r1, r2⟩ := fl63 h
  exact ⟨⟨z0, z1, z2, z3⟩, hc, r0, r1, r2⟩

theorem arg41 {H : Type} {enc : TypeId × Value → H} {w : World} {base : Nat} {spare : Nat → Bool} {held : Bool} {r : Reach} {b0 : Nat} {v : Value} {d : DataW H} {ps : List MemPlace} (hval : Value.okWide Try.prog w r b0 41 v) (hd : DataW.Trod enc Try.prog w base spare held 41 v d ps) : ∃ (vw vr : Value) (ws : List Wr) (rm : List Int), v = .agg #[vw, vr] ∧ Holds (oldH w) 4 vw ws.length (wrs ws) ∧ Holds (oldH w) 1 vr rm.length (i64s rm) ∧ (∀ x ∈ ws, x.ok) ∧ I64L rm := by
  obtain ⟨fuel, hf⟩ := hd
  have hv := val_of_agg (.inl ⟨_, Try.underlying41⟩) hval
  obtain ⟨hl, hi⟩ := open_struct1s Try.underlying41 (by kernel_rfl) (by
    intro i f hif
    match i, hif with
    | 0, hif => cases hif; exact ⟨rfl, by kernel_rfl⟩
    | 1, hif => cases hif; exact ⟨rfl, by kernel_rfl⟩
    | i + 2, hif => simp at hif) hf
  obtain ⟨c0, y0, n0, g0, k0⟩ := hi 0 _ rfl
  obtain ⟨c1, y1, n1, g1, k1⟩ := hi 1 _ rfl
  obtain ⟨a0, l0, p0, L, e0, q0, h0, o0, _⟩ := open_slice_of Wr.c Wr.ok (wd := 4) Try.underlying38 (by kernel_rfl) (by omega) Wr.len he63 k0
  obtain ⟨a1, l1, p1, M, e1, h1, q1, _, o1⟩ := open_ints_slice Try.underlying39 Try.underlying3 (by kernel_rfl) k1
  cases e0; cases e1
  subst q0; subst q1
  refine ⟨_, _, L, M, ?_, h0, h1, o0, fun x hx => i64_of_wf (o1 x hx)⟩
  rw [hv]; congr 1
  apply Array.ext'
  apply List.ext_getElem?
  intro i
  match i with
  | 0 => simpa using g0
  | 1 => simpa using g1
  | i + 2 => rw [List.getElem?_eq_none (by rw [hl]; simp)]; simp

theorem own : ownKnob Try.prog.godebug = none := by kernel_rfl
theorem laidOut : laidOutB Try.prog = true := by kernel_rfl

set_option maxRecDepth 100000 in
theorem lifted (os : Os) (started : os.Started) (H : Type) (enc : TypeId × Value → H) :
    ReturnsInHanded {} Try.checked os 5 .any (Rows.costPlacesSpec.pre6 enc Try.prog Try.f5 Rows.costPlacesRow.domain false) (Rows.costPlacesSpec.post enc Try.prog Try.f5 false true false false) := by
  refine returnsInHanded_of_change (C := Try.checked) own started (by kernel_rfl) Try.func5
    (ChangeSpec.witness6 (enc := enc) (C := Try.checked) false ⟨#[], #[.agg #[.int .i64 0, .int .i64 0, .int .i64 0, .int .i64 0, .int .i64 0], .int .i64 0, .agg #[.slice none 0 0, .slice none 0 0]], []⟩ 8 (by kernel_rfl) (by kernel_rfl) (by kernel_rfl) (by kernel_rfl)) ?_
  intro W base args ds gs before hval0 hW hcnd _
  have hval : ∀ (j : Nat) t v, Try.f5.params[j]? = some t → args[j]? = some v → Value.okWide Try.prog W .any base t v := hval0
  have hW' := hW
  obtain ⟨p, q, hA0, hV, rfl, hfz, hnd⟩ := hW
  have hA : DataW.TrodAll enc Try.prog W 0 (fun _ => true) true Try.f5.params.toList args.toList ds p := hA0
  rw [Try.params5] at hA hval
  obtain ⟨v0, vs0, d0, ds0, p0, q0, hargs, rfl, rfl, k0, r0⟩ := trodAll_cons hA
  obtain ⟨v1, vs1, d1, ds1, p1, q1, rfl, rfl, rfl, k1, r1⟩ := trodAll_cons r0
  obtain ⟨v2, vs2, d2, ds2, p2, q2, rfl, rfl, rfl, k2, r2⟩ := trodAll_cons r1
  obtain ⟨rfl, rfl, rfl⟩ := trodAll_nil r2
  obtain rfl : args = #[v0, v1, v2] := by cases args; simp_all
  obtain ⟨rfl, rfl⟩ := trodVars_none hV
  have lt0 : ∀ x ∈ p0, x.block < W.heap.size := by obtain ⟨m, hm⟩ := k0; exact DataW.trod_lt m _ _ _ hm
  obtain ⟨pb, pc, pf, pw, pp, rfl, ⟨pb1, pb2⟩, ⟨pc1, pc2⟩, ⟨pf1, pf2⟩, ⟨pw1, pw2⟩, ⟨pp1, pp2⟩⟩ := arg23 (hval 0 23 v0 rfl rfl) k0
  have lt1 : ∀ x ∈ p1, x.block < W.heap.size := by obtain ⟨m, hm⟩ := k1; exact DataW.trod_lt m _ _ _ hm
  obtain ⟨seq, rfl, seq1, seq2⟩ := arg_i64 Try.underlying3 (hval 1 3 v1 rfl rfl) k1
  have lt2 : ∀ x ∈ p2, x.block < W.heap.size := by obtain ⟨m, hm⟩ := k2; exact DataW.trod_lt m _ _ _ hm
  obtain ⟨vw, vr, ws, rm, rfl, hw, hr, ow, orm⟩ := arg41 (hval 2 41 v2 rfl rfl) k2
  clear hA0 hval0
  refine (calls_of_old (lawPlaces (oldH W) pb pc pf pw pp seq seq1 seq2 vw vr ws rm hw hr)).mono fun e W' ⟨he, bel⟩ => ?_
  subst he
  exact ⟨_, rfl, _, _, _, [], _, [], hW', trodAll_mk1 (shut_bool Try.underlying4 _), (trodAll_cons_mk (Below.trod laidOut (by kernel_rfl) (of_decide_eq_true (by kernel_rfl)) k0 bel lt0) (trodAll_cons_mk (Below.trod laidOut (by kernel_rfl) (of_decide_eq_true (by kernel_rfl)) k1 bel lt1) (trodAll_cons_mk (Below.trod laidOut (by kernel_rfl) (of_decide_eq_true (by kernel_rfl)) k2 bel lt2) trodAll_mk0))), rfl, bel.frame _, fun h => by cases h⟩

theorem over : Rows.costPlacesRow.holds Try.pinned (OpenSpec.ofChange Rows.costPlacesSpec) :=
  OpenClaim.holds_of_wide 5 Try.f5 rfl rfl rfl rfl rfl rfl rfl ⟨rfl, rfl, rfl, rfl, rfl⟩ rfl rfl rfl rfl rfl (by kernel_rfl) Try.func5 (by kernel_rfl)
    (of_decide_eq_true (by kernel_rfl)) (by unfold Func.isWrapper; first | (rw [if_pos (by decide +kernel)]; kernel_rfl) | (rw [if_neg (by decide +kernel)]; exact ⟨rfl, rfl⟩))
    (fun os started H enc _ => lifted os started H enc)

theorem proved : Rows.CostPlacesSaid := over
#print axioms proved
end Go.Proofs.Ytfpicoflpddieaa.costPlaces
