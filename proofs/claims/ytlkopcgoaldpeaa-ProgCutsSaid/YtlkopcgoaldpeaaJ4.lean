/-
  ProgCuts: of a good program's bytes no true beginning is one's, nor they with more behind.
-/
import Derived.Test.YtlkopcgoaldpeaaRows
import Derived.WalkKit
import Derived.ProofKit
import Derived.OpenShut
import Derived.KernelRfl
import Derived.Test.YtlkopcgoaldpeaaX4
namespace Go.Proofs.Ytlkopcgoaldpeaa.progCuts
open Go Go.Proofs.Ytlkopcgoaldpeaa.HL Go.Proofs Go.RowKit Go.ChangeShapes Go.WideShapes Go.ChangeAt
set_option linter.unusedVariables false

theorem fl47 {H : Type} {enc : TypeId × Value → H} {w : World} {base : Nat} {spare : Nat → Bool} {held : Bool} {fuel : Nat} {cs : List Value} {x : DataW H × List MemPlace} (h : DataW.trod enc Try.prog w base spare held fuel 47 cs = some x) : ∃ (z0 : Int) (z1 : Int) (z2 : Int) (z3 : Int) (z4 : Int) (z5 : Int), cs = [.int .i64 z0, .int .i64 z1, .int .i64 z2, .int .i64 z3, .int .i64 z4, .int .i64 z5] ∧ (-9223372036854775808 ≤ z0 ∧ z0 ≤ 9223372036854775807) ∧ (-9223372036854775808 ≤ z1 ∧ z1 ≤ 9223372036854775807) ∧ (-9223372036854775808 ≤ z2 ∧ z2 ≤ 9223372036854775807) ∧ (-9223372036854775808 ≤ z3 ∧ z3 ≤ 9223372036854775807) ∧ (-9223372036854775808 ≤ z4 ∧ z4 ≤ 9223372036854775807) ∧ (-9223372036854775808 ≤ z5 ∧ z5 ≤ 9223372036854775807) := by
  have hl := struct_len Try.underlying47 h
  rw [show Try.prog.cellsOf 47 = 6 from by kernel_rfl] at hl
  obtain ⟨_, _, h_0⟩ := field_cells Try.underlying47 h 0 rfl (o := 0) (n := 1) rfl (by kernel_rfl)
  obtain ⟨z0, g0, w0⟩ := int_cell Try.underlying3 h_0
  obtain ⟨_, _, h_1⟩ := field_cells Try.underlying47 h 1 rfl (o := 1) (n := 1) rfl (by kernel_rfl)
  obtain ⟨z1, g1, w1⟩ := int_cell Try.underlying3 h_1
  obtain ⟨_, _, h_2⟩ := field_cells Try.underlying47 h 2 rfl (o := 2) (n := 1) rfl (by kernel_rfl)
  obtain ⟨z2, g2, w2⟩ := int_cell Try.underlying3 h_2
  obtain ⟨_, _, h_3⟩ := field_cells Try.underlying47 h 3 rfl (o := 3) (n := 1) rfl (by kernel_rfl)
  obtain ⟨z3, g3, w3⟩ := int_cell Try.underlying3 h_3
  obtain ⟨_, _, h_4⟩ := field_cells Try.underlying47 h 4 rfl (o := 4) (n := 1) rfl (by kernel_rfl)
  obtain ⟨z4, g4, w4⟩ := int_cell Try.underlying3 h_4
  obtain ⟨_, _, h_5⟩ := field_cells Try.underlying47 h 5 rfl (o := 5) (n := 1) rfl (by kernel_rfl)
  obtain ⟨z5, g5, w5⟩ := int_cell Try.underlying3 h_5
  refine ⟨z0, z1, z2, z3, z4, z5, ?_, i64_of_wf w0, i64_of_wf w1, i64_of_wf w2, i64_of_wf w3, i64_of_wf w4, i64_of_wf w5⟩
  apply List.ext_getElem?; intro i
  match i with
  | 0 => simpa using g0
  | 1 => simpa using g1
  | 2 => simpa using g2
  | 3 => simpa using g3
  | 4 => simpa using g4
  | 5 => simpa using g5
  | i + 6 => rw [List.getElem?_eq_none (by rw [hl]; omega)]; simp

theorem arg47 {H : Type} {enc : TypeId × Value → H} {w : World} {base : Nat} {spare : Nat → Bool} {held : Bool} {r : Reach} {b0 : Nat} {v : Value} {d : DataW H} {ps : List MemPlace} (hval : Value.okWide Try.prog w r b0 47 v) (hd : DataW.Trod enc Try.prog w base spare held 47 v d ps) : ∃ (z0 : Int) (z1 : Int) (z2 : Int) (z3 : Int) (z4 : Int) (z5 : Int), v = .agg #[.int .i64 z0, .int .i64 z1, .int .i64 z2, .int .i64 z3, .int .i64 z4, .int .i64 z5] ∧ (-9223372036854775808 ≤ z0 ∧ z0 ≤ 9223372036854775807) ∧ (-9223372036854775808 ≤ z1 ∧ z1 ≤ 9223372036854775807) ∧ (-9223372036854775808 ≤ z2 ∧ z2 ≤ 9223372036854775807) ∧ (-9223372036854775808 ≤ z3 ∧ z3 ≤ 9223372036854775807) ∧ (-9223372036854775808 ≤ z4 ∧ z4 ≤ 9223372036854775807) ∧ (-9223372036854775808 ≤ z5 ∧ z5 ≤ 9223372036854775807) := by
  obtain ⟨fuel, hf⟩ := hd
  obtain ⟨z0, z1, z2, z3, z4, z5, hc, hr⟩ := fl47 hf
  exact ⟨z0, z1, z2, z3, z4, z5, by rw [val_of_agg (.inl ⟨_, Try.underlying47⟩) hval, cells_of_list hc], hr⟩

theorem heC {H : Type} {enc : TypeId × Value → H} {w : World} {base : Nat} {spare : Nat → Bool} {held : Bool} (n : Nat) (cs : List Value) (x : DataW H × List MemPlace) (h : DataW.trod enc Try.prog w base spare held n 47 cs = some x) : ∃ a : Cd, cs = a.cells ∧ a.ok := by
  obtain ⟨z0, z1, z2, z3, z4, z5, hc, h0, h1, h2, h3, h4, h5⟩ := fl47 h
  exact ⟨⟨z0, z1, z2, z3, z4, z5⟩, hc, h0.1, h0.2, h1.1, h1.2, h2.1, h2.2, h3.1, h3.2, h4.1, h4.2, h5.1, h5.2⟩

theorem argP {H : Type} {enc : TypeId × Value → H} {w : World} {base : Nat} {spare : Nat → Bool} {held : Bool} {r : Reach} {b0 : Nat} {v : Value} {d : DataW H} {ps : List MemPlace} (hval : Value.okWide Try.prog w r b0 24 v) (hd : DataW.Trod enc Try.prog w base spare held 24 v d ps) : ∃ (f : Int) (vc : Value) (L : List Cd), v = .agg #[.int .i64 f, vc] ∧ Holds (oldH w) 6 vc L.length (cds L) ∧ (∀ x ∈ L, x.ok) ∧ L.length ≤ maxLen := by
  obtain ⟨fuel, hf⟩ := hd
  obtain ⟨hl, hi⟩ := open_struct1s Try.underlying24 (by kernel_rfl) (by
    intro i f hif
    match i, hif with
    | 0, hif => cases hif; exact ⟨rfl, by kernel_rfl⟩
    | 1, hif => cases hif; exact ⟨rfl, by kernel_rfl⟩
    | i + 2, hif => simp at hif) hf
  obtain ⟨c0, y0, n0, g0, k0⟩ := hi 0 _ rfl
  obtain ⟨c1, y1, n1, g1, k1⟩ := hi 1 _ rfl
  obtain ⟨z0, e0, w0⟩ := int_cell (i := 0) (cs := [c0]) Try.underlying3 k0
  obtain ⟨a', l', p', L, e1, q1, h1, o1, m1⟩ := open_slice_of Cd.cells Cd.ok (wd := 6) Try.underlying22 (by kernel_rfl) (by omega) Cd.len heC k1
  simp at e0 e1
  subst e0; subst e1; subst q1
  refine ⟨z0, _, L, ?_, h1, o1, m1⟩
  have hc : v.cells.toList = [.int .i64 z0, .slice a' L.length p'] := by
    apply List.ext_getElem?
    intro i
    match i with
    | 0 => simpa using g0
    | 1 => simpa using g1
    | i + 2 => rw [List.getElem?_eq_none (by rw [hl]; simp)]; simp
  rw [val_of_agg (.inl ⟨_, Try.underlying24⟩) hval, cells_of_list hc]

theorem own : ownKnob Try.prog.godebug = none := by kernel_rfl
theorem laidOut : laidOutB Try.prog = true := by kernel_rfl

set_option maxRecDepth 100000 in
theorem lifted (os : Os) (started : os.Started) (H : Type) (enc : TypeId × Value → H) :
    ReturnsInHanded {} Try.checked os 6 .any (Rows.progCutsSpec.pre6 enc Try.prog Try.f6 Rows.progCutsRow.domain false) (Rows.progCutsSpec.post enc Try.prog Try.f6 false true false false) := by
  refine returnsInHanded_of_change (C := Try.checked) own started (by kernel_rfl) Try.func6
    (ChangeSpec.witness6 (enc := enc) (C := Try.checked) false ⟨#[], #[.agg #[.int .i64 0, .slice none 0 0], .agg #[.int .i64 0, .slice none 0 0], .int .i64 0], []⟩ 8 (by kernel_rfl) (by kernel_rfl) (by kernel_rfl) (by kernel_rfl)) ?_
  intro W base args ds gs before hval0 hW hcnd _
  have hval : ∀ (j : Nat) t v, Try.f6.params[j]? = some t → args[j]? = some v → Value.okWide Try.prog W .any base t v := hval0
  have hW' := hW
  obtain ⟨p, q, hA0, hV, rfl, hfz, hnd⟩ := hW
  have hA : DataW.TrodAll enc Try.prog W 0 (fun _ => true) true Try.f6.params.toList args.toList ds p := hA0
  rw [Try.params6] at hA hval
  obtain ⟨v0, vs0, d0, ds0, p0, q0, hargs, rfl, rfl, k0, r0⟩ := trodAll_cons hA
  obtain ⟨v1, vs1, d1, ds1, p1, q1, rfl, rfl, rfl, k1, r1⟩ := trodAll_cons r0
  obtain ⟨v2, vs2, d2, ds2, p2, q2, rfl, rfl, rfl, k2, r2⟩ := trodAll_cons r1
  obtain ⟨rfl, rfl, rfl⟩ := trodAll_nil r2
  obtain rfl : args = #[v0, v1, v2] := by cases args; simp_all
  obtain ⟨rfl, rfl⟩ := trodVars_none hV
  have lt0 : ∀ x ∈ p0, x.block < W.heap.size := by obtain ⟨m, hm⟩ := k0; exact DataW.trod_lt m _ _ _ hm
  obtain ⟨fa, va, A, rfl, hvA, hoA, hmA⟩ := argP (hval 0 24 v0 rfl rfl) k0
  have lt1 : ∀ x ∈ p1, x.block < W.heap.size := by obtain ⟨m, hm⟩ := k1; exact DataW.trod_lt m _ _ _ hm
  obtain ⟨fb, vb, B, rfl, hvB, hoB, hmB⟩ := argP (hval 1 24 v1 rfl rfl) k1
  have lt2 : ∀ x ∈ p2, x.block < W.heap.size := by obtain ⟨m, hm⟩ := k2; exact DataW.trod_lt m _ _ _ hm
  obtain ⟨cut, rfl, cut1, cut2⟩ := arg_i64 Try.underlying3 (hval 2 3 v2 rfl rfl) k2
  clear hA0 hval0
  refine (calls_of_old (lawCuts (oldH W) fa fb va vb A B cut hvA hvB hoA hoB)).mono fun e W' ⟨he, bel⟩ => ?_
  subst he
  exact ⟨_, rfl, _, _, _, [], _, [], hW', trodAll_mk1 (shut_bool Try.underlying4 _), (trodAll_cons_mk (Below.trod laidOut (by kernel_rfl) (of_decide_eq_true (by kernel_rfl)) k0 bel lt0) (trodAll_cons_mk (Below.trod laidOut (by kernel_rfl) (of_decide_eq_true (by kernel_rfl)) k1 bel lt1) (trodAll_cons_mk (Below.trod laidOut (by kernel_rfl) (of_decide_eq_true (by kernel_rfl)) k2 bel lt2) trodAll_mk0))), rfl, bel.frame _, fun h => by cases h⟩

theorem over : Rows.progCutsRow.holds Try.pinned (OpenSpec.ofChange Rows.progCutsSpec) :=
  OpenClaim.holds_of_wide 6 Try.f6 rfl rfl rfl rfl rfl rfl rfl ⟨rfl, rfl, rfl, rfl, rfl⟩ rfl rfl rfl rfl rfl (by kernel_rfl) Try.func6 (by kernel_rfl)
    (of_decide_eq_true (by kernel_rfl)) (by unfold Func.isWrapper; first | (rw [if_pos (by decide +kernel)]; kernel_rfl) | (rw [if_neg (by decide +kernel)]; exact ⟨rfl, rfl⟩))
    (fun os started H enc _ => lifted os started H enc)

theorem proved : Rows.ProgCutsSaid := over
#print axioms proved
end Go.Proofs.Ytlkopcgoaldpeaa.progCuts
