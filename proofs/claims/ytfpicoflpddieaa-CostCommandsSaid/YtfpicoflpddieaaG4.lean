/-
  CostCommands: what any transaction costs by any policy, and how it is logged.
-/
import Derived.Test.YtfpicoflpddieaaC36
import Derived.Test.YtfpicoflpddieaaHLFrame
import Derived.Test.YtfpicoflpddieaaRows
import Derived.WalkKit
import Derived.ProofKit
import Derived.OpenShut
import Derived.KernelRfl
namespace Go.Proofs.Ytfpicoflpddieaa.costCommands
open Go Go.Proofs.Ytfpicoflpddieaa.HL Go.Proofs Go.RowKit Go.ChangeShapes Go.WideShapes Go.ChangeAt
set_option linter.unusedVariables false

theorem fl25 {H : Type} {enc : TypeId × Value → H} {w : World} {base : Nat} {spare : Nat → Bool} {held : Bool} {fuel : Nat} {cs : List Value} {x : DataW H × List MemPlace} (h : DataW.trod enc Try.prog w base spare held fuel 25 cs = some x) : ∃ (z0 : Int) (z1 : Int) (z2 : Int) (z3 : Int) (z4 : Int) (z5 : Int) (z6 : Int) (z7 : Int), cs = [.int .i64 z0, .int .i64 z1, .int .i64 z2, .int .i64 z3, .int .i64 z4, .int .i64 z5, .int .i64 z6, .int .i64 z7] ∧ (-9223372036854775808 ≤ z0 ∧ z0 ≤ 9223372036854775807) ∧ (-9223372036854775808 ≤ z1 ∧ z1 ≤ 9223372036854775807) ∧ (-9223372036854775808 ≤ z2 ∧ z2 ≤ 9223372036854775807) ∧ (-9223372036854775808 ≤ z3 ∧ z3 ≤ 9223372036854775807) ∧ (-9223372036854775808 ≤ z4 ∧ z4 ≤ 9223372036854775807) ∧ (-9223372036854775808 ≤ z5 ∧ z5 ≤ 9223372036854775807) ∧ (-9223372036854775808 ≤ z6 ∧ z6 ≤ 9223372036854775807) ∧ (-9223372036854775808 ≤ z7 ∧ z7 ≤ 9223372036854775807) := by
  have hl := struct_len Try.underlying25 h
  rw [show Try.prog.cellsOf 25 = 8 from by kernel_rfl] at hl
  obtain ⟨_, _, h_0⟩ := field_cells Try.underlying25 h 0 rfl (o := 0) (n := 5) rfl (by kernel_rfl)
  obtain ⟨_, _, h_0_0⟩ := field_cells Try.underlying23 h_0 0 rfl (o := 0) (n := 1) rfl (by kernel_rfl)
  rw [drop_take_drop (by omega)] at h_0_0
  obtain ⟨z0, g0, w0⟩ := int_cell Try.underlying3 h_0_0
  obtain ⟨_, _, h_0_1⟩ := field_cells Try.underlying23 h_0 1 rfl (o := 1) (n := 1) rfl (by kernel_rfl)
  rw [drop_take_drop (by omega)] at h_0_1
  obtain ⟨z1, g1, w1⟩ := int_cell Try.underlying3 h_0_1
  obtain ⟨_, _, h_0_2⟩ := field_cells Try.underlying23 h_0 2 rfl (o := 2) (n := 1) rfl (by kernel_rfl)
  rw [drop_take_drop (by omega)] at h_0_2
  obtain ⟨z2, g2, w2⟩ := int_cell Try.underlying3 h_0_2
  obtain ⟨_, _, h_0_3⟩ := field_cells Try.underlying23 h_0 3 rfl (o := 3) (n := 1) rfl (by kernel_rfl)
  rw [drop_take_drop (by omega)] at h_0_3
  obtain ⟨z3, g3, w3⟩ := int_cell Try.underlying3 h_0_3
  obtain ⟨_, _, h_0_4⟩ := field_cells Try.underlying23 h_0 4 rfl (o := 4) (n := 1) rfl (by kernel_rfl)
  rw [drop_take_drop (by omega)] at h_0_4
  obtain ⟨z4, g4, w4⟩ := int_cell Try.underlying3 h_0_4
  obtain ⟨_, _, h_1⟩ := field_cells Try.underlying25 h 1 rfl (o := 5) (n := 1) rfl (by kernel_rfl)
  obtain ⟨z5, g5, w5⟩ := int_cell Try.underlying3 h_1
  obtain ⟨_, _, h_2⟩ := field_cells Try.underlying25 h 2 rfl (o := 6) (n := 1) rfl (by kernel_rfl)
  obtain ⟨z6, g6, w6⟩ := int_cell Try.underlying3 h_2
  obtain ⟨_, _, h_3⟩ := field_cells Try.underlying25 h 3 rfl (o := 7) (n := 1) rfl (by kernel_rfl)
  obtain ⟨z7, g7, w7⟩ := int_cell Try.underlying3 h_3
  refine ⟨z0, z1, z2, z3, z4, z5, z6, z7, ?_, i64_of_wf w0, i64_of_wf w1, i64_of_wf w2, i64_of_wf w3, i64_of_wf w4, i64_of_wf w5, i64_of_wf w6, i64_of_wf w7⟩
  apply List.ext_getElem?; intro i
  match i with
  | 0 => simpa using g0
  | 1 => simpa using g1
  | 2 => simpa using g2
  | 3 => simpa using g3
  | 4 => simpa using g4
  | 5 => simpa using g5
  | 6 => simpa using g6
  | 7 => simpa using g7
  | i + 8 => rw [List.getElem?_eq_none (by rw [hl]; omega)]; simp

theorem arg25 {H : Type} {enc : TypeId × Value → H} {w : World} {base : Nat} {spare : Nat → Bool} {held : Bool} {r : Reach} {b0 : Nat} {v : Value} {d : DataW H} {ps : List MemPlace} (hval : Value.okWide Try.prog w r b0 25 v) (hd : DataW.Trod enc Try.prog w base spare held 25 v d ps) : ∃ (z0 : Int) (z1 : Int) (z2 : Int) (z3 : Int) (z4 : Int) (z5 : Int) (z6 : Int) (z7 : Int), v = .agg #[.int .i64 z0, .int .i64 z1, .int .i64 z2, .int .i64 z3, .int .i64 z4, .int .i64 z5, .int .i64 z6, .int .i64 z7] ∧ (-9223372036854775808 ≤ z0 ∧ z0 ≤ 9223372036854775807) ∧ (-9223372036854775808 ≤ z1 ∧ z1 ≤ 9223372036854775807) ∧ (-9223372036854775808 ≤ z2 ∧ z2 ≤ 9223372036854775807) ∧ (-9223372036854775808 ≤ z3 ∧ z3 ≤ 9223372036854775807) ∧ (-9223372036854775808 ≤ z4 ∧ z4 ≤ 9223372036854775807) ∧ (-9223372036854775808 ≤ z5 ∧ z5 ≤ 9223372036854775807) ∧ (-9223372036854775808 ≤ z6 ∧ z6 ≤ 9223372036854775807) ∧ (-9223372036854775808 ≤ z7 ∧ z7 ≤ 9223372036854775807) := by
  obtain ⟨fuel, hf⟩ := hd
  obtain ⟨z0, z1, z2, z3, z4, z5, z6, z7, hc, hr⟩ := fl25 hf
  exact ⟨z0, z1, z2, z3, z4, z5, z6, z7, by rw [val_of_agg (.inl ⟨_, Try.underlying25⟩) hval, cells_of_list hc], hr⟩

theorem own : ownKnob Try.prog.godebug = none := by kernel_rfl
theorem laidOut : laidOutB Try.prog = true := by kernel_rfl

set_option maxRecDepth 100000 in
theorem lifted (os : Os) (started : os.Started) (H : Type) (enc : TypeId × Value → H) :
    ReturnsInHanded {} Try.checked os 3 .any (Rows.costCommandsSpec.pre6 enc Try.prog Try.f3 Rows.costCommandsRow.domain false) (Rows.costCommandsSpec.post enc Try.prog Try.f3 false true false false) := by
  refine returnsInHanded_of_change (C := Try.checked) own started (by kernel_rfl) Try.func3
    (ChangeSpec.witness6 (enc := enc) (C := Try.checked) false ⟨#[], #[.agg #[.int .i64 0, .int .i64 0, .int .i64 0, .int .i64 0, .int .i64 0, .int .i64 0, .int .i64 0, .int .i64 0]], []⟩ 8 (by kernel_rfl) (by kernel_rfl) (by kernel_rfl) (by kernel_rfl)) ?_
  intro W base args ds gs before hval0 hW hcnd _
  have hval : ∀ (j : Nat) t v, Try.f3.params[j]? = some t → args[j]? = some v → Value.okWide Try.prog W .any base t v := hval0
  have hW' := hW
  obtain ⟨p, q, hA0, hV, rfl, hfz, hnd⟩ := hW
  have hA : DataW.TrodAll enc Try.prog W 0 (fun _ => true) true Try.f3.params.toList args.toList ds p := hA0
  rw [Try.params3] at hA hval
  obtain ⟨v0, vs0, d0, ds0, p0, q0, hargs, rfl, rfl, k0, r0⟩ := trodAll_cons hA
  obtain ⟨rfl, rfl, rfl⟩ := trodAll_nil r0
  obtain rfl : args = #[v0] := by cases args; simp_all
  obtain ⟨rfl, rfl⟩ := trodVars_none hV
  have lt0 : ∀ x ∈ p0, x.block < W.heap.size := by obtain ⟨m, hm⟩ := k0; exact DataW.trod_lt m _ _ _ hm
  obtain ⟨pb, pc, pf, pw, pp, bt, fu, wr, rfl, ⟨pb1, pb2⟩, ⟨pc1, pc2⟩, ⟨pf1, pf2⟩, ⟨pw1, pw2⟩, ⟨pp1, pp2⟩, ⟨bt1, bt2⟩, ⟨fu1, fu2⟩, ⟨wr1, wr2⟩⟩ := arg25 (hval 0 25 v0 rfl rfl) k0
  clear hA0 hval0
  refine (calls_of_old (lawCommands (oldH W) pb pc pf pw pp bt fu wr pb1 pb2 pc1 pc2 pf1 pf2 pw1 pw2 bt1 bt2 fu1 fu2 wr1 wr2)).mono fun e W' ⟨he, bel⟩ => ?_
  subst he
  exact ⟨_, rfl, _, _, _, [], _, [], hW', trodAll_mk1 (shut_bool Try.underlying4 _), (trodAll_cons_mk (Below.trod laidOut (by kernel_rfl) (of_decide_eq_true (by kernel_rfl)) k0 bel lt0) trodAll_mk0), rfl, bel.frame _, fun h => by cases h⟩

theorem over : Rows.costCommandsRow.holds Try.pinned (OpenSpec.ofChange Rows.costCommandsSpec) :=
  OpenClaim.holds_of_wide 3 Try.f3 rfl rfl rfl rfl rfl rfl rfl ⟨rfl, rfl, rfl, rfl, rfl⟩ rfl rfl rfl rfl rfl (by kernel_rfl) Try.func3 (by kernel_rfl)
    (of_decide_eq_true (by kernel_rfl)) (by unfold Func.isWrapper; first | (rw [if_pos (by decide +kernel)]; kernel_rfl) | (rw [if_neg (by decide +kernel)]; exact ⟨rfl, rfl⟩))
    (fun os started H enc _ => lifted os started H enc)

theorem proved : Rows.CostCommandsSaid := over
#print axioms proved
end Go.Proofs.Ytfpicoflpddieaa.costCommands
