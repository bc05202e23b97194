/-
  WireOnce: unlike numbers have unlike bytes, of which neither begins the other one; greater counts are not shorter.
-/
import Derived.Test.YtlbdmoikmomedaaW49
import Derived.Test.YtlbdmoikmomedaaHLFrame
import Derived.Test.YtlbdmoikmomedaaHLFrame2
import Derived.Test.YtlbdmoikmomedaaRows
import Derived.WalkKit
import Derived.ProofKit
import Derived.OpenShut
import Derived.KernelRfl
namespace Go.Proofs.Ytlbdmoikmomedaa.wireOnce
open Go Go.Proofs.Ytlbdmoikmomedaa.HL Go.Proofs Go.RowKit Go.ChangeShapes Go.WideShapes Go.ChangeAt
set_option linter.unusedVariables false

theorem fl24 {H : Type} {enc : TypeId × Value → H} {w : World} {base : Nat} {spare : Nat → Bool} {held : Bool} {fuel : Nat} {cs : List Value} {x : DataW H × List MemPlace} (h : DataW.trod enc Try.prog w base spare held fuel 24 cs = some x) : ∃ (z0 : Int) (z1 : Int) (z2 : Int) (z3 : Int), cs = [.int .i64 z0, .int .i64 z1, .int .u64 z2, .int .u64 z3] ∧ (-9223372036854775808 ≤ z0 ∧ z0 ≤ 9223372036854775807) ∧ (-9223372036854775808 ≤ z1 ∧ z1 ≤ 9223372036854775807) ∧ (0 ≤ z2 ∧ z2 ≤ 18446744073709551615) ∧ (0 ≤ z3 ∧ z3 ≤ 18446744073709551615) := by
  have hl := struct_len Try.underlying24 h
  rw [show Try.prog.cellsOf 24 = 4 from by kernel_rfl] at hl
  obtain ⟨_, _, h_0⟩ := field_cells Try.underlying24 h 0 rfl (o := 0) (n := 1) rfl (by kernel_rfl)
  obtain ⟨z0, g0, w0⟩ := int_cell Try.underlying3 h_0
  obtain ⟨_, _, h_1⟩ := field_cells Try.underlying24 h 1 rfl (o := 1) (n := 1) rfl (by kernel_rfl)
  obtain ⟨z1, g1, w1⟩ := int_cell Try.underlying3 h_1
  obtain ⟨_, _, h_2⟩ := field_cells Try.underlying24 h 2 rfl (o := 2) (n := 1) rfl (by kernel_rfl)
  obtain ⟨z2, g2, w2⟩ := int_cell Try.underlying22 h_2
  obtain ⟨_, _, h_3⟩ := field_cells Try.underlying24 h 3 rfl (o := 3) (n := 1) rfl (by kernel_rfl)
  obtain ⟨z3, g3, w3⟩ := int_cell Try.underlying22 h_3
  refine ⟨z0, z1, z2, z3, ?_, i64_of_wf w0, i64_of_wf w1, u64_of_wf w2, u64_of_wf w3⟩
  apply List.ext_getElem?; intro i
  match i with
  | 0 => simpa using g0
  | 1 => simpa using g1
  | 2 => simpa using g2
  | 3 => simpa using g3
  | i + 4 => rw [List.getElem?_eq_none (by rw [hl]; omega)]; simp

theorem arg24 {H : Type} {enc : TypeId × Value → H} {w : World} {base : Nat} {spare : Nat → Bool} {held : Bool} {r : Reach} {b0 : Nat} {v : Value} {d : DataW H} {ps : List MemPlace} (hval : Value.okWide Try.prog w r b0 24 v) (hd : DataW.Trod enc Try.prog w base spare held 24 v d ps) : ∃ (z0 : Int) (z1 : Int) (z2 : Int) (z3 : Int), v = .agg #[.int .i64 z0, .int .i64 z1, .int .u64 z2, .int .u64 z3] ∧ (-9223372036854775808 ≤ z0 ∧ z0 ≤ 9223372036854775807) ∧ (-9223372036854775808 ≤ z1 ∧ z1 ≤ 9223372036854775807) ∧ (0 ≤ z2 ∧ z2 ≤ 18446744073709551615) ∧ (0 ≤ z3 ∧ z3 ≤ 18446744073709551615) := by
  obtain ⟨fuel, hf⟩ := hd
  obtain ⟨z0, z1, z2, z3, hc, hr⟩ := fl24 hf
  exact ⟨z0, z1, z2, z3, by rw [val_of_agg (.inl ⟨_, Try.underlying24⟩) hval, cells_of_list hc], hr⟩

theorem own : ownKnob Try.prog.godebug = none := by kernel_rfl
theorem laidOut : laidOutB Try.prog = true := by kernel_rfl

set_option maxRecDepth 100000 in
theorem lifted (os : Os) (started : os.Started) (H : Type) (enc : TypeId × Value → H) :
    ReturnsInHanded {} Try.checked os 3 .any (Rows.wireOnceSpec.pre6 enc Try.prog Try.f3 Rows.wireOnceRow.domain false) (Rows.wireOnceSpec.post enc Try.prog Try.f3 false true false false) := by
  refine returnsInHanded_of_change (C := Try.checked) own started (by kernel_rfl) Try.func3
    (ChangeSpec.witness6 (enc := enc) (C := Try.checked) false ⟨#[], #[.agg #[.int .i64 0, .int .i64 0, .int .u64 0, .int .u64 0]], []⟩ 8 (by kernel_rfl) (by kernel_rfl) (by kernel_rfl) (by kernel_rfl)) ?_
  intro W base args ds gs before hval0 hW hcnd _
  have hval : ∀ (j : Nat) t v, Try.f3.params[j]? = some t → args[j]? = some v → Value.okWide Try.prog W .any base t v := hval0
  have hW' := hW
  obtain ⟨p, q, hA0, hV, rfl, hfz, hnd⟩ := hW
  have hA : DataW.TrodAll enc Try.prog W 0 (fun _ => true) true Try.f3.params.toList args.toList ds p := hA0
  rw [Try.params3] at hA hval
  obtain ⟨v0, vs0, d0, ds0, p0, q0, hargs, rfl, rfl, k0, r0⟩ := trodAll_cons hA
  obtain ⟨rfl, rfl, rfl⟩ := trodAll_nil r0
  obtain rfl : args = #[v0] := by cases args; simp_all
  obtain ⟨rfl, rfl⟩ := trodVars_none hV
  have lt0 : ∀ x ∈ p0, x.block < W.heap.size := by obtain ⟨m, hm⟩ := k0; exact DataW.trod_lt m _ _ _ hm
  obtain ⟨a, b, u, v, rfl, ⟨a1, a2⟩, ⟨b1, b2⟩, ⟨u1, u2⟩, ⟨v1, v2⟩⟩ := arg24 (hval 0 24 v0 rfl rfl) k0
  clear hA0 hval0
  refine (calls_of_old (lawOnce (oldH W) a b u v a1 a2 b1 b2 u1 u2 v1 v2)).mono fun e W' ⟨he, bel⟩ => ?_
  subst he
  exact ⟨_, rfl, _, _, _, [], _, [], hW', trodAll_mk1 (shut_bool Try.underlying4 _), (trodAll_cons_mk (Below.trod laidOut (by kernel_rfl) (of_decide_eq_true (by kernel_rfl)) k0 bel lt0) trodAll_mk0), rfl, bel.frame _, fun h => by cases h⟩

theorem over : Rows.wireOnceRow.holds Try.pinned (OpenSpec.ofChange Rows.wireOnceSpec) :=
  OpenClaim.holds_of_wide 3 Try.f3 rfl rfl rfl rfl rfl rfl rfl ⟨rfl, rfl, rfl, rfl, rfl⟩ rfl rfl rfl rfl rfl (by kernel_rfl) Try.func3 (by kernel_rfl)
    (of_decide_eq_true (by kernel_rfl)) (by unfold Func.isWrapper; first | (rw [if_pos (by decide +kernel)]; kernel_rfl) | (rw [if_neg (by decide +kernel)]; exact ⟨rfl, rfl⟩))
    (fun os started H enc _ => lifted os started H enc)

theorem proved : Rows.WireOnceSaid := over
#print axioms proved
end Go.Proofs.Ytlbdmoikmomedaa.wireOnce
