/-
  IndexPlays: what any index comes to and tells.
-/
import Derived.Test.YtjhohnbdhopllaaRows
import Derived.WalkKit
import Derived.ProofKit
import Derived.OpenShut
import Derived.KernelRfl
import Derived.Test.YtjhohnbdhopllaaX5
namespace Go.Proofs.Ytjhohnbdhopllaa.indexPlays
open Go Go.Proofs.Ytjhohnbdhopllaa.HL Go.Proofs Go.RowKit Go.ChangeShapes Go.WideShapes Go.ChangeAt
set_option linter.unusedVariables false

theorem fl46 {H : Type} {enc : TypeId × Value → H} {w : World} {base : Nat} {spare : Nat → Bool} {held : Bool} {fuel : Nat} {cs : List Value} {x : DataW H × List MemPlace} (h : DataW.trod enc Try.prog w base spare held fuel 46 cs = some x) : ∃ (z0 : Int) (z1 : Int) (z2 : Int) (z3 : Bool), cs = [.int .i64 z0, .int .i64 z1, .int .i64 z2, .bool z3] ∧ (-9223372036854775808 ≤ z0 ∧ z0 ≤ 9223372036854775807) ∧ (-9223372036854775808 ≤ z1 ∧ z1 ≤ 9223372036854775807) ∧ (-9223372036854775808 ≤ z2 ∧ z2 ≤ 9223372036854775807) := by
  have hl := struct_len Try.underlying46 h
  rw [show Try.prog.cellsOf 46 = 4 from by kernel_rfl] at hl
  obtain ⟨_, _, h_0⟩ := field_cells Try.underlying46 h 0 rfl (o := 0) (n := 2) rfl (by kernel_rfl)
  obtain ⟨_, _, h_0_0⟩ := field_cells Try.underlying44 h_0 0 rfl (o := 0) (n := 1) rfl (by kernel_rfl)
  rw [drop_take_drop (by omega)] at h_0_0
  obtain ⟨z0, g0, w0⟩ := int_cell Try.underlying3 h_0_0
  obtain ⟨_, _, h_0_1⟩ := field_cells Try.underlying44 h_0 1 rfl (o := 1) (n := 1) rfl (by kernel_rfl)
  rw [drop_take_drop (by omega)] at h_0_1
  obtain ⟨z1, g1, w1⟩ := int_cell Try.underlying3 h_0_1
  obtain ⟨_, _, h_1⟩ := field_cells Try.underlying46 h 1 rfl (o := 2) (n := 1) rfl (by kernel_rfl)
  obtain ⟨z2, g2, w2⟩ := int_cell Try.underlying3 h_1
  obtain ⟨_, _, h_2⟩ := field_cells Try.underlying46 h 2 rfl (o := 3) (n := 1) rfl (by kernel_rfl)
  obtain ⟨z3, g3⟩ := bool_cell Try.underlying4 h_2
  refine ⟨z0, z1, z2, z3, ?_, i64_of_wf w0, i64_of_wf w1, i64_of_wf w2⟩
  apply List.ext_getElem?; intro i
  match i with
  | 0 => simpa using g0
  | 1 => simpa using g1
  | 2 => simpa using g2
  | 3 => simpa using g3
  | i + 4 => rw [List.getElem?_eq_none (by rw [hl]; omega)]; simp

set_option maxRecDepth 100000 in
theorem fl24 {H : Type} {enc : TypeId × Value → H} {w : World} {base : Nat} {spare : Nat → Bool} {held : Bool} {fuel : Nat} {cs : List Value} {x : DataW H × List MemPlace} (h : DataW.trod enc Try.prog w base spare held fuel 24 cs = some x) : ∃ (z0 : Int) (z1 : Int) (z2 : Int) (z3 : Int), cs = [.int .i64 z0, .int .i64 z1, .int .i64 z2, .int .i64 z3] ∧ (-9223372036854775808 ≤ z0 ∧ z0 ≤ 9223372036854775807) ∧ (-9223372036854775808 ≤ z1 ∧ z1 ≤ 9223372036854775807) ∧ (-9223372036854775808 ≤ z2 ∧ z2 ≤ 9223372036854775807) ∧ (-9223372036854775808 ≤ z3 ∧ z3 ≤ 9223372036854775807) := by
  have hl := struct_len Try.underlying24 h
  rw [show Try.prog.cellsOf 24 = 4 from by kernel_rfl] at hl
  obtain ⟨_, _, h_0⟩ := field_cells Try.underlying24 h 0 rfl (o := 0) (n := 1) rfl (by kernel_rfl)
  obtain ⟨z0, g0, w0⟩ := int_cell Try.underlying3 h_0
  obtain ⟨_, _, h_1⟩ := field_cells Try.underlying24 h 1 rfl (o := 1) (n := 1) rfl (by kernel_rfl)
  obtain ⟨z1, g1, w1⟩ := int_cell Try.underlying3 h_1
  obtain ⟨_, _, h_2⟩ := field_cells Try.underlying24 h 2 rfl (o := 2) (n := 1) rfl (by kernel_rfl)
  obtain ⟨z2, g2, w2⟩ := int_cell Try.underlying3 h_2
  obtain ⟨_, _, h_3⟩ := field_cells Try.underlying24 h 3 rfl (o := 3) (n := 1) rfl (by kernel_rfl)
  obtain ⟨z3, g3, w3⟩ := int_cell Try.underlying3 h_3
  refine ⟨z0, z1, z2, z3, ?_, i64_of_wf w0, i64_of_wf w1, i64_of_wf w2, i64_of_wf w3⟩
  apply List.ext_getElem?; intro i
  match i with
  | 0 => simpa using g0
  | 1 => simpa using g1
  | 2 => simpa using g2
  | 3 => simpa using g3
  | i + 4 => rw [List.getElem?_eq_none (by rw [hl]; omega)]; simp

set_option maxRecDepth 100000 in
theorem arg24 {H : Type} {enc : TypeId × Value → H} {w : World} {base : Nat} {spare : Nat → Bool} {held : Bool} {r : Reach} {b0 : Nat} {v : Value} {d : DataW H} {ps : List MemPlace} (hval : Value.okWide Try.prog w r b0 24 v) (hd : DataW.Trod enc Try.prog w base spare held 24 v d ps) : ∃ (z0 : Int) (z1 : Int) (z2 : Int) (z3 : Int), v = .agg #[.int .i64 z0, .int .i64 z1, .int .i64 z2, .int .i64 z3] ∧ (-9223372036854775808 ≤ z0 ∧ z0 ≤ 9223372036854775807) ∧ (-9223372036854775808 ≤ z1 ∧ z1 ≤ 9223372036854775807) ∧ (-9223372036854775808 ≤ z2 ∧ z2 ≤ 9223372036854775807) ∧ (-9223372036854775808 ≤ z3 ∧ z3 ≤ 9223372036854775807) := by
  obtain ⟨fuel, hf⟩ := hd
  obtain ⟨z0, z1, z2, z3, hc, hr⟩ := fl24 hf
  exact ⟨z0, z1, z2, z3, by rw [val_of_agg (.inl ⟨_, Try.underlying24⟩) hval, cells_of_list hc], hr⟩

set_option maxRecDepth 100000 in
theorem heW {H : Type} {enc : TypeId × Value → H} {w : World} {base : Nat} {spare : Nat → Bool} {held : Bool} (n : Nat) (cs : List Value) (x : DataW H × List MemPlace) (h : DataW.trod enc Try.prog w base spare held n 46 cs = some x) : ∃ a : Wr, cs = a.c ∧ a.ok := by
  obtain ⟨z0, z1, z2, z3, hc, r0, r1, r2⟩ := fl46 h
  exact ⟨⟨z0, z1, z2, z3⟩, hc, r0, r1, r2⟩

set_option maxRecDepth 100000 in
theorem heL {H : Type} {enc : TypeId × Value → H} {w : World} {base : Nat} {spare : Nat → Bool} {held : Bool} (n : Nat) (cs : List Value) (x : DataW H × List MemPlace) (h : DataW.trod enc Try.prog w base spare held n 29 cs = some x) : ∃ r : WL, cs = r.c ∧ (Holds (oldH w) 4 (.slice r.a r.l.length r.cap) r.l.length (wrs r.l) ∧ ∀ w ∈ r.l, w.ok) := by
  obtain ⟨a, l, p, L, e, q, h0, o0, _⟩ := open_slice_of Wr.c Wr.ok (wd := 4) Try.underlying29 (by kernel_rfl) (by omega) Wr.len heW h
  subst q
  exact ⟨⟨a, p, L⟩, e, h0, o0⟩

set_option maxRecDepth 100000 in
theorem argR {H : Type} {enc : TypeId × Value → H} {w : World} {base : Nat} {spare : Nat → Bool} {held : Bool} {r : Reach} {b0 : Nat} {v : Value} {d : DataW H} {ps : List MemPlace} (hval : Value.okWide Try.prog w r b0 22 v) (hd : DataW.Trod enc Try.prog w base spare held 22 v d ps) : ∃ (a : Option Addr) (cap : Nat) (R : List WL), v = .slice a R.length cap ∧ Holds (oldH w) 1 (.slice a R.length cap) R.length (R.flatMap WL.c) ∧ (∀ r ∈ R, Holds (oldH w) 4 (.slice r.a r.l.length r.cap) r.l.length (wrs r.l) ∧ ∀ w ∈ r.l, w.ok) := by
  obtain ⟨a, len, cap, rfl⟩ := okWide_slice Try.underlying22 hval
  obtain ⟨fuel, hf⟩ := hd
  obtain ⟨a', l', p', L, e0, q, h0, o0, _⟩ := open_slice_of WL.c (fun r => Holds (oldH w) 4 (.slice r.a r.l.length r.cap) r.l.length (wrs r.l) ∧ ∀ w ∈ r.l, w.ok) (wd := 1) Try.underlying22 (by kernel_rfl) (by omega) WL.len heL hf
  subst q
  simp [Value.cells] at e0
  obtain ⟨rfl, rfl, rfl⟩ := e0
  exact ⟨a, cap, L, rfl, h0, o0⟩

theorem own : ownKnob Try.prog.godebug = none := by kernel_rfl
theorem laidOut : laidOutB Try.prog = true := by kernel_rfl

set_option maxRecDepth 100000 in
theorem lifted (os : Os) (started : os.Started) (H : Type) (enc : TypeId × Value → H) :
    ReturnsInHanded {} Try.checked os 4 .any (Rows.indexPlaysSpec.pre6 enc Try.prog Try.f4 Rows.indexPlaysRow.domain false) (Rows.indexPlaysSpec.post enc Try.prog Try.f4 false true false false) := by
  refine returnsInHanded_of_change (C := Try.checked) own started (by kernel_rfl) Try.func4
    (ChangeSpec.witness6 (enc := enc) (C := Try.checked) false ⟨#[], #[.slice none 0 0, .agg #[.int .i64 0, .int .i64 0, .int .i64 0, .int .i64 0]], []⟩ 8 (by kernel_rfl) (by kernel_rfl) (by kernel_rfl) (by kernel_rfl)) ?_
  intro W base args ds gs before hval0 hW hcnd _
  have hval : ∀ (j : Nat) t v, Try.f4.params[j]? = some t → args[j]? = some v → Value.okWide Try.prog W .any base t v := hval0
  have hW' := hW
  obtain ⟨p, q, hA0, hV, rfl, hfz, hnd⟩ := hW
  have hA : DataW.TrodAll enc Try.prog W 0 (fun _ => true) true Try.f4.params.toList args.toList ds p := hA0
  rw [Try.params4] at hA hval
  obtain ⟨v0, vs0, d0, ds0, p0, q0, hargs, rfl, rfl, k0, r0⟩ := trodAll_cons hA
  obtain ⟨v1, vs1, d1, ds1, p1, q1, rfl, rfl, rfl, k1, r1⟩ := trodAll_cons r0
  obtain ⟨rfl, rfl, rfl⟩ := trodAll_nil r1
  obtain rfl : args = #[v0, v1] := by cases args; simp_all
  obtain ⟨rfl, rfl⟩ := trodVars_none hV
  have lt0 : ∀ x ∈ p0, x.block < W.heap.size := by obtain ⟨m, hm⟩ := k0; exact DataW.trod_lt m _ _ _ hm
  obtain ⟨a, cap, R, rfl, hv, hR⟩ := argR (hval 0 22 v0 rfl rfl) k0
  have lt1 : ∀ x ∈ p1, x.block < W.heap.size := by obtain ⟨m, hm⟩ := k1; exact DataW.trod_lt m _ _ _ hm
  obtain ⟨t, lo, hi, n, rfl, ⟨t1, t2⟩, ⟨lo1, lo2⟩, ⟨hi1, hi2⟩, ⟨n1, n2⟩⟩ := arg24 (hval 1 24 v1 rfl rfl) k1
  clear hA0 hval0
  refine (calls_of_old (plays_ok (oldH W) a cap R hv hR t lo hi n t1 t2 lo1 lo2 hi1 hi2)).mono fun e W' ⟨he, bel⟩ => ?_
  subst he
  exact ⟨_, rfl, _, _, _, [], _, [], hW', trodAll_mk1 (shut_bool Try.underlying4 _), (trodAll_cons_mk (Below.trod laidOut (by kernel_rfl) (of_decide_eq_true (by kernel_rfl)) k0 bel lt0) (trodAll_cons_mk (Below.trod laidOut (by kernel_rfl) (of_decide_eq_true (by kernel_rfl)) k1 bel lt1) trodAll_mk0)), rfl, bel.frame _, fun h => by cases h⟩

theorem over : Rows.indexPlaysRow.holds Try.pinned (OpenSpec.ofChange Rows.indexPlaysSpec) :=
  OpenClaim.holds_of_wide 4 Try.f4 rfl rfl rfl rfl rfl rfl rfl ⟨rfl, rfl, rfl, rfl, rfl⟩ rfl rfl rfl rfl rfl (by kernel_rfl) Try.func4 (by kernel_rfl)
    (of_decide_eq_true (by kernel_rfl)) (by unfold Func.isWrapper; first | (rw [if_pos (by decide +kernel)]; kernel_rfl) | (rw [if_neg (by decide +kernel)]; exact ⟨rfl, rfl⟩))
    (fun os started H enc _ => lifted os started H enc)

theorem proved : Rows.IndexPlaysSaid := over
#print axioms proved
end Go.Proofs.Ytjhohnbdhopllaa.indexPlays
