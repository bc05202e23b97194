/-
  DevBytes: behind a crash each byte is what some write made it.
-/
import Derived.Test.YtkmjncmdhinlgaaRows
import Derived.WalkKit
import Derived.ProofKit
import Derived.OpenShut
import Derived.KernelRfl
import Derived.Test.YtkmjncmdhinlgaaX4
namespace Go.Proofs.Ytkmjncmdhinlgaa.devBytes
open Go Go.Proofs.Ytkmjncmdhinlgaa.HL Go.Proofs Go.RowKit Go.ChangeShapes Go.WideShapes Go.ChangeAt
set_option linter.unusedVariables false

theorem fl42 {H : Type} {enc : TypeId × Value → H} {w : World} {base : Nat} {spare : Nat → Bool} {held : Bool} {fuel : Nat} {cs : List Value} {x : DataW H × List MemPlace} (h : DataW.trod enc Try.prog w base spare held fuel 42 cs = some x) : ∃ (z0 : Int) (z1 : Int) (z2 : Int), cs = [.int .i64 z0, .int .i64 z1, .int .i64 z2] ∧ (-9223372036854775808 ≤ z0 ∧ z0 ≤ 9223372036854775807) ∧ (-9223372036854775808 ≤ z1 ∧ z1 ≤ 9223372036854775807) ∧ (-9223372036854775808 ≤ z2 ∧ z2 ≤ 9223372036854775807) := by
  have hl := struct_len Try.underlying42 h
  rw [show Try.prog.cellsOf 42 = 3 from by kernel_rfl] at hl
  obtain ⟨_, _, h_0⟩ := field_cells Try.underlying42 h 0 rfl (o := 0) (n := 1) rfl (by kernel_rfl)
  obtain ⟨z0, g0, w0⟩ := int_cell Try.underlying3 h_0
  obtain ⟨_, _, h_1⟩ := field_cells Try.underlying42 h 1 rfl (o := 1) (n := 1) rfl (by kernel_rfl)
  obtain ⟨z1, g1, w1⟩ := int_cell Try.underlying3 h_1
  obtain ⟨_, _, h_2⟩ := field_cells Try.underlying42 h 2 rfl (o := 2) (n := 1) rfl (by kernel_rfl)
  obtain ⟨z2, g2, w2⟩ := int_cell Try.underlying3 h_2
  refine ⟨z0, z1, z2, ?_, i64_of_wf w0, i64_of_wf w1, i64_of_wf w2⟩
  apply List.ext_getElem?; intro i
  match i with
  | 0 => simpa using g0
  | 1 => simpa using g1
  | 2 => simpa using g2
  | i + 3 => rw [List.getElem?_eq_none (by rw [hl]; omega)]; simp

theorem heK {H : Type} {enc : TypeId × Value → H} {w : World} {base : Nat} {spare : Nat → Bool} {held : Bool} (n : Nat) (cs : List Value) (x : DataW H × List MemPlace) (h : DataW.trod enc Try.prog w base spare held n 42 cs = some x) : ∃ a : Kp, cs = a.c ∧ True := by
  obtain ⟨z0, z1, z2, hc, _⟩ := fl42 h
  exact ⟨⟨z0, z1, z2⟩, hc, trivial⟩

set_option maxRecDepth 100000 in
theorem heO {H : Type} {enc : TypeId × Value → H} {w : World} {base : Nat} {spare : Nat → Bool} {held : Bool} (n : Nat) (cs : List Value) (x : DataW H × List MemPlace) (h : DataW.trod enc Try.prog w base spare held n 35 cs = some x) : ∃ a : Op1, cs = a.c ∧ a.ok (oldH w) := by
  obtain ⟨hl, hi⟩ := open_struct1s Try.underlying35 (by kernel_rfl) (by
    intro i f hif
    match i, hif with
    | 0, hif => cases hif; exact ⟨rfl, by kernel_rfl⟩
    | 1, hif => cases hif; exact ⟨rfl, by kernel_rfl⟩
    | 2, hif => cases hif; exact ⟨rfl, by kernel_rfl⟩
    | 3, hif => cases hif; exact ⟨rfl, by kernel_rfl⟩
    | 4, hif => cases hif; exact ⟨rfl, by kernel_rfl⟩
    | i + 5, hif => simp at hif) h
  obtain ⟨c0, y0, n0, g0, k0⟩ := hi 0 _ rfl
  obtain ⟨c1, y1, n1, g1, k1⟩ := hi 1 _ rfl
  obtain ⟨c2, y2, n2, g2, k2⟩ := hi 2 _ rfl
  obtain ⟨c3, y3, n3, g3, k3⟩ := hi 3 _ rfl
  obtain ⟨c4, y4, n4, g4, k4⟩ := hi 4 _ rfl
  obtain ⟨z0, e0, w0⟩ := int_cell (i := 0) (cs := [c0]) Try.underlying3 k0
  obtain ⟨z1, e1, w1⟩ := int_cell (i := 0) (cs := [c1]) Try.underlying3 k1
  obtain ⟨z2, e2, w2⟩ := int_cell (i := 0) (cs := [c2]) Try.underlying3 k2
  obtain ⟨z3, e3, w3⟩ := int_cell (i := 0) (cs := [c3]) Try.underlying5 k3
  obtain ⟨a4, l4, p4, M, e4, q4, h4, _, _⟩ := open_slice_of Kp.c (fun _ => True) (wd := 3) Try.underlying23 (by kernel_rfl) (by omega) Kp.len heK k4
  simp at e0 e1 e2 e3
  cases e4; subst e0; subst e1; subst e2; subst e3; subst q4
  refine ⟨⟨z0, z1, z2, z3, a4, p4, M⟩, ?_, h4, (i64_of_wf w1).1, (i64_of_wf w1).2, (i64_of_wf w2).1, (i64_of_wf w2).2, (u8_of_wf w3).1, (u8_of_wf w3).2⟩
  apply List.ext_getElem?
  intro i
  match i with
  | 0 => simpa using g0
  | 1 => simpa using g1
  | 2 => simpa using g2
  | 3 => simpa using g3
  | 4 => simpa using g4
  | i + 5 => rw [List.getElem?_eq_none (by rw [hl]; simp)]; simp

set_option maxRecDepth 100000 in
theorem argOs {H : Type} {enc : TypeId × Value → H} {w : World} {base : Nat} {spare : Nat → Bool} {held : Bool} {r : Reach} {b0 : Nat} {v : Value} {d : DataW H} {ps : List MemPlace} (hval : Value.okWide Try.prog w r b0 22 v) (hd : DataW.Trod enc Try.prog w base spare held 22 v d ps) : ∃ (a : Option Addr) (cap : Nat) (L : List Op1), v = .slice a L.length cap ∧ Holds (oldH w) 5 (.slice a L.length cap) L.length (ops L) ∧ (∀ x ∈ L, x.ok (oldH w)) := by
  obtain ⟨a, len, cap, rfl⟩ := okWide_slice Try.underlying22 hval
  obtain ⟨fuel, hf⟩ := hd
  obtain ⟨a', l', p', L, e0, q0, h0, o0, m0⟩ := open_slice_of Op1.c (Op1.ok (oldH w)) (wd := 5) Try.underlying22 (by kernel_rfl) (by omega) Op1.len heO hf
  simp [Value.cells] at e0
  obtain ⟨rfl, rfl, rfl⟩ := e0
  subst q0
  exact ⟨a, cap, L, rfl, h0, o0⟩

set_option maxRecDepth 100000 in
theorem argKs {H : Type} {enc : TypeId × Value → H} {w : World} {base : Nat} {spare : Nat → Bool} {held : Bool} {r : Reach} {b0 : Nat} {v : Value} {d : DataW H} {ps : List MemPlace} (hval : Value.okWide Try.prog w r b0 23 v) (hd : DataW.Trod enc Try.prog w base spare held 23 v d ps) : ∃ (a : Option Addr) (cap : Nat) (L : List Kp), v = .slice a L.length cap ∧ Holds (oldH w) 3 (.slice a L.length cap) L.length (kps L) := by
  obtain ⟨a, len, cap, rfl⟩ := okWide_slice Try.underlying23 hval
  obtain ⟨fuel, hf⟩ := hd
  obtain ⟨a', l', p', L, e0, q0, h0, o0, m0⟩ := open_slice_of Kp.c (fun _ => True) (wd := 3) Try.underlying23 (by kernel_rfl) (by omega) Kp.len heK hf
  simp [Value.cells] at e0
  obtain ⟨rfl, rfl, rfl⟩ := e0
  subst q0
  exact ⟨a, cap, L, rfl, h0⟩

theorem own : ownKnob Try.prog.godebug = none := by kernel_rfl
theorem laidOut : laidOutB Try.prog = true := by kernel_rfl

set_option maxRecDepth 100000 in
theorem lifted (os : Os) (started : os.Started) (H : Type) (enc : TypeId × Value → H) :
    ReturnsInHanded {} Try.checked os 3 .any (Rows.devBytesSpec.pre6 enc Try.prog Try.f3 Rows.devBytesRow.domain false) (Rows.devBytesSpec.post enc Try.prog Try.f3 false true false false) := by
  refine returnsInHanded_of_change (C := Try.checked) own started (by kernel_rfl) Try.func3
    (ChangeSpec.witness6 (enc := enc) (C := Try.checked) false ⟨#[], #[.slice none 0 0, .slice none 0 0], []⟩ 8 (by kernel_rfl) (by kernel_rfl) (by kernel_rfl) (by kernel_rfl)) ?_
  intro W base args ds gs before hval0 hW hcnd _
  have hval : ∀ (j : Nat) t v, Try.f3.params[j]? = some t → args[j]? = some v → Value.okWide Try.prog W .any base t v := hval0
  have hW' := hW
  obtain ⟨p, q, hA0, hV, rfl, hfz, hnd⟩ := hW
  have hA : DataW.TrodAll enc Try.prog W 0 (fun _ => true) true Try.f3.params.toList args.toList ds p := hA0
  rw [Try.params3] at hA hval
  obtain ⟨v0, vs0, d0, ds0, p0, q0, hargs, rfl, rfl, k0, r0⟩ := trodAll_cons hA
  obtain ⟨v1, vs1, d1, ds1, p1, q1, rfl, rfl, rfl, k1, r1⟩ := trodAll_cons r0
  obtain ⟨rfl, rfl, rfl⟩ := trodAll_nil r1
  obtain rfl : args = #[v0, v1] := by cases args; simp_all
  obtain ⟨rfl, rfl⟩ := trodVars_none hV
  have lt0 : ∀ x ∈ p0, x.block < W.heap.size := by obtain ⟨m, hm⟩ := k0; exact DataW.trod_lt m _ _ _ hm
  obtain ⟨aA, cA, LA, rfl, hvA, hoA⟩ := argOs (hval 0 22 v0 rfl rfl) k0
  have lt1 : ∀ x ∈ p1, x.block < W.heap.size := by obtain ⟨m, hm⟩ := k1; exact DataW.trod_lt m _ _ _ hm
  obtain ⟨aK, cK, KK, rfl, hvK⟩ := argKs (hval 1 23 v1 rfl rfl) k1
  clear hA0 hval0
  refine (calls_of_old (lawBytes (oldH W) aA cA LA hvA aK cK KK hvK)).mono fun e W' ⟨he, bel⟩ => ?_
  subst he
  exact ⟨_, rfl, _, _, _, [], _, [], hW', trodAll_mk1 (shut_bool Try.underlying4 _), (trodAll_cons_mk (Below.trod laidOut (by kernel_rfl) (of_decide_eq_true (by kernel_rfl)) k0 bel lt0) (trodAll_cons_mk (Below.trod laidOut (by kernel_rfl) (of_decide_eq_true (by kernel_rfl)) k1 bel lt1) trodAll_mk0)), rfl, bel.frame _, fun h => by cases h⟩

theorem over : Rows.devBytesRow.holds Try.pinned (OpenSpec.ofChange Rows.devBytesSpec) :=
  OpenClaim.holds_of_wide 3 Try.f3 rfl rfl rfl rfl rfl rfl rfl ⟨rfl, rfl, rfl, rfl, rfl⟩ rfl rfl rfl rfl rfl (by kernel_rfl) Try.func3 (by kernel_rfl)
    (of_decide_eq_true (by kernel_rfl)) (by unfold Func.isWrapper; first | (rw [if_pos (by decide +kernel)]; kernel_rfl) | (rw [if_neg (by decide +kernel)]; exact ⟨rfl, rfl⟩))
    (fun os started H enc _ => lifted os started H enc)

theorem proved : Rows.DevBytesSaid := over
#print axioms proved
end Go.Proofs.Ytkmjncmdhinlgaa.devBytes
