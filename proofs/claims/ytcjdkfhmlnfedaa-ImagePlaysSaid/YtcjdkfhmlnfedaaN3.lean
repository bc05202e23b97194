/-
  ImagePlays: what is saved and loaded, whatever stands in the sectors.
-/
import Derived.Test.YtcjdkfhmlnfedaaRows
import Derived.WalkKit
import Derived.ProofKit
import Derived.OpenShut
import Derived.KernelRfl
import Derived.Test.YtcjdkfhmlnfedaaX7
namespace Go.Proofs.Ytcjdkfhmlnfedaa.imagePlays
open Go Go.Proofs.Ytcjdkfhmlnfedaa.HL Go.Proofs Go.RowKit Go.ChangeShapes Go.WideShapes Go.ChangeAt
set_option linter.unusedVariables false

theorem heB {H : Type} {enc : TypeId × Value → H} {w : World} {base : Nat} {spare : Nat → Bool} {held : Bool} {fuel : Nat} {cs : List Value} {x : DataW H × List MemPlace} (h : DataW.trod enc Try.prog w base spare held fuel 22 cs = some x) : ∃ (a : Option Addr) (cap : Nat) (L : List Int), cs = [.slice a L.length cap] ∧ Holds (oldH w) 1 (.slice a L.length cap) L.length (u8s L) ∧ L.length ≤ cap ∧ L.length ≤ maxLen ∧ ByteL L := by
  obtain ⟨a, len, cap, L, rfl, h1, rfl, h2, h3⟩ := open_ints_slice Try.underlying22 Try.underlying5 (by kernel_rfl) h
  refine ⟨a, cap, L, rfl, h1, ?_, h2, byteL_of_wf h3⟩
  rcases open_ints Try.underlying22 Try.underlying5 (by kernel_rfl) h with ⟨e, _⟩ | ⟨a', len', cap', zs, e, _, h4, _⟩
  · injection e with e _; injection e with _ e1 e2; omega
  · injection e with e _; injection e with _ e1 e2; omega

theorem fl113 {H : Type} {enc : TypeId × Value → H} {w : World} {base : Nat} {spare : Nat → Bool} {held : Bool} {fuel : Nat} {cs : List Value} {x : DataW H × List MemPlace} (h : DataW.trod enc Try.prog w base spare held fuel 113 cs = some x) : ∃ (z0 : Int) (z1 : Int) (z2 : Int), cs = [.int .i64 z0, .int .i64 z1, .int .i64 z2] ∧ (-9223372036854775808 ≤ z0 ∧ z0 ≤ 9223372036854775807) ∧ (-9223372036854775808 ≤ z1 ∧ z1 ≤ 9223372036854775807) ∧ (-9223372036854775808 ≤ z2 ∧ z2 ≤ 9223372036854775807) := by
  have hl := struct_len Try.underlying113 h
  rw [show Try.prog.cellsOf 113 = 3 from by kernel_rfl] at hl
  obtain ⟨_, _, h_0⟩ := field_cells Try.underlying113 h 0 rfl (o := 0) (n := 1) rfl (by kernel_rfl)
  obtain ⟨z0, g0, w0⟩ := int_cell Try.underlying3 h_0
  obtain ⟨_, _, h_1⟩ := field_cells Try.underlying113 h 1 rfl (o := 1) (n := 1) rfl (by kernel_rfl)
  obtain ⟨z1, g1, w1⟩ := int_cell Try.underlying3 h_1
  obtain ⟨_, _, h_2⟩ := field_cells Try.underlying113 h 2 rfl (o := 2) (n := 1) rfl (by kernel_rfl)
  obtain ⟨z2, g2, w2⟩ := int_cell Try.underlying3 h_2
  refine ⟨z0, z1, z2, ?_, i64_of_wf w0, i64_of_wf w1, i64_of_wf w2⟩
  apply List.ext_getElem?; intro i
  match i with
  | 0 => simpa using g0
  | 1 => simpa using g1
  | 2 => simpa using g2
  | i + 3 => rw [List.getElem?_eq_none (by rw [hl]; omega)]; simp

theorem heK {H : Type} {enc : TypeId × Value → H} {w : World} {base : Nat} {spare : Nat → Bool} {held : Bool} (n : Nat) (cs : List Value) (x : DataW H × List MemPlace) (h : DataW.trod enc Try.prog w base spare held n 113 cs = some x) : ∃ a : Kp, cs = a.c ∧ True := by
  obtain ⟨z0, z1, z2, hc, _⟩ := fl113 h
  exact ⟨⟨z0, z1, z2⟩, hc, trivial⟩

theorem one_at {cs : List Value} {o : Nat} {v : Value} (h : (cs.drop o).take 1 = [v]) : cs[o]? = some v := by
  have h5 : ((cs.drop o).take 1)[0]? = some v := by rw [h]; rfl
  rw [List.getElem?_take_of_lt (by omega), List.getElem?_drop] at h5
  exact h5

set_option maxRecDepth 100000 in
theorem heO {H : Type} {enc : TypeId × Value → H} {w : World} {base : Nat} {spare : Nat → Bool} {held : Bool} (n : Nat) (cs : List Value) (x : DataW H × List MemPlace) (h : DataW.trod enc Try.prog w base spare held n 48 cs = some x) : ∃ a : Op6, cs = a.c ∧ (a.ok (oldH w) ∧ ByteL a.b ∧ ByteL a.x.b ∧ -9223372036854775808 ≤ a.n) := by
  have hl := struct_len Try.underlying48 h
  rw [show Try.prog.cellsOf 48 = 70 from by kernel_rfl] at hl
  obtain ⟨_, _, h0⟩ := field_cells Try.underlying48 h 0 rfl (o := 0) (n := 1) rfl (by kernel_rfl)
  obtain ⟨_, _, h1⟩ := field_cells Try.underlying48 h 1 rfl (o := 1) (n := 1) rfl (by kernel_rfl)
  obtain ⟨_, _, h2⟩ := field_cells Try.underlying48 h 2 rfl (o := 2) (n := 1) rfl (by kernel_rfl)
  obtain ⟨_, _, h3⟩ := field_cells Try.underlying48 h 3 rfl (o := 3) (n := 1) rfl (by kernel_rfl)
  obtain ⟨_, _, h4⟩ := field_cells Try.underlying48 h 4 rfl (o := 4) (n := 1) rfl (by kernel_rfl)
  obtain ⟨_, _, h5⟩ := field_cells Try.underlying48 h 5 rfl (o := 5) (n := 64) rfl (by kernel_rfl)
  obtain ⟨_, _, h6⟩ := field_cells Try.underlying48 h 6 rfl (o := 69) (n := 1) rfl (by kernel_rfl)
  obtain ⟨z0, g0, w0⟩ := int_cell Try.underlying3 h0
  obtain ⟨z1, g1, w1⟩ := int_cell Try.underlying3 h1
  obtain ⟨z2, g2, w2⟩ := int_cell Try.underlying3 h2
  obtain ⟨z3, g3, w3⟩ := int_cell Try.underlying3 h3
  obtain ⟨ba, bc, b, e4, hb, hc, _, hB⟩ := heB h4
  obtain ⟨L, e5, l5, w5⟩ := open_ints_array Try.underlying45 Try.underlying5 (by kernel_rfl) (by kernel_rfl) h5
  obtain ⟨ka, kl, kc, M, e6, q6, hk, _, _⟩ := open_slice_of Kp.c (fun _ => True) (wd := 3) Try.underlying46 (by kernel_rfl) (by omega) Kp.len heK h6
  subst q6
  have g4 := one_at e4
  have g6 := one_at e6
  refine ⟨⟨z0, z1, z2, z3, ba, bc, b, ⟨L, l5⟩, ka, kc, M⟩, ?_, ⟨hk, hb, hc, (i64_of_wf w3).2⟩, hB, byteL_of_wf w5, (i64_of_wf w3).1⟩
  have hlc := Op6.len ⟨z0, z1, z2, z3, ba, bc, b, ⟨L, l5⟩, ka, kc, M⟩
  apply List.ext_getElem?
  intro i
  by_cases hi : i < 70
  · by_cases h69 : i = 69
    · subst h69; rw [g6]; exact (Op6.keep_at ⟨z0, z1, z2, z3, ba, bc, b, ⟨L, l5⟩, ka, kc, M⟩).symm
    · by_cases h5i : 5 ≤ i
      · obtain ⟨j, rfl⟩ : ∃ j, i = 5 + j := ⟨i - 5, by omega⟩
        have hj : j < 64 := by omega
        have e7 : ((cs.drop 5).take 64)[j]? = (L.map (Value.int .u8 ·))[j]? := by rw [e5]
        rw [List.getElem?_take_of_lt hj, List.getElem?_drop] at e7
        rw [e7, Nat.add_comm]
        show _ = (Sec.c ⟨L, l5⟩ ++ [_])[j]?
        rw [List.getElem?_append_left (by rw [Sec.len]; exact hj)]
      · match i, h5i with
        | 0, _ => rw [g0]; rfl
        | 1, _ => rw [g1]; rfl
        | 2, _ => rw [g2]; rfl
        | 3, _ => rw [g3]; rfl
        | 4, _ => rw [g4]; rfl
        | i + 5, hh => omega
  · rw [List.getElem?_eq_none (by omega), List.getElem?_eq_none (by rw [hlc]; omega)]

theorem heOs {H : Type} {enc : TypeId × Value → H} {w : World} {base : Nat} {spare : Nat → Bool} {held : Bool} {fuel : Nat} {cs : List Value} {x : DataW H × List MemPlace} (h : DataW.trod enc Try.prog w base spare held fuel 27 cs = some x) : ∃ (a : Option Addr) (cap : Nat) (L : List Op6), cs = [.slice a L.length cap] ∧ Holds (oldH w) 70 (.slice a L.length cap) L.length (ops6 L) ∧ (∀ o ∈ L, o.ok (oldH w) ∧ ByteL o.b ∧ ByteL o.x.b ∧ -9223372036854775808 ≤ o.n) := by
  obtain ⟨a, l, p, L, e, q, h0, o0, _⟩ := open_slice_of Op6.c (fun o => Op6.ok (oldH w) o ∧ ByteL o.b ∧ ByteL o.x.b ∧ -9223372036854775808 ≤ o.n) (wd := 70) Try.underlying27 (by kernel_rfl) (by omega) Op6.len heO h
  subst q
  exact ⟨a, p, L, e, h0, o0⟩

set_option maxRecDepth 100000 in
theorem argOps {H : Type} {enc : TypeId × Value → H} {w : World} {base : Nat} {spare : Nat → Bool} {held : Bool} {r : Reach} {b0 : Nat} {v : Value} {d : DataW H} {ps : List MemPlace} (hval : Value.okWide Try.prog w r b0 27 v) (hd : DataW.Trod enc Try.prog w base spare held 27 v d ps) : ∃ (a : Option Addr) (cap : Nat) (L : List Op6), v = .slice a L.length cap ∧ Holds (oldH w) 70 (.slice a L.length cap) L.length (ops6 L) ∧ (∀ o ∈ L, o.ok (oldH w) ∧ ByteL o.b ∧ ByteL o.x.b ∧ -9223372036854775808 ≤ o.n) := by
  obtain ⟨a, len, cap, rfl⟩ := okWide_slice Try.underlying27 hval
  obtain ⟨fuel, hf⟩ := hd
  obtain ⟨a', p', L, e0, h0, o0⟩ := heOs hf
  simp [Value.cells] at e0
  obtain ⟨rfl, rfl, rfl⟩ := e0
  exact ⟨a, cap, L, rfl, h0, o0⟩

theorem own : ownKnob Try.prog.godebug = none := by kernel_rfl
theorem laidOut : laidOutB Try.prog = true := by kernel_rfl

set_option maxRecDepth 100000 in
theorem lifted (os : Os) (started : os.Started) (H : Type) (enc : TypeId × Value → H) :
    ReturnsInHanded {} Try.checked os 4 .any (Rows.imagePlaysSpec.pre6 enc Try.prog Try.f4 Rows.imagePlaysRow.domain false) (Rows.imagePlaysSpec.post enc Try.prog Try.f4 false true false false) := by
  refine returnsInHanded_of_change (C := Try.checked) own started (by kernel_rfl) Try.func4
    (ChangeSpec.witness6 (enc := enc) (C := Try.checked) false ⟨#[], #[.int .i64 0, .slice none 0 0], []⟩ 8 (by kernel_rfl) (by kernel_rfl) (by kernel_rfl) (by kernel_rfl)) ?_
  intro W base args ds gs before hval0 hW hcnd _
  have hval : ∀ (j : Nat) t v, Try.f4.params[j]? = some t → args[j]? = some v → Value.okWide Try.prog W .any base t v := hval0
  have hW' := hW
  obtain ⟨p, q, hA0, hV, rfl, hfz, hnd⟩ := hW
  have hA : DataW.TrodAll enc Try.prog W 0 (fun _ => true) true Try.f4.params.toList args.toList ds p := hA0
  rw [Try.params4] at hA hval
  obtain ⟨v0, vs0, d0, ds0, p0, q0, hargs, rfl, rfl, k0, r0⟩ := trodAll_cons hA
  obtain ⟨v1, vs1, d1, ds1, p1, q1, rfl, rfl, rfl, k1, r1⟩ := trodAll_cons r0
  obtain ⟨rfl, rfl, rfl⟩ := trodAll_nil r1
  obtain rfl : args = #[v0, v1] := by cases args; simp_all
  obtain ⟨rfl, rfl⟩ := trodVars_none hV
  have lt0 : ∀ x ∈ p0, x.block < W.heap.size := by obtain ⟨m, hm⟩ := k0; exact DataW.trod_lt m _ _ _ hm
  obtain ⟨size, rfl, size1, size2⟩ := arg_i64 Try.underlying3 (hval 0 3 v0 rfl rfl) k0
  have lt1 : ∀ x ∈ p1, x.block < W.heap.size := by obtain ⟨m, hm⟩ := k1; exact DataW.trod_lt m _ _ _ hm
  obtain ⟨a2, c2, M, rfl, hv2, ho2⟩ := argOps (hval 1 27 v1 rfl rfl) k1
  clear hA0 hval0
  refine (calls_of_old (lawPlays (oldH W) size a2 c2 M hv2 (fun x hx => ⟨(ho2 x hx).1, (ho2 x hx).2.1, (ho2 x hx).2.2.1⟩) (fun x hx => (ho2 x hx).2.2.2))).mono fun e W' ⟨he, bel⟩ => ?_
  subst he
  exact ⟨_, rfl, _, _, _, [], _, [], hW', trodAll_mk1 (shut_bool Try.underlying4 _), (trodAll_cons_mk (Below.trod laidOut (by kernel_rfl) (of_decide_eq_true (by kernel_rfl)) k0 bel lt0) (trodAll_cons_mk (Below.trod laidOut (by kernel_rfl) (of_decide_eq_true (by kernel_rfl)) k1 bel lt1) trodAll_mk0)), rfl, bel.frame _, fun h => by cases h⟩

theorem over : Rows.imagePlaysRow.holds Try.pinned (OpenSpec.ofChange Rows.imagePlaysSpec) :=
  OpenClaim.holds_of_wide 4 Try.f4 rfl rfl rfl rfl rfl rfl rfl ⟨rfl, rfl, rfl, rfl, rfl⟩ rfl rfl rfl rfl rfl (by kernel_rfl) Try.func4 (by kernel_rfl)
    (of_decide_eq_true (by kernel_rfl)) (by unfold Func.isWrapper; first | (rw [if_pos (by decide +kernel)]; kernel_rfl) | (rw [if_neg (by decide +kernel)]; exact ⟨rfl, rfl⟩))
    (fun os started H enc _ => lifted os started H enc)

theorem proved : Rows.ImagePlaysSaid := over
#print axioms proved
end Go.Proofs.Ytcjdkfhmlnfedaa.imagePlays
