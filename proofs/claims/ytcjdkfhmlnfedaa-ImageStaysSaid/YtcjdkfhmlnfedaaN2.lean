/-
  ImageStays: what was saved is loaded, whatever crashes are behind it.
-/
import Derived.Test.YtcjdkfhmlnfedaaRows
import Derived.WalkKit
import Derived.ProofKit
import Derived.OpenShut
import Derived.KernelRfl
import Derived.Test.YtcjdkfhmlnfedaaX5
namespace Go.Proofs.Ytcjdkfhmlnfedaa.imageStays
open Go Go.Proofs.Ytcjdkfhmlnfedaa.HL Go.Proofs Go.RowKit Go.ChangeShapes Go.WideShapes Go.ChangeAt
set_option linter.unusedVariables false

theorem heB {H : Type} {enc : TypeId × Value → H} {w : World} {base : Nat} {spare : Nat → Bool} {held : Bool} {fuel : Nat} {cs : List Value} {x : DataW H × List MemPlace} (h : DataW.trod enc Try.prog w base spare held fuel 22 cs = some x) : ∃ (a : Option Addr) (cap : Nat) (L : List Int), cs = [.slice a L.length cap] ∧ Holds (oldH w) 1 (.slice a L.length cap) L.length (u8s L) ∧ L.length ≤ cap ∧ L.length ≤ maxLen ∧ ByteL L := by
  obtain ⟨a, len, cap, L, rfl, h1, rfl, h2, h3⟩ := open_ints_slice Try.underlying22 Try.underlying5 (by kernel_rfl) h
  refine ⟨a, cap, L, rfl, h1, ?_, h2, byteL_of_wf h3⟩
  rcases open_ints Try.underlying22 Try.underlying5 (by kernel_rfl) h with ⟨e, _⟩ | ⟨a', len', cap', zs, e, _, h4, _⟩
  · injection e with e _; injection e with _ e1 e2; omega
  · injection e with e _; injection e with _ e1 e2; omega

theorem fl113 {H : Type} {enc : TypeId × Value → H} {w : World} {base : Nat} {spare : Nat → Bool} {held : Bool} {fuel : Nat} {cs : List Value} {x : DataW H × List MemPlace} (h : DataW.trod enc Try.prog w base spare held fuel 113 cs = some x) : ∃ (z0 : Int) (z1 : Int) (z2 : Int), cs = [.int .i64 z0, .int .i64 z1, .int .i64 z2] ∧ (-9223372036854775808 ≤ z0 ∧ z0 ≤ 9223372036854775807) ∧ (-9223372036854775808 ≤ z1 ∧ z1 ≤ 9223372036854775807) ∧ (-9223372036854775808 ≤ z2 ∧ z2 ≤ 9223372036854775807) := by
  have hl := struct_len Try.underlying113 h
  rw [show Try.prog.cellsOf 113 = 3 from by kernel_rfl] at hl
  obtain ⟨_, _, h_0⟩ := field_cells Try.underlying113 h 0 rfl (o := 0) (n := 1) rfl (by kernel_rfl)
  obtain ⟨z0, g0, w0⟩ := int_cell Try.underlying3 h_0
  obtain ⟨_, _, h_1⟩ := field_cells Try.underlying113 h 1 rfl (o := 1) (n := 1) rfl (by kernel_rfl)
  obtain ⟨z1, g1, w1⟩ := int_cell Try.underlying3 h_1
  obtain ⟨_, _, h_2⟩ := field_cells Try.underlying113 h 2 rfl (o := 2) (n := 1) rfl (by kernel_rfl)
  obtain ⟨z2, g2, w2⟩ := int_cell Try.underlying3 h_2
  refine ⟨z0, z1, z2, ?_, i64_of_wf w0, i64_of_wf w1, i64_of_wf w2⟩
  apply List.ext_getElem?; intro i
  match i with
  | 0 => simpa using g0
  | 1 => simpa using g1
  | 2 => simpa using g2
  | i + 3 => rw [List.getElem?_eq_none (by rw [hl]; omega)]; simp

theorem heK {H : Type} {enc : TypeId × Value → H} {w : World} {base : Nat} {spare : Nat → Bool} {held : Bool} (n : Nat) (cs : List Value) (x : DataW H × List MemPlace) (h : DataW.trod enc Try.prog w base spare held n 113 cs = some x) : ∃ a : Kp, cs = a.c ∧ True := by
  obtain ⟨z0, z1, z2, hc, _⟩ := fl113 h
  exact ⟨⟨z0, z1, z2⟩, hc, trivial⟩

theorem one_at {cs : List Value} {o : Nat} {v : Value} (h : (cs.drop o).take 1 = [v]) : cs[o]? = some v := by
  have h5 : ((cs.drop o).take 1)[0]? = some v := by rw [h]; rfl
  rw [List.getElem?_take_of_lt (by omega), List.getElem?_drop] at h5
  exact h5

set_option maxRecDepth 100000 in
theorem heO {H : Type} {enc : TypeId × Value → H} {w : World} {base : Nat} {spare : Nat → Bool} {held : Bool} (n : Nat) (cs : List Value) (x : DataW H × List MemPlace) (h : DataW.trod enc Try.prog w base spare held n 48 cs = some x) : ∃ a : Op6, cs = a.c ∧ (a.ok (oldH w) ∧ ByteL a.b ∧ ByteL a.x.b) := by
  have hl := struct_len Try.underlying48 h
  rw [show Try.prog.cellsOf 48 = 70 from by kernel_rfl] at hl
  obtain ⟨_, _, h0⟩ := field_cells Try.underlying48 h 0 rfl (o := 0) (n := 1) rfl (by kernel_rfl)
  obtain ⟨_, _, h1⟩ := field_cells Try.underlying48 h 1 rfl (o := 1) (n := 1) rfl (by kernel_rfl)
  obtain ⟨_, _, h2⟩ := field_cells Try.underlying48 h 2 rfl (o := 2) (n := 1) rfl (by kernel_rfl)
  obtain ⟨_, _, h3⟩ := field_cells Try.underlying48 h 3 rfl (o := 3) (n := 1) rfl (by kernel_rfl)
  obtain ⟨_, _, h4⟩ := field_cells Try.underlying48 h 4 rfl (o := 4) (n := 1) rfl (by kernel_rfl)
  obtain ⟨_, _, h5⟩ := field_cells Try.underlying48 h 5 rfl (o := 5) (n := 64) rfl (by kernel_rfl)
  obtain ⟨_, _, h6⟩ := field_cells Try.underlying48 h 6 rfl (o := 69) (n := 1) rfl (by kernel_rfl)
  obtain ⟨z0, g0, w0⟩ := int_cell Try.underlying3 h0
  obtain ⟨z1, g1, w1⟩ := int_cell Try.underlying3 h1
  obtain ⟨z2, g2, w2⟩ := int_cell Try.underlying3 h2
  obtain ⟨z3, g3, w3⟩ := int_cell Try.underlying3 h3
  obtain ⟨ba, bc, b, e4, hb, hc, _, hB⟩ := heB h4
  obtain ⟨L, e5, l5, w5⟩ := open_ints_array Try.underlying45 Try.underlying5 (by kernel_rfl) (by kernel_rfl) h5
  obtain ⟨ka, kl, kc, M, e6, q6, hk, _, _⟩ := open_slice_of Kp.c (fun _ => True) (wd := 3) Try.underlying46 (by kernel_rfl) (by omega) Kp.len heK h6
  subst q6
  have g4 := one_at e4
  have g6 := one_at e6
  refine ⟨⟨z0, z1, z2, z3, ba, bc, b, ⟨L, l5⟩, ka, kc, M⟩, ?_, ⟨hk, hb, hc, (i64_of_wf w3).2⟩, hB, byteL_of_wf w5⟩
  have hlc := Op6.len ⟨z0, z1, z2, z3, ba, bc, b, ⟨L, l5⟩, ka, kc, M⟩
  apply List.ext_getElem?
  intro i
  by_cases hi : i < 70
  · by_cases h69 : i = 69
    · subst h69; rw [g6]; exact (Op6.keep_at ⟨z0, z1, z2, z3, ba, bc, b, ⟨L, l5⟩, ka, kc, M⟩).symm
    · by_cases h5i : 5 ≤ i
      · obtain ⟨j, rfl⟩ : ∃ j, i = 5 + j := ⟨i - 5, by omega⟩
        have hj : j < 64 := by omega
        have e7 : ((cs.drop 5).take 64)[j]? = (L.map (Value.int .u8 ·))[j]? := by rw [e5]
        rw [List.getElem?_take_of_lt hj, List.getElem?_drop] at e7
        rw [e7, Nat.add_comm]
        show _ = (Sec.c ⟨L, l5⟩ ++ [_])[j]?
        rw [List.getElem?_append_left (by rw [Sec.len]; exact hj)]
      · match i, h5i with
        | 0, _ => rw [g0]; rfl
        | 1, _ => rw [g1]; rfl
        | 2, _ => rw [g2]; rfl
        | 3, _ => rw [g3]; rfl
        | 4, _ => rw [g4]; rfl
        | i + 5, hh => omega
  · rw [List.getElem?_eq_none (by omega), List.getElem?_eq_none (by rw [hlc]; omega)]

theorem heOs {H : Type} {enc : TypeId × Value → H} {w : World} {base : Nat} {spare : Nat → Bool} {held : Bool} {fuel : Nat} {cs : List Value} {x : DataW H × List MemPlace} (h : DataW.trod enc Try.prog w base spare held fuel 27 cs = some x) : ∃ (a : Option Addr) (cap : Nat) (L : List Op6), cs = [.slice a L.length cap] ∧ Holds (oldH w) 70 (.slice a L.length cap) L.length (ops6 L) ∧ (∀ o ∈ L, o.ok (oldH w) ∧ ByteL o.b ∧ ByteL o.x.b) := by
  obtain ⟨a, l, p, L, e, q, h0, o0, _⟩ := open_slice_of Op6.c (fun o => Op6.ok (oldH w) o ∧ ByteL o.b ∧ ByteL o.x.b) (wd := 70) Try.underlying27 (by kernel_rfl) (by omega) Op6.len heO h
  subst q
  exact ⟨a, p, L, e, h0, o0⟩

set_option maxRecDepth 100000 in
theorem argSv {H : Type} {enc : TypeId × Value → H} {w : World} {base : Nat} {spare : Nat → Bool} {held : Bool} {r : Reach} {b0 : Nat} {v : Value} {d : DataW H} {ps : List MemPlace} (hval : Value.okWide Try.prog w r b0 69 v) (hd : DataW.Trod enc Try.prog w base spare held 69 v d ps) : ∃ (z0 z1 : Int) (a : Option Addr) (cap : Nat) (L : List Int) (a2 : Option Addr) (cap2 : Nat) (M : List Op6), v = .agg #[.int .i64 z0, .int .i64 z1, .slice a L.length cap, .slice a2 M.length cap2] ∧ Holds (oldH w) 1 (.slice a L.length cap) L.length (u8s L) ∧ L.length ≤ cap ∧ L.length ≤ maxLen ∧ ByteL L ∧ Holds (oldH w) 70 (.slice a2 M.length cap2) M.length (ops6 M) ∧ (∀ o ∈ M, o.ok (oldH w) ∧ ByteL o.b ∧ ByteL o.x.b) := by
  obtain ⟨fuel, hf⟩ := hd
  obtain ⟨hl, hi⟩ := open_struct1s Try.underlying69 (by kernel_rfl) (by
    intro i f hif
    match i, hif with
    | 0, hif => cases hif; exact ⟨rfl, by kernel_rfl⟩
    | 1, hif => cases hif; exact ⟨rfl, by kernel_rfl⟩
    | 2, hif => cases hif; exact ⟨rfl, by kernel_rfl⟩
    | 3, hif => cases hif; exact ⟨rfl, by kernel_rfl⟩
    | i + 4, hif => simp at hif) hf
  obtain ⟨c0, y0, n0, g0, k0⟩ := hi 0 _ rfl
  obtain ⟨c1, y1, n1, g1, k1⟩ := hi 1 _ rfl
  obtain ⟨c2, y2, n2, g2, k2⟩ := hi 2 _ rfl
  obtain ⟨c3, y3, n3, g3, k3⟩ := hi 3 _ rfl
  obtain ⟨z0, e0, w0⟩ := int_cell (i := 0) (cs := [c0]) Try.underlying3 k0
  obtain ⟨z1, e1, w1⟩ := int_cell (i := 0) (cs := [c1]) Try.underlying3 k1
  obtain ⟨a, cap, L, e2, h1, h2, h3, h4⟩ := heB k2
  obtain ⟨a2, cap2, M, e3, h5, h6⟩ := heOs k3
  simp at e0 e1 e2 e3
  subst e0; subst e1; subst e2; subst e3
  refine ⟨z0, z1, a, cap, L, a2, cap2, M, ?_, h1, h2, h3, h4, h5, h6⟩
  have hc : v.cells.toList = [.int .i64 z0, .int .i64 z1, .slice a L.length cap, .slice a2 M.length cap2] := by
    apply List.ext_getElem?
    intro i
    match i with
    | 0 => simpa using g0
    | 1 => simpa using g1
    | 2 => simpa using g2
    | 3 => simpa using g3
    | i + 4 => rw [List.getElem?_eq_none (by rw [hl]; simp)]; simp
  rw [val_of_agg (.inl ⟨_, Try.underlying69⟩) hval, cells_of_list hc]

theorem own : ownKnob Try.prog.godebug = none := by kernel_rfl
theorem laidOut : laidOutB Try.prog = true := by kernel_rfl

set_option maxRecDepth 100000 in
theorem lifted (os : Os) (started : os.Started) (H : Type) (enc : TypeId × Value → H) :
    ReturnsInHanded {} Try.checked os 5 .any (Rows.imageStaysSpec.pre6 enc Try.prog Try.f5 Rows.imageStaysRow.domain false) (Rows.imageStaysSpec.post enc Try.prog Try.f5 false true false false) := by
  refine returnsInHanded_of_change (C := Try.checked) own started (by kernel_rfl) Try.func5
    (ChangeSpec.witness6 (enc := enc) (C := Try.checked) false ⟨#[], #[.agg #[.int .i64 0, .int .i64 0, .slice none 0 0, .slice none 0 0]], []⟩ 8 (by kernel_rfl) (by kernel_rfl) (by kernel_rfl) (by kernel_rfl)) ?_
  intro W base args ds gs before hval0 hW hcnd _
  have hval : ∀ (j : Nat) t v, Try.f5.params[j]? = some t → args[j]? = some v → Value.okWide Try.prog W .any base t v := hval0
  have hW' := hW
  obtain ⟨p, q, hA0, hV, rfl, hfz, hnd⟩ := hW
  have hA : DataW.TrodAll enc Try.prog W 0 (fun _ => true) true Try.f5.params.toList args.toList ds p := hA0
  rw [Try.params5] at hA hval
  obtain ⟨v0, vs0, d0, ds0, p0, q0, hargs, rfl, rfl, k0, r0⟩ := trodAll_cons hA
  obtain ⟨rfl, rfl, rfl⟩ := trodAll_nil r0
  obtain rfl : args = #[v0] := by cases args; simp_all
  obtain ⟨rfl, rfl⟩ := trodVars_none hV
  have lt0 : ∀ x ∈ p0, x.block < W.heap.size := by obtain ⟨m, hm⟩ := k0; exact DataW.trod_lt m _ _ _ hm
  obtain ⟨z0, z1, ab, cb, L, a2, c2, M, rfl, hv, hc, hm, hB, hv2, ho2⟩ := argSv (hval 0 69 v0 rfl rfl) k0
  clear hA0 hval0
  refine (calls_of_old (lawStays (oldH W) z0 z1 ab cb L hv hc hB (Nat.le_trans hm (by decide)) a2 c2 M hv2 (fun x hx => (ho2 x hx).1))).mono fun e W' ⟨he, bel⟩ => ?_
  subst he
  exact ⟨_, rfl, _, _, _, [], _, [], hW', trodAll_mk1 (shut_bool Try.underlying4 _), (trodAll_cons_mk (Below.trod laidOut (by kernel_rfl) (of_decide_eq_true (by kernel_rfl)) k0 bel lt0) trodAll_mk0), rfl, bel.frame _, fun h => by cases h⟩

theorem over : Rows.imageStaysRow.holds Try.pinned (OpenSpec.ofChange Rows.imageStaysSpec) :=
  OpenClaim.holds_of_wide 5 Try.f5 rfl rfl rfl rfl rfl rfl rfl ⟨rfl, rfl, rfl, rfl, rfl⟩ rfl rfl rfl rfl rfl (by kernel_rfl) Try.func5 (by kernel_rfl)
    (of_decide_eq_true (by kernel_rfl)) (by unfold Func.isWrapper; first | (rw [if_pos (by decide +kernel)]; kernel_rfl) | (rw [if_neg (by decide +kernel)]; exact ⟨rfl, rfl⟩))
    (fun os started H enc _ => lifted os started H enc)

theorem proved : Rows.ImageStaysSaid := over
#print axioms proved
end Go.Proofs.Ytcjdkfhmlnfedaa.imageStays
