/-
  SlotPlays: what is saved and counts, whatever stands in the sectors.
-/
import Derived.Test.YtigofhhonnbkmaaRows
import Derived.WalkKit
import Derived.ProofKit
import Derived.OpenShut
import Derived.KernelRfl
import Derived.Test.YtigofhhonnbkmaaX7
namespace Go.Proofs.Ytigofhhonnbkmaa.slotPlays
open Go Go.Proofs.Ytigofhhonnbkmaa.HL Go.Proofs Go.RowKit Go.ChangeShapes Go.WideShapes Go.ChangeAt
set_option linter.unusedVariables false

theorem heI {H : Type} {enc : TypeId × Value → H} {w : World} {base : Nat} {spare : Nat → Bool} {held : Bool} {fuel : Nat} {cs : List Value} {x : DataW H × List MemPlace} (h : DataW.trod enc Try.prog w base spare held fuel 22 cs = some x) : ∃ (a : Option Addr) (cap : Nat) (L : List Int), cs = [.slice a L.length cap] ∧ Holds (oldH w) 1 (.slice a L.length cap) L.length (i64s L) ∧ L.length ≤ maxLen ∧ ∀ z ∈ L, -9223372036854775808 ≤ z ∧ z ≤ 9223372036854775807 := by
  obtain ⟨a, len, cap, L, rfl, h1, rfl, h2, h3⟩ := open_ints_slice Try.underlying22 Try.underlying3 (by kernel_rfl) h
  exact ⟨a, cap, L, rfl, h1, h2, fun z hz => i64_of_wf (h3 z hz)⟩

theorem one_at {cs : List Value} {o : Nat} {v : Value} (h : (cs.drop o).take 1 = [v]) : cs[o]? = some v := by
  have h5 : ((cs.drop o).take 1)[0]? = some v := by rw [h]; rfl
  rw [List.getElem?_take_of_lt (by omega), List.getElem?_drop] at h5
  exact h5

/-- what a manifest that is handed over is -/
structure MG (H : Hp) (m : Mf) (a : Option Addr) (c : Nat) : Prop where
  h : Holds H 1 (.slice a m.hd.length c) m.hd.length (i64s m.hd)
  l : m.hd.length ≤ maxLen
  w : ∀ z ∈ [m.gen, m.ep, m.ba, m.ar, m.ln] ++ m.hd, -9223372036854775808 ≤ z ∧ z ≤ 9223372036854775807

theorem heM {H : Type} {enc : TypeId × Value → H} {w : World} {base : Nat} {spare : Nat → Bool} {held : Bool} {fuel : Nat} {cs : List Value} {x : DataW H × List MemPlace} (h : DataW.trod enc Try.prog w base spare held fuel 24 cs = some x) : ∃ (m : Mf) (a : Option Addr) (c : Nat), cs = [.int .i64 m.gen, .int .i64 m.ep, .int .i64 m.ba, .int .i64 m.ar, .int .i64 m.ln, .slice a m.hd.length c] ∧ MG (oldH w) m a c := by
  have hl := struct_len Try.underlying24 h
  rw [show Try.prog.cellsOf 24 = 6 from by kernel_rfl] at hl
  obtain ⟨_, _, h0⟩ := field_cells Try.underlying24 h 0 rfl (o := 0) (n := 1) rfl (by kernel_rfl)
  obtain ⟨_, _, h1⟩ := field_cells Try.underlying24 h 1 rfl (o := 1) (n := 1) rfl (by kernel_rfl)
  obtain ⟨_, _, h2⟩ := field_cells Try.underlying24 h 2 rfl (o := 2) (n := 1) rfl (by kernel_rfl)
  obtain ⟨_, _, h3⟩ := field_cells Try.underlying24 h 3 rfl (o := 3) (n := 1) rfl (by kernel_rfl)
  obtain ⟨_, _, h4⟩ := field_cells Try.underlying24 h 4 rfl (o := 4) (n := 1) rfl (by kernel_rfl)
  obtain ⟨_, _, h5⟩ := field_cells Try.underlying24 h 5 rfl (o := 5) (n := 1) rfl (by kernel_rfl)
  obtain ⟨z0, g0, w0⟩ := int_cell Try.underlying3 h0
  obtain ⟨z1, g1, w1⟩ := int_cell Try.underlying3 h1
  obtain ⟨z2, g2, w2⟩ := int_cell Try.underlying3 h2
  obtain ⟨z3, g3, w3⟩ := int_cell Try.underlying3 h3
  obtain ⟨z4, g4, w4⟩ := int_cell Try.underlying3 h4
  obtain ⟨a, c, L, e5, k1, k2, k3⟩ := heI h5
  have g5 := one_at e5
  refine ⟨⟨z0, z1, z2, z3, z4, L⟩, a, c, ?_, ⟨k1, k2, fun z hz => ?_⟩⟩
  · apply List.ext_getElem?
    intro i
    match i with
    | 0 => simpa using g0
    | 1 => simpa using g1
    | 2 => simpa using g2
    | 3 => simpa using g3
    | 4 => simpa using g4
    | 5 => simpa using g5
    | i + 6 => rw [List.getElem?_eq_none (by omega)]; simp
  · rcases List.mem_append.1 hz with hm | hm
    · simp only [List.mem_cons, List.not_mem_nil, or_false] at hm
      rcases hm with rfl | rfl | rfl | rfl | rfl
      · exact i64_of_wf w0
      · exact i64_of_wf w1
      · exact i64_of_wf w2
      · exact i64_of_wf w3
      · exact i64_of_wf w4
    · exact k3 z hm

set_option maxRecDepth 100000 in
theorem argM {H : Type} {enc : TypeId × Value → H} {w : World} {base : Nat} {spare : Nat → Bool} {held : Bool} {r : Reach} {b0 : Nat} {v : Value} {d : DataW H} {ps : List MemPlace} (hval : Value.okWide Try.prog w r b0 24 v) (hd : DataW.Trod enc Try.prog w base spare held 24 v d ps) : ∃ (m : Mf) (a : Option Addr) (c : Nat), v = .agg #[.int .i64 m.gen, .int .i64 m.ep, .int .i64 m.ba, .int .i64 m.ar, .int .i64 m.ln, .slice a m.hd.length c] ∧ MG (oldH w) m a c := by
  obtain ⟨fuel, hf⟩ := hd
  obtain ⟨m, a, c, hc, hg⟩ := heM hf
  exact ⟨m, a, c, by rw [val_of_agg (.inl ⟨_, Try.underlying24⟩) hval, cells_of_list hc], hg⟩

theorem fl143 {H : Type} {enc : TypeId × Value → H} {w : World} {base : Nat} {spare : Nat → Bool} {held : Bool} {fuel : Nat} {cs : List Value} {x : DataW H × List MemPlace} (h : DataW.trod enc Try.prog w base spare held fuel 143 cs = some x) : ∃ (z0 : Int) (z1 : Int) (z2 : Int), cs = [.int .i64 z0, .int .i64 z1, .int .i64 z2] ∧ (-9223372036854775808 ≤ z0 ∧ z0 ≤ 9223372036854775807) ∧ (-9223372036854775808 ≤ z1 ∧ z1 ≤ 9223372036854775807) ∧ (-9223372036854775808 ≤ z2 ∧ z2 ≤ 9223372036854775807) := by
  have hl := struct_len Try.underlying143 h
  rw [show Try.prog.cellsOf 143 = 3 from by kernel_rfl] at hl
  obtain ⟨_, _, h_0⟩ := field_cells Try.underlying143 h 0 rfl (o := 0) (n := 1) rfl (by kernel_rfl)
  obtain ⟨z0, g0, w0⟩ := int_cell Try.underlying3 h_0
  obtain ⟨_, _, h_1⟩ := field_cells Try.underlying143 h 1 rfl (o := 1) (n := 1) rfl (by kernel_rfl)
  obtain ⟨z1, g1, w1⟩ := int_cell Try.underlying3 h_1
  obtain ⟨_, _, h_2⟩ := field_cells Try.underlying143 h 2 rfl (o := 2) (n := 1) rfl (by kernel_rfl)
  obtain ⟨z2, g2, w2⟩ := int_cell Try.underlying3 h_2
  refine ⟨z0, z1, z2, ?_, i64_of_wf w0, i64_of_wf w1, i64_of_wf w2⟩
  apply List.ext_getElem?; intro i
  match i with
  | 0 => simpa using g0
  | 1 => simpa using g1
  | 2 => simpa using g2
  | i + 3 => rw [List.getElem?_eq_none (by rw [hl]; omega)]; simp

theorem heK {H : Type} {enc : TypeId × Value → H} {w : World} {base : Nat} {spare : Nat → Bool} {held : Bool} (n : Nat) (cs : List Value) (x : DataW H × List MemPlace) (h : DataW.trod enc Try.prog w base spare held n 143 cs = some x) : ∃ a : Kp, cs = a.c ∧ True := by
  obtain ⟨z0, z1, z2, hc, _⟩ := fl143 h
  exact ⟨⟨z0, z1, z2⟩, hc, trivial⟩

/-- what an act that is handed over is -/
structure OG (H : Hp) (o : Op15) : Prop where
  ok : o.ok H
  m : MG H o.m o.ma o.mc
  x : ByteL o.x.b
  n0 : -9223372036854775808 ≤ o.n

set_option maxRecDepth 100000 in
theorem heO {H : Type} {enc : TypeId × Value → H} {w : World} {base : Nat} {spare : Nat → Bool} {held : Bool} (n : Nat) (cs : List Value) (x : DataW H × List MemPlace) (h : DataW.trod enc Try.prog w base spare held n 58 cs = some x) : ∃ a : Op15, cs = a.c ∧ OG (oldH w) a := by
  have hl := struct_len Try.underlying58 h
  rw [show Try.prog.cellsOf 58 = 73 from by kernel_rfl] at hl
  obtain ⟨_, _, h0⟩ := field_cells Try.underlying58 h 0 rfl (o := 0) (n := 1) rfl (by kernel_rfl)
  obtain ⟨_, _, h1⟩ := field_cells Try.underlying58 h 1 rfl (o := 1) (n := 1) rfl (by kernel_rfl)
  obtain ⟨_, _, h2⟩ := field_cells Try.underlying58 h 2 rfl (o := 2) (n := 6) rfl (by kernel_rfl)
  obtain ⟨_, _, h3⟩ := field_cells Try.underlying58 h 3 rfl (o := 8) (n := 64) rfl (by kernel_rfl)
  obtain ⟨_, _, h4⟩ := field_cells Try.underlying58 h 4 rfl (o := 72) (n := 1) rfl (by kernel_rfl)
  obtain ⟨z0, g0, w0⟩ := int_cell Try.underlying3 h0
  obtain ⟨z1, g1, w1⟩ := int_cell Try.underlying3 h1
  obtain ⟨m, ma, mc, e2, hg⟩ := heM h2
  obtain ⟨L, e5, l5, w5⟩ := open_ints_array Try.underlying30 Try.underlying5 (by kernel_rfl) (by kernel_rfl) h3
  obtain ⟨ka, kl, kc, M, e6, q6, hk, _, _⟩ := open_slice_of Kp.c (fun _ => True) (wd := 3) Try.underlying56 (by kernel_rfl) (by omega) Kp.len heK h4
  subst q6
  have g6 := one_at e6
  refine ⟨⟨z0, z1, m, ma, mc, ⟨L, l5⟩, ka, kc, M⟩, ?_, ⟨⟨hk, hg.h, Nat.le_trans hg.l (by decide), (i64_of_wf w1).2⟩, hg, byteL_of_wf w5, (i64_of_wf w1).1⟩⟩
  have hlc := Op15.len ⟨z0, z1, m, ma, mc, ⟨L, l5⟩, ka, kc, M⟩
  apply List.ext_getElem?
  intro i
  by_cases hi : i < 73
  · by_cases h69 : i = 72
    · subst h69; rw [g6]; exact (Op15.keep_at ⟨z0, z1, m, ma, mc, ⟨L, l5⟩, ka, kc, M⟩).symm
    · by_cases h5i : 8 ≤ i
      · obtain ⟨j, rfl⟩ : ∃ j, i = 8 + j := ⟨i - 8, by omega⟩
        have hj : j < 64 := by omega
        have e7 : ((cs.drop 8).take 64)[j]? = (L.map (Value.int .u8 ·))[j]? := by rw [e5]
        rw [List.getElem?_take_of_lt hj, List.getElem?_drop] at e7
        rw [e7, Nat.add_comm]
        show _ = (Sec.c ⟨L, l5⟩ ++ [_])[j]?
        rw [List.getElem?_append_left (by rw [Sec.len]; exact hj)]
      · by_cases h2i : 2 ≤ i
        · obtain ⟨j, rfl⟩ : ∃ j, i = 2 + j := ⟨i - 2, by omega⟩
          have hj : j < 6 := by omega
          have e7 := congrArg (fun q : List Value => q[j]?) e2
          try simp only at e7
          rw [List.getElem?_take_of_lt hj, List.getElem?_drop] at e7
          rw [e7]
          match j, hj with
          | 0, _ => rfl
          | 1, _ => rfl
          | 2, _ => rfl
          | 3, _ => rfl
          | 4, _ => rfl
          | 5, _ => rfl
          | j + 6, hh => omega
        · match i, h2i with
          | 0, _ => simpa using g0
          | 1, _ => simpa using g1
          | i + 2, hh => omega
  · rw [List.getElem?_eq_none (by omega), List.getElem?_eq_none (by rw [hlc]; omega)]

theorem heOs {H : Type} {enc : TypeId × Value → H} {w : World} {base : Nat} {spare : Nat → Bool} {held : Bool} {fuel : Nat} {cs : List Value} {x : DataW H × List MemPlace} (h : DataW.trod enc Try.prog w base spare held fuel 45 cs = some x) : ∃ (a : Option Addr) (cap : Nat) (L : List Op15), cs = [.slice a L.length cap] ∧ Holds (oldH w) 73 (.slice a L.length cap) L.length (ops15 L) ∧ (∀ o ∈ L, OG (oldH w) o) := by
  obtain ⟨a, l, p, L, e, q, h0, o0, _⟩ := open_slice_of Op15.c (OG (oldH w)) (wd := 73) Try.underlying45 (by kernel_rfl) (by omega) Op15.len heO h
  subst q
  exact ⟨a, p, L, e, h0, o0⟩

set_option maxRecDepth 100000 in
theorem argOps {H : Type} {enc : TypeId × Value → H} {w : World} {base : Nat} {spare : Nat → Bool} {held : Bool} {r : Reach} {b0 : Nat} {v : Value} {d : DataW H} {ps : List MemPlace} (hval : Value.okWide Try.prog w r b0 45 v) (hd : DataW.Trod enc Try.prog w base spare held 45 v d ps) : ∃ (a : Option Addr) (cap : Nat) (L : List Op15), v = .slice a L.length cap ∧ Holds (oldH w) 73 (.slice a L.length cap) L.length (ops15 L) ∧ (∀ o ∈ L, OG (oldH w) o) := by
  obtain ⟨a, len, cap, rfl⟩ := okWide_slice Try.underlying45 hval
  obtain ⟨fuel, hf⟩ := hd
  obtain ⟨a', p', L, e0, h0, o0⟩ := heOs hf
  simp [Value.cells] at e0
  obtain ⟨rfl, rfl, rfl⟩ := e0
  exact ⟨a, cap, L, rfl, h0, o0⟩

set_option maxRecDepth 100000 in
theorem argI {H : Type} {enc : TypeId × Value → H} {w : World} {base : Nat} {spare : Nat → Bool} {held : Bool} {r : Reach} {b0 : Nat} {v : Value} {d : DataW H} {ps : List MemPlace} (hval : Value.okWide Try.prog w r b0 22 v) (hd : DataW.Trod enc Try.prog w base spare held 22 v d ps) : ∃ (a : Option Addr) (cap : Nat) (L : List Int), v = .slice a L.length cap ∧ Holds (oldH w) 1 (.slice a L.length cap) L.length (i64s L) ∧ L.length ≤ maxLen := by
  obtain ⟨a, len, cap, rfl⟩ := okWide_slice Try.underlying22 hval
  obtain ⟨fuel, hf⟩ := hd
  obtain ⟨a', p', L, e0, h0, h1, _⟩ := heI hf
  simp [Value.cells] at e0
  obtain ⟨rfl, rfl, rfl⟩ := e0
  exact ⟨a, cap, L, rfl, h0, h1⟩

theorem own : ownKnob Try.prog.godebug = none := by kernel_rfl
theorem laidOut : laidOutB Try.prog = true := by kernel_rfl

set_option maxRecDepth 100000 in
theorem lifted (os : Os) (started : os.Started) (H : Type) (enc : TypeId × Value → H) :
    ReturnsInHanded {} Try.checked os 5 .any (Rows.slotPlaysSpec.pre6 enc Try.prog Try.f5 Rows.slotPlaysRow.domain false) (Rows.slotPlaysSpec.post enc Try.prog Try.f5 false true false false) := by
  refine returnsInHanded_of_change (C := Try.checked) own started (by kernel_rfl) Try.func5
    (ChangeSpec.witness6 (enc := enc) (C := Try.checked) false ⟨#[], #[.slice none 0 0, .slice none 0 0], []⟩ 8 (by kernel_rfl) (by kernel_rfl) (by kernel_rfl) (by kernel_rfl)) ?_
  intro W base args ds gs before hval0 hW hcnd _
  have hval : ∀ (j : Nat) t v, Try.f5.params[j]? = some t → args[j]? = some v → Value.okWide Try.prog W .any base t v := hval0
  have hW' := hW
  obtain ⟨p, q, hA0, hV, rfl, hfz, hnd⟩ := hW
  have hA : DataW.TrodAll enc Try.prog W 0 (fun _ => true) true Try.f5.params.toList args.toList ds p := hA0
  rw [Try.params5] at hA hval
  obtain ⟨v0, vs0, d0, ds0, p0, q0, hargs, rfl, rfl, k0, r0⟩ := trodAll_cons hA
  obtain ⟨v1, vs1, d1, ds1, p1, q1, rfl, rfl, rfl, k1, r1⟩ := trodAll_cons r0
  obtain ⟨rfl, rfl, rfl⟩ := trodAll_nil r1
  obtain rfl : args = #[v0, v1] := by cases args; simp_all
  obtain ⟨rfl, rfl⟩ := trodVars_none hV
  have lt0 : ∀ x ∈ p0, x.block < W.heap.size := by obtain ⟨m, hm⟩ := k0; exact DataW.trod_lt m _ _ _ hm
  obtain ⟨a0, c0, L0, rfl, hv0, hl0⟩ := argI (hval 0 22 v0 rfl rfl) k0
  have lt1 : ∀ x ∈ p1, x.block < W.heap.size := by obtain ⟨m, hm⟩ := k1; exact DataW.trod_lt m _ _ _ hm
  obtain ⟨a2, c2, M, rfl, hv2, ho2⟩ := argOps (hval 1 45 v1 rfl rfl) k1
  clear hA0 hval0
  refine (calls_of_old (lawPlays (oldH W) a0 c0 L0 hv0 (Nat.le_trans hl0 (by decide)) a2 c2 M hv2 (fun x hx => ⟨(ho2 x hx).ok, (ho2 x hx).x⟩))).mono fun e W' ⟨he, bel⟩ => ?_
  subst he
  exact ⟨_, rfl, _, _, _, [], _, [], hW', trodAll_mk1 (shut_bool Try.underlying4 _), (trodAll_cons_mk (Below.trod laidOut (by kernel_rfl) (of_decide_eq_true (by kernel_rfl)) k0 bel lt0) (trodAll_cons_mk (Below.trod laidOut (by kernel_rfl) (of_decide_eq_true (by kernel_rfl)) k1 bel lt1) trodAll_mk0)), rfl, bel.frame _, fun h => by cases h⟩

theorem over : Rows.slotPlaysRow.holds Try.pinned (OpenSpec.ofChange Rows.slotPlaysSpec) :=
  OpenClaim.holds_of_wide 5 Try.f5 rfl rfl rfl rfl rfl rfl rfl ⟨rfl, rfl, rfl, rfl, rfl⟩ rfl rfl rfl rfl rfl (by kernel_rfl) Try.func5 (by kernel_rfl)
    (of_decide_eq_true (by kernel_rfl)) (by unfold Func.isWrapper; first | (rw [if_pos (by decide +kernel)]; kernel_rfl) | (rw [if_neg (by decide +kernel)]; exact ⟨rfl, rfl⟩))
    (fun os started H enc _ => lifted os started H enc)

theorem proved : Rows.SlotPlaysSaid := over
#print axioms proved
end Go.Proofs.Ytigofhhonnbkmaa.slotPlays
