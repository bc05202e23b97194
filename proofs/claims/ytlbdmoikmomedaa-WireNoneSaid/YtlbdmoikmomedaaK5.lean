/-
  WireNone: what a nil writer and a nil reader answer; what is bad stays so.
-/
import Derived.Test.YtlbdmoikmomedaaW67
import Derived.Test.YtlbdmoikmomedaaHLFrame
import Derived.Test.YtlbdmoikmomedaaHLFrame2
import Derived.Test.YtlbdmoikmomedaaRows
import Derived.WalkKit
import Derived.ProofKit
import Derived.OpenShut
import Derived.KernelRfl
namespace Go.Proofs.Ytlbdmoikmomedaa.wireNone
open Go Go.Proofs.Ytlbdmoikmomedaa.HL Go.Proofs Go.RowKit Go.ChangeShapes Go.WideShapes Go.ChangeAt
set_option linter.unusedVariables false

theorem he51 {H : Type} {enc : TypeId × Value → H} {w : World} {base : Nat} {spare : Nat → Bool} {held : Bool} (n : Nat) (cs : List Value) (x : DataW H × List MemPlace) (h : DataW.trod enc Try.prog w base spare held n 51 cs = some x) : ∃ a : VL, cs = a.c ∧ a.ok (oldH w) := by
  obtain ⟨hl, hi⟩ := open_struct1s Try.underlying51 (by kernel_rfl) (by
    intro i f hif
    match i, hif with
    | 0, hif => cases hif; exact ⟨rfl, by kernel_rfl⟩
    | 1, hif => cases hif; exact ⟨rfl, by kernel_rfl⟩
    | 2, hif => cases hif; exact ⟨rfl, by kernel_rfl⟩
    | 3, hif => cases hif; exact ⟨rfl, by kernel_rfl⟩
    | i + 4, hif => simp at hif) h
  obtain ⟨c0, y0, n0, g0, k0⟩ := hi 0 _ rfl
  obtain ⟨c1, y1, n1, g1, k1⟩ := hi 1 _ rfl
  obtain ⟨c2, y2, n2, g2, k2⟩ := hi 2 _ rfl
  obtain ⟨c3, y3, n3, g3, k3⟩ := hi 3 _ rfl
  obtain ⟨z0, e0, w0⟩ := int_cell (i := 0) (cs := [c0]) Try.underlying3 k0
  obtain ⟨z1, e1, w1⟩ := int_cell (i := 0) (cs := [c1]) Try.underlying3 k1
  obtain ⟨z2, e2, w2⟩ := int_cell (i := 0) (cs := [c2]) Try.underlying22 k2
  obtain ⟨a3, l3, p3, M, e3, h3, q3, _, o3⟩ := open_ints_slice Try.underlying27 Try.underlying5 (by kernel_rfl) k3
  simp at e0 e1 e2
  cases e3; subst e0; subst e1; subst e2; subst q3
  have u := u64_of_wf w2
  obtain ⟨u2, hu2⟩ := Int.eq_ofNat_of_zero_le u.1
  subst hu2
  have hq : (u2 : Int) ≤ 18446744073709551615 := u.2
  have hq2 : u2 < 18446744073709551616 := by omega
  refine ⟨⟨z0, z1, u2, _, M⟩, ?_, (i64_of_wf w0).1, (i64_of_wf w0).2, (i64_of_wf w1).1, (i64_of_wf w1).2, hq2, h3, byteL_of_wf o3⟩
  apply List.ext_getElem?
  intro i
  match i with
  | 0 => simpa using g0
  | 1 => simpa using g1
  | 2 => simpa using g2
  | 3 => simpa using g3
  | i + 4 => rw [List.getElem?_eq_none (by rw [hl]; simp)]; simp

theorem arg45 {H : Type} {enc : TypeId × Value → H} {w : World} {base : Nat} {spare : Nat → Bool} {held : Bool} {r : Reach} {b0 : Nat} {v : Value} {d : DataW H} {ps : List MemPlace} (hval : Value.okWide Try.prog w r b0 45 v) (hd : DataW.Trod enc Try.prog w base spare held 45 v d ps) : ∃ (L : List VL), Holds (oldH w) 4 v L.length (vls L) ∧ (∀ x ∈ L, x.ok (oldH w)) ∧ L.length ≤ maxLen := by
  obtain ⟨a, len, cap, rfl⟩ := okWide_slice Try.underlying45 hval
  obtain ⟨fuel, hf⟩ := hd
  obtain ⟨a', l', p', L, e0, q0, h0, o0, m0⟩ := open_slice_of VL.c (VL.ok (oldH w)) (wd := 4) Try.underlying45 (by kernel_rfl) (by omega) VL.len he51 hf
  simp [Value.cells] at e0
  obtain ⟨rfl, rfl, rfl⟩ := e0
  subst q0
  exact ⟨L, h0, o0, m0⟩

theorem arg51 {H : Type} {enc : TypeId × Value → H} {w : World} {base : Nat} {spare : Nat → Bool} {held : Bool} {r : Reach} {b0 : Nat} {v : Value} {d : DataW H} {ps : List MemPlace} (hval : Value.okWide Try.prog w r b0 51 v) (hd : DataW.Trod enc Try.prog w base spare held 51 v d ps) : ∃ (k n : Int) (u : Nat) (va : Option Addr) (vc : Nat) (vb : List Int), v = .agg #[.int .i64 k, .int .i64 n, .int .u64 u, .slice va vb.length vc] ∧ VL.ok (oldH w) ⟨k, n, u, .slice va vb.length vc, vb⟩ := by
  obtain ⟨fuel, hf⟩ := hd
  obtain ⟨⟨k, n, u, vv, vb⟩, hc, hok⟩ := he51 _ _ _ hf
  obtain ⟨va, vc, hv⟩ := hok.hv.form
  simp only at hv
  subst hv
  exact ⟨k, n, u, va, vc, vb, by rw [val_of_agg (.inl ⟨_, Try.underlying51⟩) hval, cells_of_list hc], hok⟩

theorem own : ownKnob Try.prog.godebug = none := by kernel_rfl
theorem laidOut : laidOutB Try.prog = true := by kernel_rfl

set_option maxRecDepth 100000 in
theorem lifted (os : Os) (started : os.Started) (H : Type) (enc : TypeId × Value → H) :
    ReturnsInHanded {} Try.checked os 7 .any (Rows.wireNoneSpec.pre6 enc Try.prog Try.f7 Rows.wireNoneRow.domain false) (Rows.wireNoneSpec.post enc Try.prog Try.f7 false true false false) := by
  refine returnsInHanded_of_change (C := Try.checked) own started (by kernel_rfl) Try.func7
    (ChangeSpec.witness6 (enc := enc) (C := Try.checked) false ⟨#[], #[.agg #[.int .i64 0, .int .i64 0, .int .u64 0, .slice none 0 0], .slice none 0 0], []⟩ 8 (by kernel_rfl) (by kernel_rfl) (by kernel_rfl) (by kernel_rfl)) ?_
  intro W base args ds gs before hval0 hW hcnd _
  have hval : ∀ (j : Nat) t v, Try.f7.params[j]? = some t → args[j]? = some v → Value.okWide Try.prog W .any base t v := hval0
  have hW' := hW
  obtain ⟨p, q, hA0, hV, rfl, hfz, hnd⟩ := hW
  have hA : DataW.TrodAll enc Try.prog W 0 (fun _ => true) true Try.f7.params.toList args.toList ds p := hA0
  rw [Try.params7] at hA hval
  obtain ⟨v0, vs0, d0, ds0, p0, q0, hargs, rfl, rfl, k0, r0⟩ := trodAll_cons hA
  obtain ⟨v1, vs1, d1, ds1, p1, q1, rfl, rfl, rfl, k1, r1⟩ := trodAll_cons r0
  obtain ⟨rfl, rfl, rfl⟩ := trodAll_nil r1
  obtain rfl : args = #[v0, v1] := by cases args; simp_all
  obtain ⟨rfl, rfl⟩ := trodVars_none hV
  have lt0 : ∀ x ∈ p0, x.block < W.heap.size := by obtain ⟨m, hm⟩ := k0; exact DataW.trod_lt m _ _ _ hm
  obtain ⟨k, n, u, va, vc, vb, rfl, hok⟩ := arg51 (hval 0 51 v0 rfl rfl) k0
  have lt1 : ∀ x ∈ p1, x.block < W.heap.size := by obtain ⟨m, hm⟩ := k1; exact DataW.trod_lt m _ _ _ hm
  obtain ⟨Ks, hks, hmk, hwk⟩ := arg_ints_slice Try.underlying28 Try.underlying3 (by kernel_rfl) (hval 1 28 v1 rfl rfl) k1
  clear hA0 hval0
  refine (calls_of_old (lawNone (oldH W) k n u va vc vb hok.k1 hok.k2 hok.n1 hok.n2 hok.u2 hok.hv hok.hb _ Ks hks (Nat.le_trans hmk (by decide)))).mono fun e W' ⟨he, bel⟩ => ?_
  subst he
  exact ⟨_, rfl, _, _, _, [], _, [], hW', trodAll_mk1 (shut_bool Try.underlying4 _), (trodAll_cons_mk (Below.trod laidOut (by kernel_rfl) (of_decide_eq_true (by kernel_rfl)) k0 bel lt0) (trodAll_cons_mk (Below.trod laidOut (by kernel_rfl) (of_decide_eq_true (by kernel_rfl)) k1 bel lt1) trodAll_mk0)), rfl, bel.frame _, fun h => by cases h⟩

theorem over : Rows.wireNoneRow.holds Try.pinned (OpenSpec.ofChange Rows.wireNoneSpec) :=
  OpenClaim.holds_of_wide 7 Try.f7 rfl rfl rfl rfl rfl rfl rfl ⟨rfl, rfl, rfl, rfl, rfl⟩ rfl rfl rfl rfl rfl (by kernel_rfl) Try.func7 (by kernel_rfl)
    (of_decide_eq_true (by kernel_rfl)) (by unfold Func.isWrapper; first | (rw [if_pos (by decide +kernel)]; kernel_rfl) | (rw [if_neg (by decide +kernel)]; exact ⟨rfl, rfl⟩))
    (fun os started H enc _ => lifted os started H enc)

theorem proved : Rows.WireNoneSaid := over
#print axioms proved
end Go.Proofs.Ytlbdmoikmomedaa.wireNone
