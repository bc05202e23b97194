/-
  ImageAlone: an image isn't found under another generation, in the other area, or as more bytes.
-/
import Derived.Test.YtcjdkfhmlnfedaaRows
import Derived.WalkKit
import Derived.ProofKit
import Derived.OpenShut
import Derived.KernelRfl
import Derived.Test.YtcjdkfhmlnfedaaX5
namespace Go.Proofs.Ytcjdkfhmlnfedaa.imageAlone
open Go Go.Proofs.Ytcjdkfhmlnfedaa.HL Go.Proofs Go.RowKit Go.ChangeShapes Go.WideShapes Go.ChangeAt
set_option linter.unusedVariables false

theorem heB {H : Type} {enc : TypeId × Value → H} {w : World} {base : Nat} {spare : Nat → Bool} {held : Bool} {fuel : Nat} {cs : List Value} {x : DataW H × List MemPlace} (h : DataW.trod enc Try.prog w base spare held fuel 22 cs = some x) : ∃ (a : Option Addr) (cap : Nat) (L : List Int), cs = [.slice a L.length cap] ∧ Holds (oldH w) 1 (.slice a L.length cap) L.length (u8s L) ∧ L.length ≤ cap ∧ L.length ≤ maxLen ∧ ByteL L := by
  obtain ⟨a, len, cap, L, rfl, h1, rfl, h2, h3⟩ := open_ints_slice Try.underlying22 Try.underlying5 (by kernel_rfl) h
  refine ⟨a, cap, L, rfl, h1, ?_, h2, byteL_of_wf h3⟩
  rcases open_ints Try.underlying22 Try.underlying5 (by kernel_rfl) h with ⟨e, _⟩ | ⟨a', len', cap', zs, e, _, h4, _⟩
  · injection e with e _; injection e with _ e1 e2; omega
  · injection e with e _; injection e with _ e1 e2; omega

set_option maxRecDepth 100000 in
theorem argOt {H : Type} {enc : TypeId × Value → H} {w : World} {base : Nat} {spare : Nat → Bool} {held : Bool} {r : Reach} {b0 : Nat} {v : Value} {d : DataW H} {ps : List MemPlace} (hval : Value.okWide Try.prog w r b0 24 v) (hd : DataW.Trod enc Try.prog w base spare held 24 v d ps) : ∃ (z0 z1 z2 : Int) (a : Option Addr) (cap : Nat) (L : List Int), v = .agg #[.int .i64 z0, .int .i64 z1, .int .i64 z2, .slice a L.length cap] ∧ Holds (oldH w) 1 (.slice a L.length cap) L.length (u8s L) ∧ L.length ≤ cap ∧ L.length ≤ maxLen ∧ ByteL L := by
  obtain ⟨fuel, hf⟩ := hd
  obtain ⟨hl, hi⟩ := open_struct1s Try.underlying24 (by kernel_rfl) (by
    intro i f hif
    match i, hif with
    | 0, hif => cases hif; exact ⟨rfl, by kernel_rfl⟩
    | 1, hif => cases hif; exact ⟨rfl, by kernel_rfl⟩
    | 2, hif => cases hif; exact ⟨rfl, by kernel_rfl⟩
    | 3, hif => cases hif; exact ⟨rfl, by kernel_rfl⟩
    | i + 4, hif => simp at hif) hf
  obtain ⟨c0, y0, n0, g0, k0⟩ := hi 0 _ rfl
  obtain ⟨c1, y1, n1, g1, k1⟩ := hi 1 _ rfl
  obtain ⟨c2, y2, n2, g2, k2⟩ := hi 2 _ rfl
  obtain ⟨c3, y3, n3, g3, k3⟩ := hi 3 _ rfl
  obtain ⟨z0, e0, w0⟩ := int_cell (i := 0) (cs := [c0]) Try.underlying3 k0
  obtain ⟨z1, e1, w1⟩ := int_cell (i := 0) (cs := [c1]) Try.underlying3 k1
  obtain ⟨z2, e2, w2⟩ := int_cell (i := 0) (cs := [c2]) Try.underlying3 k2
  obtain ⟨a, cap, L, e3, h1, h2, h3, h4⟩ := heB k3
  simp at e0 e1 e2 e3
  subst e0; subst e1; subst e2; subst e3
  refine ⟨z0, z1, z2, a, cap, L, ?_, h1, h2, h3, h4⟩
  have hc : v.cells.toList = [.int .i64 z0, .int .i64 z1, .int .i64 z2, .slice a L.length cap] := by
    apply List.ext_getElem?
    intro i
    match i with
    | 0 => simpa using g0
    | 1 => simpa using g1
    | 2 => simpa using g2
    | 3 => simpa using g3
    | i + 4 => rw [List.getElem?_eq_none (by rw [hl]; simp)]; simp
  rw [val_of_agg (.inl ⟨_, Try.underlying24⟩) hval, cells_of_list hc]

theorem own : ownKnob Try.prog.godebug = none := by kernel_rfl
theorem laidOut : laidOutB Try.prog = true := by kernel_rfl

set_option maxRecDepth 100000 in
theorem lifted (os : Os) (started : os.Started) (H : Type) (enc : TypeId × Value → H) :
    ReturnsInHanded {} Try.checked os 3 .any (Rows.imageAloneSpec.pre6 enc Try.prog Try.f3 Rows.imageAloneRow.domain false) (Rows.imageAloneSpec.post enc Try.prog Try.f3 false true false false) := by
  refine returnsInHanded_of_change (C := Try.checked) own started (by kernel_rfl) Try.func3
    (ChangeSpec.witness6 (enc := enc) (C := Try.checked) false ⟨#[], #[.agg #[.int .i64 0, .int .i64 0, .int .i64 0, .slice none 0 0]], []⟩ 8 (by kernel_rfl) (by kernel_rfl) (by kernel_rfl) (by kernel_rfl)) ?_
  intro W base args ds gs before hval0 hW hcnd _
  have hval : ∀ (j : Nat) t v, Try.f3.params[j]? = some t → args[j]? = some v → Value.okWide Try.prog W .any base t v := hval0
  have hW' := hW
  obtain ⟨p, q, hA0, hV, rfl, hfz, hnd⟩ := hW
  have hA : DataW.TrodAll enc Try.prog W 0 (fun _ => true) true Try.f3.params.toList args.toList ds p := hA0
  rw [Try.params3] at hA hval
  obtain ⟨v0, vs0, d0, ds0, p0, q0, hargs, rfl, rfl, k0, r0⟩ := trodAll_cons hA
  obtain ⟨rfl, rfl, rfl⟩ := trodAll_nil r0
  obtain rfl : args = #[v0] := by cases args; simp_all
  obtain ⟨rfl, rfl⟩ := trodVars_none hV
  have lt0 : ∀ x ∈ p0, x.block < W.heap.size := by obtain ⟨m, hm⟩ := k0; exact DataW.trod_lt m _ _ _ hm
  obtain ⟨z0, z1, z2, ab, cb, L, rfl, hv, hc, hm, hB⟩ := argOt (hval 0 24 v0 rfl rfl) k0
  clear hA0 hval0
  refine (calls_of_old (lawAlone (oldH W) z0 z1 z2 ab cb L hv hc hB (Nat.le_trans hm (by decide)))).mono fun e W' ⟨he, bel⟩ => ?_
  subst he
  exact ⟨_, rfl, _, _, _, [], _, [], hW', trodAll_mk1 (shut_bool Try.underlying4 _), (trodAll_cons_mk (Below.trod laidOut (by kernel_rfl) (of_decide_eq_true (by kernel_rfl)) k0 bel lt0) trodAll_mk0), rfl, bel.frame _, fun h => by cases h⟩

theorem over : Rows.imageAloneRow.holds Try.pinned (OpenSpec.ofChange Rows.imageAloneSpec) :=
  OpenClaim.holds_of_wide 3 Try.f3 rfl rfl rfl rfl rfl rfl rfl ⟨rfl, rfl, rfl, rfl, rfl⟩ rfl rfl rfl rfl rfl (by kernel_rfl) Try.func3 (by kernel_rfl)
    (of_decide_eq_true (by kernel_rfl)) (by unfold Func.isWrapper; first | (rw [if_pos (by decide +kernel)]; kernel_rfl) | (rw [if_neg (by decide +kernel)]; exact ⟨rfl, rfl⟩))
    (fun os started H enc _ => lifted os started H enc)

theorem proved : Rows.ImageAloneSaid := over
#print axioms proved
end Go.Proofs.Ytcjdkfhmlnfedaa.imageAlone
