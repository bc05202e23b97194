/- Programs' bytes: lengths, steps; no beginning is one's. -/
import Derived.Test.YtlkopcgoaldpeaaMdPr3
import Derived.Test.YtlkopcgoaldpeaaMd03
namespace Go.Proofs.Ytlkopcgoaldpeaa.HL
open Go
set_option linter.unusedSimpArgs false
theorem le_both {A B : Hp} (h : Le A B) (b : Nat) (o : Obj) : Le (A.upd b o) (B.upd b o) := fun x o' hx => by
  by_cases e : x = b
  · subst e; rw [upd_same] at hx ⊢; exact hx
  · rw [upd_ne _ _ e] at hx ⊢; exact h x o' hx
theorem cd_mem {l : List Cd} {i : Nat} (h : i < l.length) : l.getD i default ∈ l := by
  rw [List.getD_eq_getElem?_getD, List.getElem?_eq_getElem h]; exact List.getElem_mem h
theorem fld_rng {x : Cd} (h : x.ok) (l : Int) : -9223372036854775808 ≤ x.fld l ∧ x.fld l ≤ 9223372036854775807 := by
  unfold Cd.fld
  obtain ⟨_, _, _, _, _, _, _, _, _, _, _, _⟩ := h
  repeat' (split <;> try (constructor <;> assumption))
theorem cnt_wrap_len (z : Int) : (cnt (IntKind.u64.wrap z).toNat).length ≤ 10 := by
  refine cnt_len10 ?_
  have h1 := u64_lt z
  have h2 := u64_nonneg z
  omega
theorem encF_len {x : Cd} (h : x.ok) (l : Int) : (encF x l).length ≤ 10 := by
  unfold encF; split
  · exact cnt_len10 (zig_lt h.n1 h.n2)
  · exact cnt_wrap_len _
theorem ff_len {x : Cd} (h : x.ok) (l : List Int) : (l.flatMap (encF x)).length ≤ 10 * l.length := by
  induction l with
  | nil => simp
  | cons a l ih => rw [List.flatMap_cons, List.length_append, List.length_cons]; have := encF_len h a; omega
theorem encC_len {x : Cd} (h : x.ok) : (encC x).length ≤ 51 := by
  unfold encC; rw [List.length_cons]; have := ff_len h (shp x.op); have := shp_len x.op; omega
theorem fm_len {cs : List Cd} (h : ∀ x ∈ cs, x.ok) : (cs.flatMap encC).length ≤ 51 * cs.length := by
  induction cs with
  | nil => simp
  | cons a l ih =>
    rw [List.flatMap_cons, List.length_append, List.length_cons]
    have := encC_len (h a (by simp)); have := ih (fun x hx => h x (by simp [hx])); omega
theorem encCs_step {cs : List Cd} {k : Nat} (h : k < cs.length) : (cs.take (k + 1)).flatMap encC = (cs.take k).flatMap encC ++ encC (cs.getD k default) := by
  rw [List.take_succ_eq_append_getElem h, List.flatMap_append]; simp [List.getD_eq_getElem?_getD, h]
theorem encF_step (x : Cd) {l : List Int} {j : Nat} (h : j < l.length) : (l.take (j + 1)).flatMap (encF x) = (l.take j).flatMap (encF x) ++ encF x (l.getD j 0) := by
  rw [List.take_succ_eq_append_getElem h, List.flatMap_append]; simp [List.getD_eq_getElem?_getD, h]
theorem encF_n {x : Cd} {l : Int} (h : l = 110) : encF x l = cnt (zig x.n) := by unfold encF; rw [if_pos h]
theorem encF_o {x : Cd} {l : Int} (h : ¬ l = 110) : encF x l = cnt (IntKind.u64.wrap (x.fld l)).toNat := by unfold encF; rw [if_neg h]
end Go.Proofs.Ytlkopcgoaldpeaa.HL
