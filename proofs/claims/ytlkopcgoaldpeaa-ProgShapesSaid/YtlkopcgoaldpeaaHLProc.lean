/- Functions, rounds, ranges over functions: on partial heaps. -/
import Derived.Test.YtlkopcgoaldpeaaHLDraw
namespace Go.Proofs.Ytlkopcgoaldpeaa.HL
open Go

section
variable {P : Program} {n : Nat} {rd : Option Nat} {Q : Ex → Env → Hp → Prop} {e : Env} {H : Hp}
/-- Temporaries that nobody asks for any more may be forgotten. -/
theorem CW_env {c : Code} {e' : Env} (hs : Env.sub e' e) (h : CW P n rd c Q e' H) : CW P n rd c Q e H := fun B a w hr hw => h B a w (hr.sub hs) hw
/-- So may blocks. -/
theorem CW_forget {c : Code} {H' : Hp} (hl : Le H' H) (h : CW P n rd c Q e H') : CW P n rd c Q e H :=
  fun B a w hr hw => (h B a w (hr.le hl) (hw.le hl)).mono fun _ _ _ ⟨e2, H2, hQ, hr2, hx⟩ => ⟨e2, H2, hQ, hr2, hx.sub, hx.size,
    fun b hb hn => hx.same b hb (by
      cases hc : H' b with
      | none => rfl
      | some o => rw [hl b o hc] at hn; cases hn),
    fun b hb => (hx.dom b hb).imp (fun h' hn => by
      cases hc : H' b with
      | none => exact h' hc
      | some o => rw [hl b o hc] at hn; cases hn) id, hx.os, hx.output, hx.tape⟩

theorem Ext.of_le {H H' H2 : Hp} {w w2 : World} (hl : Le H' H) (hx : Ext H' w H2 w2) : Ext H w H2 w2 :=
  ⟨hx.sub, hx.size, fun b hb hn => hx.same b hb (by
      cases hc : H' b with
      | none => rfl
      | some o => rw [hl b o hc] at hn; cases hn),
    fun b hb => (hx.dom b hb).imp (fun h' hn => by
      cases hc : H' b with
      | none => exact h' hc
      | some o => rw [hl b o hc] at hn; cases hn) id, hx.os, hx.output, hx.tape⟩
theorem CallH.forget {f : FuncId} {args : Array Value} {H H' : Hp} {R : Value → Hp → Prop} (hl : Le H' H) (h : CallH P f args H' R) : CallH P f args H R :=
  fun w hs => (h w (hs.le hl)).mono fun _ _ ⟨v, he, H2, hR, hx⟩ => ⟨v, he, H2, hR, hx.of_le hl⟩
/-- Behind a call blocks may be forgotten. -/
theorem CallH.drop {f : FuncId} {args : Array Value} {H : Hp} {R : Value → Hp → Prop} (h : CallH P f args H (fun v H' => ∃ H'', Le H'' H' ∧ R v H'')) : CallH P f args H R :=
  fun w hs => (h w hs).mono fun _ _ ⟨v, he, _, ⟨H'', hl, hR⟩, hx⟩ => ⟨v, he, H'', hR, hx.forget hl⟩
theorem CW_post {c : Code} (h : CW P n rd c (fun x e H' => ∃ H'', Le H'' H' ∧ Q x e H'') e H) : CW P n rd c Q e H :=
  fun B a w hr hw => (h B a w hr hw).mono fun _ _ _ ⟨e2, _, ⟨H'', hl, hQ⟩, hr2, hx⟩ => ⟨e2, H'', hQ, hr2.le hl, hx.forget hl⟩
end

/-! ### a function's results -/
def ResV (P : Program) (e : Env) (H : Hp) : ResultVar → Value → Prop
  | .tmp t, v => e.get t = some v
  | .cell a t, v => ∃ ad, e.get a = some (.pointer (some ad)) ∧ Lq P (loadVar t ad) H (fun x => x = v)
def resS (tmps : Array Value) : ResultVar → Sem Value
  | .tmp t => pure (tmps.getD t undef)
  | .cell a t => do loadVar t (← asAddr (tmps.getD a undef))
theorem resS_run {P : Program} {n B : Nat} {e : Env} {H : Hp} {x : ResultVar} {v : Value} (h : ResV P e H x v) {a : Act} {w : World} (hr : Rel n B e a w H) {w' : World} (hs : Sub H w') : (resS a.tmps x).run P w' = .ok v w' := by
  cases x with
  | tmp t => have := hr.tmps t v h; simp [resS, Pure.pure, Array.getD_eq_getD_getElem?, this]
  | cell b t =>
    obtain ⟨ad, h1, h2⟩ := h
    have := hr.tmps b _ h1
    obtain ⟨u, rfl, hrun⟩ := Lq_sound _ _ _ h2
    have e1 : (resS a.tmps (.cell b t)) = loadVar t ad := by
      simp [resS, Array.getD_eq_getD_getElem?, this, asAddr, Bind.bind, Sem.bind, Pure.pure]
    rw [e1]; exact hrun w' hs
def retOf : List Value → Value
  | [v] => v
  | vs => .tuple vs.toArray
def ResL (P : Program) (e : Env) (H : Hp) : List ResultVar → List Value → Prop
  | [], [] => True
  | x :: xs, v :: vs => ResV P e H x v ∧ ResL P e H xs vs
  | _, _ => False
theorem results_run {P : Program} {n B : Nat} {e : Env} {H : Hp} {fn : Func} {l : List ResultVar} (hl : fn.results = l.toArray) {vs : List Value} (h : ResL P e H l vs) (h4 : l.length ≤ 5) {a : Act} {w : World} (hr : Rel n B e a w H) {w' : World} (hs : Sub H w') :
    (results fn a.tmps).run P w' = .ok (retOf vs) w' := by
  have hres : results fn a.tmps = (do let vs ← fn.results.mapM (resS a.tmps); pure (if h : vs.size = 1 then vs[0] else .tuple vs)) := by
    unfold results; congr 1
  rw [hres, hl]
  match l, vs, h, h4 with
  | [], [], _, _ => simp [retOf]
  | [x], [v], h, _ =>
    have h1 := resS_run h.1 hr hs
    simp [retOf, h1]
  | [x, y], [v, u], h, _ =>
    have h1 := resS_run h.1 hr hs
    have h2 := resS_run h.2.1 hr hs
    simp [retOf, h1, h2, Result.andThen]
  | [x, y, z], [v, u, t], h, _ =>
    have h1 := resS_run h.1 hr hs
    have h2 := resS_run h.2.1 hr hs
    have h3 := resS_run h.2.2.1 hr hs
    simp [retOf, h1, h2, h3, Result.andThen]
  | [x, y, z, q], [v, u, t, s], h, _ =>
    have h1 := resS_run h.1 hr hs
    have h2 := resS_run h.2.1 hr hs
    have h3 := resS_run h.2.2.1 hr hs
    have h4 := resS_run h.2.2.2.1 hr hs
    simp [retOf, h1, h2, h3, h4, Result.andThen]
  | [x, y, z, q, p], [v, u, t, s, r], h, _ =>
    have h1 := resS_run h.1 hr hs
    have h2 := resS_run h.2.1 hr hs
    have h3 := resS_run h.2.2.1 hr hs
    have h4 := resS_run h.2.2.2.1 hr hs
    have h5 := resS_run h.2.2.2.2.1 hr hs
    simp [retOf, h1, h2, h3, h4, h5, Result.andThen]

def envOf : Nat → List Value → Env
  | _, [] => []
  | i, v :: r => (i, v) :: envOf (i + 1) r
theorem envOf_get : ∀ (l : List Value) (i t : Nat) (v : Value), (envOf i l).get t = some v → i ≤ t ∧ l[t - i]? = some v
  | [], _, _, _, h => by simp [envOf, Env.get] at h
  | u :: r, i, t, v, h => by
    simp only [envOf, Env.get] at h
    by_cases ht : t = i
    · subst ht; rw [if_pos rfl] at h; cases h; exact ⟨Nat.le_refl _, by simp⟩
    · rw [if_neg ht] at h
      obtain ⟨h1, h2⟩ := envOf_get r (i + 1) t v h
      refine ⟨by omega, ?_⟩
      have : t - i = (t - (i + 1)) + 1 := by omega
      rw [this]; simpa using h2

/-- A body's end: the results; blocks may be forgotten. -/
def EndH (P : Program) (l : List ResultVar) (R : Value → Hp → Prop) : Ex → Env → Hp → Prop
  | .exit _, _, _ => False
  | _, e, H => ∃ vs, ResL P e H l vs ∧ ∃ H', Le H' H ∧ R (retOf vs) H'

theorem CallH_of_CW {P : Program} {f : FuncId} {fn : Func} {c : Code} {l : List Value} {rl : List ResultVar} {H : Hp} {R : Value → Hp → Prop}
    (hf : P.funcs[f]? = some fn) (hb : fn.body = some c) (hrl : fn.results = rl.toArray) (h5 : rl.length ≤ 5) (hn : l.length ≤ fn.ntmps)
    (h : CW P fn.ntmps none c (EndH P rl R) (envOf 0 l) H) : CallH P f l.toArray H R := by
  intro w hs
  refine calls_of_CR hf hb ?_
  have hr : Rel fn.ntmps w.heap.size (envOf 0 l) { tmps := l.toArray ++ Array.replicate (fn.ntmps - l.toArray.size) undef, defers := [] } w H := by
    refine ⟨by simp; omega, fun t v ht => ?_, [], rfl, .nil, fun r hr => by cases hr⟩
    obtain ⟨_, h2⟩ := envOf_get l 0 t v ht
    simp only [Nat.sub_zero] at h2
    have hlt : t < l.length := (List.getElem?_eq_some_iff.1 h2).1
    rw [Array.getElem?_append_left (by simpa using hlt)]
    simpa using h2
  refine (h _ _ w hr hs).mono fun x a' w' ⟨e', H', hQ, hr', hx⟩ => ?_
  have fin : (∃ vs, ResL P e' H' rl vs ∧ ∃ H'', Le H'' H' ∧ R (retOf vs) H'') → ∃ rs : List Nat, a'.defers = rs.map markOf ∧ rs.Nodup ∧ (∀ r ∈ rs, w'.heap[r]? = some (.deferred (some []))) ∧
      ∃ v, (results fn a'.tmps).run P (takeMarks rs w') = .ok v (takeMarks rs w') ∧ ∃ H'', R v H'' ∧ Ext H w H'' (takeMarks rs w') := by
    rintro ⟨vs, h1, H'', hl, h2⟩
    obtain ⟨rs, h3, h4, h5'⟩ := hr'.marks
    have hsub : Sub H' (takeMarks rs w') := fun b o hb => by
      have hbr : b ∉ rs := fun hm => by rw [(h5' b hm).2.1] at hb; cases hb
      rw [takeMarks_other rs w' b hbr]; exact hx.sub b o hb
    have hx' : Ext H w H' (takeMarks rs w') := by
      obtain ⟨r1, r2, r3, _⟩ := takeMarks_rest rs w'
      refine ⟨hsub, by rw [takeMarks_size]; exact hx.size, fun b hb hnn => ?_, hx.dom, r1.trans hx.os, r2.trans hx.output, r3.trans hx.tape⟩
      rw [takeMarks_other rs w' b ?_]; · exact hx.same b hb hnn
      intro hm
      -- a mark is a block of the function's own
      have := (h5' b hm).2.2
      omega
    exact ⟨rs, h3, h4, fun r hr => (h5' r hr).1, _, results_run hrl h1 h5 hr' hsub, H'', h2, hx'.forget hl⟩
  cases x with
  | exit id => exact hQ.elim
  | normal => exact fin hQ
  | ret => exact fin hQ
end Go.Proofs.Ytlkopcgoaldpeaa.HL
