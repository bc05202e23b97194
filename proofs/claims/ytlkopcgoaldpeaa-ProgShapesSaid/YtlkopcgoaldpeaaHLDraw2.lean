/- A drawn region that looks at the world before it. -/
import Derived.Test.YtlkopcgoaldpeaaHLEq
namespace Go.Proofs.Ytlkopcgoaldpeaa.HL
open Go
set_option linter.unusedSimpArgs false
theorem base_at {R H : Hp} {b : Nat} {o : Obj} (e : R = H) (h : H b = some o) : R b = some o := by rw [e]; exact h
theorem le_of_base {R H H' : Hp} (e : R = H) (h : Le H H') : Le R H' := by rw [e]; exact h
/-- Which operations only make a block. -/
def newB (P : Program) (o : Oper) : Bool :=
  match o.op, o.guard with
  | .alloc t, none => match zrOf P t with | some (some _) => true | _ => false
  | .buildSlice t n ps, none => n == 0 && ps.size == 0 && (match P.underlying t with | some (.slice e) => (szOf P e).isSome | _ => false)
  | _, _ => false
theorem newB_alloc {P : Program} {d : Option Nat} {t ty : TypeId} {p : String} {af : Array Edge} (h : newB P ⟨d, .alloc t, ty, p, af, none⟩ = true) : NewOp P ⟨d, .alloc t, ty, p, af, none⟩ := by
  simp only [newB] at h
  cases hz : zrOf P t with
  | none => rw [hz] at h; cases h
  | some z =>
    cases z with
    | none => rw [hz] at h; cases h
    | some v =>
      refine ⟨fun y => rfl, .cells v.cells t, fun r => .pointer (some ⟨r, 0, none⟩), fun ρ H K => ?_⟩
      rw [x_alloc, hz]; rfl
theorem newB_slice {P : Program} {d : Option Nat} {t n ty : Nat} {ps : Array (Nat × Operand)} {p : String} {af : Array Edge} (h : newB P ⟨d, .buildSlice t n ps, ty, p, af, none⟩ = true) : NewOp P ⟨d, .buildSlice t n ps, ty, p, af, none⟩ := by
  simp only [newB, Bool.and_eq_true, beq_iff_eq] at h
  obtain ⟨⟨rfl, hps⟩, h⟩ := h
  have hps0 : ps = #[] := Array.eq_empty_of_size_eq_zero hps
  subst hps0
  cases hu : P.underlying t with
  | none => rw [hu] at h; cases h
  | some td =>
    rw [hu] at h
    cases td <;> try (cases h; done)
    rename_i e
    cases hs : szOf P e with
    | none => simp only [hs] at h; cases h
    | some w =>
      refine ⟨fun y => rfl, .cells #[] e, fun r => .slice (some ⟨r, 0, none⟩) 0 0, fun ρ H K => ?_⟩
      rw [x_buildSlice]
      simp only [Instr.buildSlice, l_bind, l_und, hu, orF_some, l_size, hs, Nat.zero_mul]
      rw [if_neg (by omega), if_pos trivial]
      simp only [l_bind, l_pure]
      have e0 : ∀ (g : Nat → Value), Array.map g (Array.range 0) = #[] := fun g => by apply Array.eq_empty_of_size_eq_zero; simp
      rw [e0]
      have e1 : (Array.map (fun x : Nat × Operand => (x.fst, ρ x.snd)) #[]).toList = [] := by simp
      rw [e1]
      rfl
theorem newB_ok {P : Program} {o : Oper} (h : newB P o = true) : NewOp P o := by
  obtain ⟨d, op, ty, p, af, g⟩ := o
  cases g with
  | some g => cases op <;> simp [newB] at h
  | none =>
    cases op with
    | alloc t => exact newB_alloc h
    | buildSlice t n ps => exact newB_slice h
    | _ => simp [newB] at h
def newsB (P : Program) (l : List Oper) (cls : List Nat) : Bool := (List.range l.length).all fun j => cls.getD j 0 != 4 || ((l[j]?).map (newB P)).getD false
theorem newsB_ok {P : Program} {l : List Oper} {cls : List Nat} (h : newsB P l cls = true) : ∀ j oj, l[j]? = some oj → cls.getD j 0 = 4 → NewOp P oj := by
  intro j oj hj hc
  simp only [newsB, List.all_eq_true, List.mem_range] at h
  have := h j (List.getElem?_eq_some_iff.1 hj).1
  rw [hc, hj] at this
  exact newB_ok (by simpa using this)
theorem CW_drawO {P : Program} {n : Nat} {rd : Option Nat} {Q : Ex → Env → Hp → Prop} {e : Env} {H : Hp} {id : Nat} {l : List Oper} (cls ord : List Nat) (R : Hp) (hm : P.follows .mixedOrders = true) (hok : (okT l.toArray (fun i => cls.getD i 0) ord && newsB P l cls && decide ((permL ord l).map (·.1) = ord) && decide (ord.length = l.length)) = true)
    (hR : Le R H) (h : TW P n l.toArray R (fun i => cls.getD i 0) (fun e H => Q .normal e H) (permL ord l) e H) : CW P n rd (.region id l.toArray true) Q e H := by
  simp only [Bool.and_eq_true, decide_eq_true_eq] at hok
  exact CW_draw cls ord R hm hok.1.1.1 (newsB_ok hok.1.1.2) hok.1.2 hok.2 hR h
theorem CW_drawE {P : Program} {n : Nat} {rd : Option Nat} {Q : Ex → Env → Hp → Prop} {e : Env} {H : Hp} {id : Nat} {l : List Oper} (cls ord : List Nat) (hm : P.follows .mixedOrders = true) (hok : (okT l.toArray (fun i => cls.getD i 0) ord && newsB P l cls && decide ((permL ord l).map (·.1) = ord) && decide (ord.length = l.length)) = true)
    (h : ∀ R : Hp, R = H → TW P n l.toArray R (fun i => cls.getD i 0) (fun e H => Q .normal e H) (permL ord l) e H) : CW P n rd (.region id l.toArray true) Q e H :=
  CW_drawO cls ord H hm hok (Le.refl _) (h H rfl)
theorem CW_drawR {P : Program} {n : Nat} {rd : Option Nat} {Q : Ex → Env → Hp → Prop} {e : Env} {H : Hp} {id : Nat} {l : List Oper} (cls ord : List Nat) (R : Hp) (hm : P.follows .mixedOrders = true) (hok : (okT l.toArray (fun i => cls.getD i 0) ord && newsB P l cls && decide ((permL ord l).map (·.1) = ord) && decide (ord.length = l.length)) = true)
    (hR : Le R H) (h : Le R H → TW P n l.toArray R (fun i => cls.getD i 0) (fun e H => Q .normal e H) (permL ord l) e H) : CW P n rd (.region id l.toArray true) Q e H :=
  CW_drawO cls ord R hm hok hR (h hR)
theorem le_put {R H : Hp} {b : Nat} {o : Obj} (h : Le R H) (hb : H b = some o) : Le (R.upd b o) H := by
  intro x o' hx
  by_cases e : x = b
  · subst e; rw [upd_same] at hx; cases hx; exact hb
  · rw [upd_ne _ _ e] at hx; exact h x o' hx
theorem plain_bool (b : Bool) : plainCell (.bool b) = true := rfl
theorem plain_string (b : ByteArray) : plainCell (.string b) = true := rfl
theorem plain_pointer (a : Option Addr) : plainCell (.pointer a) = true := rfl
theorem plain_map (a : Option Nat) : plainCell (.map a) = true := rfl
theorem plain_iface (t : TypeId) (v : Value) : plainCell (.iface t v) = true := rfl
theorem plain_nilIface : plainCell .nilIface = true := rfl
theorem plain_nilFunc : plainCell .nilFunc = true := rfl
theorem plain_func (f : Fn) (a b : Array Value) : plainCell (.func f a b) = true := rfl
end Go.Proofs.Ytlkopcgoaldpeaa.HL
