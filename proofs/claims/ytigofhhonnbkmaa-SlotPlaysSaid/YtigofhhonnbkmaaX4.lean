/- Parts of the proof, one behind the other: V15, V16, V14, V17, V18, V19, V13, V21, V54, V55, V56, V58, V59, V57, V60, V61. -/
import Derived.Test.YtigofhhonnbkmaaX3
set_option linter.unusedSimpArgs false
set_option linter.unusedVariables false
section
namespace Go.Proofs.Ytigofhhonnbkmaa.HL
open Go Go.Proofs
set_option linter.unusedSimpArgs false
set_option linter.unusedVariables false
attribute [local irreducible] Lt Lq CW OW TW CallH
structure Kp where
  dev : Int
  n : Int
  tear : Int
deriving Inhabited, DecidableEq
abbrev Kp.c (k : Kp) : List Value := [.int .i64 k.dev, .int .i64 k.n, .int .i64 k.tear]
theorem Kp.len (k : Kp) : k.c.length = 3 := rfl
abbrev kps (l : List Kp) : List Value := l.flatMap Kp.c
def keepOf (l : List Kp) (dev n : Int) : Option Int := (l.find? (fun k => decide (k.dev = dev) && decide (k.n = n))).map Kp.tear
theorem find_at {α : Type} [Inhabited α] (P : α → Bool) : ∀ (l : List α) (k : Nat), k < l.length → P (l.getD k default) = true → (∀ j, j < k → P (l.getD j default) = false) → l.find? P = some (l.getD k default)
  | [], k, h, _, _ => absurd h (by simp)
  | x :: r, 0, _, h1, _ => by simp at h1 ⊢; simp [List.find?, h1]
  | x :: r, k + 1, h, h1, h2 => by
    have h0 : P x = false := h2 0 (by omega)
    simp only [List.find?, h0]
    rw [find_at P r k (by simpa using h) (by simpa using h1) (fun j hj => by simpa using h2 (j + 1) (by omega))]
    simp
theorem find_no {α : Type} [Inhabited α] (P : α → Bool) (l : List α) (h : ∀ j, j < l.length → P (l.getD j default) = false) : l.find? P = none := by
  rw [List.find?_eq_none]
  intro x hx
  obtain ⟨j, hj, rfl⟩ := List.mem_iff_getElem.1 hx
  have := h j hj
  rw [List.getD_eq_getElem?_getD, List.getElem?_eq_getElem hj] at this
  simpa using this
def St.crK (s : St) (l : List Kp) (k : Nat) : St := { s with dv := s.dv.mapIdx (fun i d => if i < k then d.settle (fun n => keepOf l i n) else d) }
def St.cr (s : St) (l : List Kp) : St := { s with armed := false, gone := false, dv := s.dv.mapIdx (fun i d => d.settle (fun n => keepOf l i n)) }
theorem St.crK_len (s : St) (l : List Kp) (k : Nat) : (s.crK l k).dv.length = s.dv.length := by simp [St.crK]
theorem St.crK_at (s : St) (l : List Kp) (k : Nat) (hk : k < s.dv.length) : (s.crK l k).dv.getD k default = s.dv.getD k default := by
  simp [St.crK, List.getD_eq_getElem?_getD, List.getElem?_mapIdx, List.getElem?_eq_getElem hk]
theorem St.crK_zero (s : St) (l : List Kp) : s.crK l 0 = s := by
  have : s.dv.mapIdx (fun i d => if i < 0 then d.settle (fun n => keepOf l i n) else d) = s.dv := by
    apply List.ext_getElem?
    intro i; rw [List.getElem?_mapIdx]; cases s.dv[i]? <;> simp
  cases s; simp only [St.crK] at this ⊢; rw [this]
theorem St.crK_next (s : St) (l : List Kp) (k : Nat) (hk : k < s.dv.length) : (s.crK l (k + 1)).dv = (s.crK l k).dv.set k ((s.dv.getD k default).settle (fun n => keepOf l k n)) := by
  apply List.ext_getElem?
  intro i
  by_cases e : i = k
  · subst e
    rw [List.getElem?_set_self (by rw [St.crK_len]; exact hk)]
    simp [St.crK, List.getElem?_mapIdx, List.getD_eq_getElem?_getD, List.getElem?_eq_getElem hk]
  · rw [List.getElem?_set_ne (Ne.symm e)]
    simp only [St.crK, List.getElem?_mapIdx]
    cases s.dv[i]? with
    | none => rfl
    | some d =>
      simp only [Option.map_some]
      by_cases h : i < k
      · rw [if_pos h, if_pos (by omega)]
      · rw [if_neg h, if_neg (by omega)]
theorem St.crK_all (s : St) (l : List Kp) : (s.crK l s.dv.length).dv = (s.cr l).dv := by
  apply List.ext_getElem?
  intro i
  simp only [St.crK, St.cr, List.getElem?_mapIdx]
  rcases Nat.lt_or_ge i s.dv.length with h | h
  · rw [List.getElem?_eq_getElem h]; simp [h]
  · rw [List.getElem?_eq_none h]; rfl
set_option maxRecDepth 100000 in
set_option maxHeartbeats 1000000 in
theorem crash11_ok (H : Hp) (bd bn : Nat) (dev n : Int) (k : Kp) (hd : H bd = some (.cells #[.int .i64 dev] 3)) (hn : H bn = some (.cells #[.int .i64 n] 3)) : CallH Try.prog 64 #[.agg k.c.toArray, .pointer (some ⟨bd, 0, none⟩), .pointer (some ⟨bn, 0, none⟩)] H (fun v H' => v = .bool (decide (k.dev = dev) && decide (k.n = n)) ∧ H' = H) := by
 refine zam (l := [_, _, _]) (rl := [.tmp 4]) (n := 15) Try.func64 rfl rfl rfl rfl rfl ?_
 refine yaa ?_
 refine zac (fun K1 hK1 => ?_)
 refine zaa ?_
 refine zab (fun K hK r => ?_)
 refine yaW ?_
 intro b3 hb3
 try have n3_bd : bd ≠ b3 := zaf hbA hb3
 try have n3_bn : bn ≠ b3 := zaf hbA hb3
 have f3_H : H b3 = none := zag lhA hb3
 refine yaf ?_
 refine hK _ _ ?_; clear hK K
 refine zaj rfl ?_
 refine zad ?_
 refine yab ?_
 refine hK1 _ _ ?_; try clear hK1 K1
 refine zac (fun K2 hK2 => ?_)
 refine zaa ?_
 refine zab (fun K hK r => ?_)
 simp only [zao, fa140_0, zaH, Nat.reduceAdd, Nat.zero_add, eX, ↓reduceIte, Nat.reduceEqDiff, Int.reduceToNat]
 refine hK _ _ ?_; clear hK K
 refine zab (fun K hK r => ?_)
 refine yap ?_
 refine zae Try.underlying3 rfl hbA ldA ?_
 refine yaf ?_
 refine hK _ _ ?_; clear hK K
 refine zab (fun K hK r => ?_)
 refine yap ?_
 refine zae Try.underlying3 rfl hbA ldA ?_
 refine yaf ?_
 refine hK _ _ ?_; clear hK K
 refine zab (fun K hK r => ?_)
 refine yas ?_
 refine hK _ _ ?_; clear hK K
 refine zah rfl ?_
 (first | refine zaA (d := 9) rfl (fun g9 => ?_) (fun g9 => ?_) | skip)
 all_goals try (exfalso; exact cnA g9)
 all_goals (try replace g9 := yad g9)
 all_goals
  refine yaf ?_
  first
  |refine yGT (fun K hK r => ?_)
   simp only [zao, fa140_1, zaH, Nat.reduceAdd, Nat.zero_add, eX, ↓reduceIte, Nat.reduceEqDiff, Int.reduceToNat]
   refine hK _ _ ?_; clear hK K
  |refine yGF ?_
   refine yaj ?_
  first
  |refine yGT (fun K hK r => ?_)
   refine yap ?_
   refine zae Try.underlying3 rfl hbA ldA ?_
   refine yaf ?_
   refine hK _ _ ?_; clear hK K
  |refine yGF ?_
   refine yaj ?_
  first
  |refine yGT (fun K hK r => ?_)
   refine yap ?_
   refine zae Try.underlying3 rfl hbA ldA ?_
   refine yaf ?_
   refine hK _ _ ?_; clear hK K
  |refine yGF ?_
   refine yaj ?_
  first
  |refine yGT (fun K hK r => ?_)
   refine yas ?_
   refine hK _ _ ?_; clear hK K
  |refine yGF ?_
   refine yaj ?_
  refine zab (fun K hK r => ?_)
  refine yal ?_
  refine hK _ _ ?_; clear hK K
  refine zaj rfl ?_
  refine zad ?_
  refine yab ?_
  refine hK2 _ _ ?_; try clear hK2 K2
  refine zaz ?_
  refine yab ?_
  refine ⟨[_], ⟨rfl, trivial⟩, H, lhA, ?_, rfl⟩
  show Value.bool _ = _
  congr 1
  by_cases hdd : k.dev = dev <;> simp_all
set_option maxRecDepth 100000 in
set_option maxHeartbeats 1000000 in
theorem index_ok (H : Hp) (a : Option Addr) (cap : Nat) (l : List Kp) (hv : Holds H 3 (.slice a l.length cap) l.length (kps l)) (gf : Fn) (ga gb : Array Value) (P : Kp → Bool) (hP : ∀ k, ValH Try.prog (.func gf ga gb) #[.agg k.c.toArray] H (fun v H' => v = .bool (P k) ∧ H' = H)) (hl : l.length ≤ 1000) :
 CallH Try.prog 63 #[.slice a l.length cap, .func gf ga gb] H (fun v H' => H' = H ∧ ∃ ix : Int, v = .int .i64 ix ∧ ((∃ k : Nat, k < l.length ∧ ix = (k : Int) ∧ P (l.getD k default) = true ∧ ∀ j, j < k → P (l.getD j default) = false) ∨ (ix = -1 ∧ ∀ j, j < l.length → P (l.getD j default) = false))) := by
 refine zam (l := [_, _]) (rl := [.tmp 4]) (n := 19) Try.func63 rfl rfl rfl rfl rfl ?_
 refine yaa ?_
 refine zac (fun K1 hK1 => ?_)
 refine zaa ?_
 refine zaj rfl ?_
 refine zad ?_
 refine yab ?_
 refine hK1 _ _ ?_; try clear hK1 K1
 refine zac (fun K2 hK2 => ?_)
 refine zac (fun K3 hK3 => ?_)
 refine zaa ?_
 refine zah rfl ?_
 refine zab (fun K hK r => ?_)
 simp only [x_builtin, l_len, List.map_toArray, List.map_cons, List.map_nil, i_len_slice _ _ Try.underlying69, eX, ↓reduceIte, Nat.reduceEqDiff, Int.reduceToNat]
 refine hK _ _ ?_; clear hK K
 refine zah rfl ?_
 refine zad ?_
 refine yab ?_
 refine hK3 _ _ ?_; try clear hK3 K3
 refine zaB ?_
 refine CW_loop (fun m e H_ => ∃ k : Nat, k ≤ l.length ∧ m = l.length - k ∧ (∀ j, j < k → P (l.getD j default) = false) ∧ H_ = H ∧ Env.has [(0, .slice a l.length cap), (1, .func gf ga gb), (7, .int .i64 l.length), (8, .int .i64 k)] e) (l.length) ?_ ?_
 ·skip
  exact ⟨0, by omega, by omega, (fun j hj => absurd hj (by omega)), rfl, rfl, rfl, rfl, rfl, trivial⟩
 intro m_ e_ H_ hI_
 obtain ⟨k, hk, rfl, hno, hH_, he⟩ := hI_
 have hH_ := hH_.symm; subst hH_
 refine CW_env he.sub ?_; clear he e_
 refine zac (fun K4 hK4 => ?_)
 refine zaa ?_
 refine zab (fun K hK r => ?_)
 refine yac ?_
 refine hK _ _ ?_; clear hK K
 refine zad ?_
 refine yab ?_
 refine hK4 _ _ ?_; try clear hK4 K4
 refine zac (fun K5 hK5 => ?_)
 refine zar (fun r => rfl) (fun c9 => ?_) (fun c9 => ?_)
 ·first
  |(exfalso; exact cnA c9; done)
  |skip
   (try replace c9 := yad c9)
   obtain ⟨bw, ow, cw, Tw, Fw, ew, hbw, hsw, atw⟩ := hv.at (by omega)
   refine zau ?_
   refine yab ?_
   refine hK5 _ _ ?_; try clear hK5 K5
   refine zac (fun K6 hK6 => ?_)
   refine zaB ?_
   refine zac (fun K7 hK7 => ?_)
   refine zaa ?_
   refine zah rfl ?_
   refine zaj rfl ?_
   refine zad ?_
   refine yab ?_
   refine hK7 _ _ ?_; try clear hK7 K7
   refine zac (fun K8 hK8 => ?_)
   refine zaa ?_
   refine zah rfl ?_
   refine zah rfl ?_
   refine zah rfl ?_
   refine zab (fun K hK r => ?_)
   refine yaw ?_
   refine zaK Try.underlying69 sz140 ew ixA ixA ?_
   refine ybp ?_
   refine hK _ _ ?_; clear hK K
   refine zab (fun K hK r => ?_)
   refine yap ?_
   refine zaq Try.underlying140 rfl sz140 hbw (by omega) ?_
   rw [ext_at Kp.len atw rfl k (by omega) hsw]
   refine hK _ _ ?_; clear hK K
   refine zab (fun K hK r => ?_)
   refine ybu ?_
   show ValH _ _ _ _ _
   refine (hP (l.getD k default)).mono ?_
   rintro v H' ⟨rfl, hq⟩
   have hq := hq.symm
   subst hq
   refine yaf ?_
   refine hK _ _ ?_; clear hK K
   refine zad ?_
   refine yab ?_
   refine hK8 _ _ ?_; try clear hK8 K8
   refine zar (fun r => rfl) (fun c16 => ?_) (fun c16 => ?_)
   ·first
    |(exfalso; exact cnA c16; done)
    |skip
     (try replace c16 := yad c16)
     refine zac (fun K9 hK9 => ?_)
     refine zaa ?_
     refine zah rfl ?_
     refine zaj rfl ?_
     refine zad ?_
     refine yab ?_
     refine hK9 _ _ ?_; try clear hK9 K9
     refine zaz ?_
     refine yab ?_
     exact ⟨[_], ⟨rfl, trivial⟩, _, Le.refl _, rfl, _, rfl, .inl ⟨k, by omega, rfl, c16, hno⟩⟩
   ·first
    |(exfalso; exact cnA c16; done)
    |skip
     (try replace c16 := yad c16)
     refine zau ?_
     refine yab ?_
     refine hK6 _ _ ?_; try clear hK6 K6
     refine zaa ?_
     refine zab (fun K hK r => ?_)
     refine yaq ?_
     refine hK _ _ ?_; clear hK K
     refine zah rfl ?_
     refine zad ?_
     refine yab ?_
     refine ⟨l.length - (k + 1), by omega, k + 1, by omega, rfl, (fun j hj => ?_), rfA, rfl, rfl, rfl, rfl, trivial⟩
     by_cases e : j = k
     ·subst e; exact c16
     ·exact hno j (by omega)
 ·first
  |(exfalso; exact cnA c9; done)
  |skip
   (try replace c9 := yad c9)
   have hkn : k = l.length := by omega
   refine CW_exit ?_
   refine yab ?_
   refine hK2 _ _ ?_; try clear hK2 K2
   refine zac (fun K10 hK10 => ?_)
   refine zaa ?_
   refine zaj rfl ?_
   refine zad ?_
   refine yab ?_
   refine hK10 _ _ ?_; try clear hK10 K10
   refine zaz ?_
   refine yab ?_
   subst hkn
   exact ⟨[_], ⟨rfl, trivial⟩, _, Le.refl _, rfl, _, rfl, .inr ⟨rfl, hno⟩⟩
theorem ybN {p q : Prop} (h : q) (e : p = q := by simp only [x_makeFunc, List.map_toArray, List.map_cons, List.map_nil, eX, ↓reduceIte, Nat.reduceEqDiff, Int.reduceToNat]; exact rfl) : p := e.mpr h
set_option maxRecDepth 100000 in
set_option maxHeartbeats 1000000 in
theorem crash1_ok (H : Hp) (kc bd : Nat) (a : Option Addr) (cap : Nat) (l : List Kp) (dev : Int) (n : Int) (hkc : H kc = some (.cells #[.slice a l.length cap] 69)) (hbd : H bd = some (.cells #[.int .i64 dev] 3)) (hv : Holds H 3 (.slice a l.length cap) l.length (kps l)) (hl : l.length ≤ 1000) :
 CallH Try.prog 62 #[.int .i64 n, .pointer (some ⟨kc, 0, none⟩), .pointer (some ⟨bd, 0, none⟩)] H (fun v H' => v = .tuple #[.int .i64 ((keepOf l dev n).getD 0), .bool (keepOf l dev n).isSome] ∧ H' = H) := by
 refine zam (l := [_, _, _]) (rl := [.tmp 4, .tmp 5]) (n := 17) Try.func62 rfl rfl rfl rfl rfl ?_
 refine yaa ?_
 refine zac (fun K1 hK1 => ?_)
 refine zaa ?_
 refine zab (fun K hK r => ?_)
 refine yaW ?_
 intro b3 hb3
 try have n3_kc : kc ≠ b3 := zaf hbA hb3
 try have n3_bd : bd ≠ b3 := zaf hbA hb3
 have f3_H : H b3 = none := zag lhA hb3
 refine yaf ?_
 refine hK _ _ ?_; clear hK K
 refine zaj rfl ?_
 refine zaj rfl ?_
 refine zad ?_
 refine yab ?_
 refine hK1 _ _ ?_; try clear hK1 K1
 refine zac (fun K2 hK2 => ?_)
 refine zaa ?_
 refine zab (fun K hK r => ?_)
 refine yap ?_
 refine zae Try.underlying69 rfl hbA ldA ?_
 refine yaf ?_
 refine hK _ _ ?_; clear hK K
 refine zab (fun K hK r => ?_)
 refine ybN ?_
 refine hK _ _ ?_; clear hK K
 refine zab (fun K hK r => ?_)
 simp only [zaF _ bd63, List.map_toArray, List.map_cons, List.map_nil, eX, ↓reduceIte, Nat.reduceEqDiff, Int.reduceToNat]
 refine (index_ok _ a cap l (hv.le lhA) _ _ _ (fun k => decide (k.dev = dev) && decide (k.n = n)) (fun k => ValH_func bd64 (crash11_ok _ bd b3 dev n k hbA hbA)) hl).mono ?_
 rintro v9 H' ⟨hq, ix, rfl, hix⟩
 have hq := hq.symm
 subst hq
 refine yaf ?_
 refine hK _ _ ?_; clear hK K
 refine zaj rfl ?_
 refine zad ?_
 refine yab ?_
 refine hK2 _ _ ?_; try clear hK2 K2
 refine zac (fun K3 hK3 => ?_)
 refine zac (fun K4 hK4 => ?_)
 refine zaa ?_
 refine zah rfl ?_
 refine zab (fun K hK r => ?_)
 refine yac ?_
 refine hK _ _ ?_; clear hK K
 refine zad ?_
 refine yab ?_
 refine hK4 _ _ ?_; try clear hK4 K4
 refine zar (fun r => rfl) (fun c11 => ?_) (fun c11 => ?_)
 ·first
  |(exfalso; exact cnA c11; done)
  |skip
   (try replace c11 := yad c11)
   have hko : keepOf l dev n = none := by
    rcases hix with ⟨k, hk, rfl, hy, hno⟩ | ⟨rfl, hno⟩
    ·omega
    ·unfold keepOf; rw [find_no _ _ hno]; rfl
   refine zac (fun K5 hK5 => ?_)
   refine zaa ?_
   refine zaj rfl ?_
   refine zaj rfl ?_
   refine zad ?_
   refine yab ?_
   refine hK5 _ _ ?_; try clear hK5 K5
   refine zaz ?_
   refine yab ?_
   rw [hko]
   exact ⟨[_, _], ⟨rfl, rfl, trivial⟩, H, lhA, rfl, rfl⟩
 ·first
  |(exfalso; exact cnA c11; done)
  |skip
   (try replace c11 := yad c11)
   obtain ⟨k, hk, rfl, hy, hno⟩ : ∃ k : Nat, k < l.length ∧ ix = (k : Int) ∧ (fun k : Kp => decide (k.dev = dev) && decide (k.n = n)) (l.getD k default) = true ∧ ∀ j, j < k → (fun k : Kp => decide (k.dev = dev) && decide (k.n = n)) (l.getD j default) = false := by
    rcases hix with h | ⟨rfl, _⟩
    ·exact h
    ·omega
   have hko : keepOf l dev n = some (l.getD k default).tear := by unfold keepOf; rw [find_at _ _ k hk hy hno]; rfl
   obtain ⟨bw, ow, cw, Tw, Fw, ew, hbw, hsw, atw⟩ := hv.at (by omega)
   refine zau ?_
   refine yab ?_
   refine hK3 _ _ ?_; try clear hK3 K3
   refine zac (fun K6 hK6 => ?_)
   refine zaa ?_
   refine zab (fun K hK r => ?_)
   refine yap ?_
   refine zae Try.underlying69 rfl hbA ldA ?_
   refine yaf ?_
   refine hK _ _ ?_; clear hK K
   refine zah rfl ?_
   refine zab (fun K hK r => ?_)
   refine yaw ?_
   refine zaK Try.underlying69 sz140 ew ixA ixA ?_
   refine ybp ?_
   refine hK _ _ ?_; clear hK K
   refine zab (fun K hK r => ?_)
   simp only [zao, fa140_2, zaH, Nat.reduceAdd, Nat.zero_add, eX, ↓reduceIte, Nat.reduceEqDiff, Int.reduceToNat]
   refine hK _ _ ?_; clear hK K
   refine zab (fun K hK r => ?_)
   refine yap ?_
   refine zae Try.underlying3 rfl ((zap _ _ (zaf hbw f3_H)).trans hbw) (v := .int .i64 (l.getD k default).tear) (by first | exact cell_at Kp.len atw rfl k hk 2 (by decide) | (rw [cell_at Kp.len atw rfl k hk 2 (by decide)]; rfl)) ?_
   refine hK _ _ ?_; clear hK K
   refine zaj rfl ?_
   refine zaj rfl ?_
   refine zad ?_
   refine yab ?_
   refine hK6 _ _ ?_; try clear hK6 K6
   refine zaz ?_
   refine yab ?_
   rw [hko]
   exact ⟨[_, _], ⟨rfl, rfl, trivial⟩, H, lhA, rfl, rfl⟩
end Go.Proofs.Ytigofhhonnbkmaa.HL
end
section
namespace Go.Proofs.Ytigofhhonnbkmaa.HL
open Go Go.Proofs
set_option linter.unusedSimpArgs false
set_option linter.unusedVariables false
attribute [local irreducible] Lt Lq CW OW TW CallH
set_option maxRecDepth 100000 in
set_option maxHeartbeats 8000000 in
theorem crash_ok (H : Hp) (p : Nat) (s : St) (rd cap : Nat) (bs : List Nat) (Fs : Nat → Hp) (h : SX H p s rd cap bs Fs) (hl : s.dv.length ≤ 1000) (hw : ∀ i, (s.dv.getD i default).wait.length ≤ 1000000) (G : Hp) (hG : Le G H) (hGp : G p = none) (hGd : ∀ i, i < s.dv.length → ∀ x, Fs i x ≠ none → G x = none) (a : Option Addr) (kcap : Nat) (l : List Kp) (hkv : Holds G 3 (.slice a l.length kcap) l.length (kps l)) (hkl : l.length ≤ 1000) : CallH Try.prog 26 #[(.pointer (some ⟨p, 0, none⟩)), .slice a l.length kcap] H (fun v H' => SetX H' p (s.cr l)) := by
 refine zam (l := [_, _]) (rl := []) (n := 30) Try.func26 rfl rfl rfl rfl rfl ?_
 refine yaa ?_
 refine zac (fun K1 hK1 => ?_)
 refine zaa ?_
 refine zab (fun K hK r => ?_)
 refine yaW ?_
 intro b3 hb3
 have hpb3 : p ≠ b3 := zaf h.hd hb3
 have hG3 : G b3 = none := zag hG hb3
 have h3 := h.mono (le_upd H b3 (.cells #[.slice a l.length kcap] 69) hb3)
 have h3p := h3.hd
 have hF3 : ∀ i, i < s.dv.length → Fs i b3 = none := fun i hi => zag (h.le i hi) hb3
 refine yaf ?_
 refine hK _ _ ?_; clear hK K
 refine zad ?_
 refine yab ?_
 refine hK1 _ _ ?_; try clear hK1 K1
 refine zac (fun K2 hK2 => ?_)
 refine zac (fun K3 hK3 => ?_)
 refine zaa ?_
 refine zah rfl ?_
 refine zab (fun K hK r => ?_)
 refine yan ?_
 rw [e_eql _ _ _ _ (by simp)]
 rw [zaM]
 first | rw [q_ptr_nil _ _ _ Try.underlying47] | rw [q_nil_ptr _ _ _ Try.underlying47]
 refine yaf ?_
 refine hK _ _ ?_; clear hK K
 refine zad ?_
 refine yab ?_
 refine hK3 _ _ ?_; try clear hK3 K3
 refine zar (fun r => rfl) (fun c7 => ?_) (fun c7 => ?_)
 ·first
  |(exfalso; exact cnA c7; done)
  |skip
   (try replace c7 := yad c7)
   refine zaz ?_
   refine yab ?_
   skip
 ·first
  |(exfalso; exact cnA c7; done)
  |skip
   (try replace c7 := yad c7)
   refine zau ?_
   refine yab ?_
   refine hK2 _ _ ?_; try clear hK2 K2
   refine zac (fun K4 hK4 => ?_)
   refine zac (fun K5 hK5 => ?_)
   refine zaa ?_
   refine zah rfl ?_
   refine zab (fun K hK r => ?_)
   rw [zav _ _ rfl]
   refine yaj ?_
   refine hK _ _ ?_; clear hK K
   refine zab (fun K hK r => ?_)
   refine yat ?_
   refine hK _ _ ?_; clear hK K
   refine zab (fun K hK r => ?_)
   refine yap ?_
   refine zae Try.underlying112 rfl hbA ldA ?_
   refine yaf ?_
   refine hK _ _ ?_; clear hK K
   refine zab (fun K hK r => ?_)
   refine yau ?_
   refine hK _ _ ?_; clear hK K
   refine zah rfl ?_
   refine zad ?_
   refine yab ?_
   refine hK5 _ _ ?_; try clear hK5 K5
   refine zaB ?_
   refine CW_loop (fun m e H_ => ∃ (k : Nat) (Fk : Nat → Hp), k ≤ s.dv.length ∧ m = s.dv.length - k ∧ SX H_ p (s.crK l k) rd cap bs Fk ∧ (∀ i, i < s.dv.length → ∀ x, Fk i x ≠ none → (G.upd b3 (.cells #[.slice a l.length kcap] 69)) x = none) ∧ Le (G.upd b3 (.cells #[.slice a l.length kcap] 69)) H_ ∧ Env.has [(0, (.pointer (some ⟨p, 0, none⟩))), (3, .pointer (some ⟨b3, 0, none⟩)), (11, .slice (some ⟨rd, 0, none⟩) s.dv.length cap), (12, .int .i64 s.dv.length), (13, .int .i64 k)] e) (s.dv.length) ?_ ?_
   ·skip
    refine ⟨0, Fs, by omega, by omega, by rw [St.crK_zero]; exact h3, (fun i hi x hx => ?_), ?_, rfl, rfl, rfl, rfl, rfl, trivial⟩
    ·rw [zap _ _ (fun e => by subst e; exact hx (hF3 i hi))]; exact hGd i hi x hx
    ·exact le_put (Le.trans hG (le_upd _ _ _ hb3)) (zan _ _ _)
   intro m_ e_ H_ hI_
   obtain ⟨k, Fk, hk, rfl, hS, hap, hleG, he⟩ := hI_
   refine CW_env he.sub ?_; clear he e_
   have hk3 := hleG b3 _ (zan _ _ _)
   refine zac (fun K6 hK6 => ?_)
   refine zaa ?_
   refine zab (fun K hK r => ?_)
   refine yac ?_
   refine hK _ _ ?_; clear hK K
   refine zad ?_
   refine yab ?_
   refine hK6 _ _ ?_; try clear hK6 K6
   refine zac (fun K7 hK7 => ?_)
   refine zar (fun r => rfl) (fun c14 => ?_) (fun c14 => ?_)
   ·first
    |(exfalso; exact cnA c14; done)
    |skip
     (try replace c14 := yad c14)
     have hks : k < s.dv.length := by omega
     obtain ⟨cc, T, f, hr, hat, hlt⟩ := hS.at (k := k) (by rw [St.crK_len]; exact hks)
     refine zau ?_
     refine yab ?_
     refine hK7 _ _ ?_; try clear hK7 K7
     refine zac (fun K8 hK8 => ?_)
     refine zaB ?_
     refine zac (fun K9 hK9 => ?_)
     refine zaa ?_
     refine zah rfl ?_
     refine zab (fun K hK r => ?_)
     refine yaw ?_
     refine Lt_indexS Try.underlying112 sz115 ixA ixA ?_
     refine yax ?_
     refine yaf ?_
     refine hK _ _ ?_; clear hK K
     refine zab (fun K hK r => ?_)
     refine yap ?_
     refine zae Try.underlying115 rfl hbA hat ?_
     refine hK _ _ ?_; clear hK K
     refine zab (fun K hK r => ?_)
     simp only [x_alloc, zr3, zay, Value.cells, eX, ↓reduceIte, Nat.reduceEqDiff, Int.reduceToNat]
     intro b4 hb4
     try have n4_b3 : b3 ≠ b4 := zaf hbA hb4
     refine yaf ?_
     refine hK _ _ ?_; clear hK K
     refine zaI rfl (zas) (fun K hK r => ?_)
     refine yaD ?_
     refine zaE sz3 hbA bdA plA fzA ?_
     refine yaE ?_
     refine yaf ?_
     refine hK _ _ ?_; clear hK K
     refine zaj rfl ?_
     refine zad ?_
     refine yab ?_
     refine hK9 _ _ ?_; try clear hK9 K9
     refine zaa ?_
     refine zah rfl ?_
     refine zab (fun K hK r => ?_)
     refine ybN ?_
     refine hK _ _ ?_; clear hK K
     refine zab (fun K hK r => ?_)
     simp only [zaF _ bd61, List.map_toArray, List.map_cons, List.map_nil, eX, ↓reduceIte, Nat.reduceEqDiff, Int.reduceToNat]
     have hdk := hS.dev k (by rw [St.crK_len]; exact hks)
     rw [St.crK_at _ _ _ hks] at hdk
     have hfpk := hS.fp k (by rw [St.crK_len]; exact hks)
     have hlek := hS.le k (by rw [St.crK_len]; exact hks)
     have hFb4 : ∀ x, Fk k x ≠ none → x ≠ b4 := fun x hx e => by subst e; exact hx (zag hlek hb4)
     have hpb4 : p ≠ b4 := zaf hS.hd hb4
     have hGb4 : (G.upd b3 (.cells #[.slice a l.length kcap] 69)) b4 = none := zag hleG hb4
     refine (settle_ok _ _ _ (Fk k) ((G.upd b3 (.cells #[.slice a l.length kcap] 69)).upd b4 (.cells #[.int .i64 (k : Int)] 3)) hdk (Le.trans hlek (le_upd _ _ _ hb4)) (le_put (Le.trans hleG (le_upd _ _ _ hb4)) (zan _ _ _)) (fun x hx => (zap _ _ (hFb4 x hx)).trans (hap k hks x hx)) (.func 62) #[] #[.pointer (some ⟨b3, 0, none⟩), .pointer (some ⟨b4, 0, none⟩)] (fun n => keepOf l k n) (fun KK hKK n hn => ValH_func bd62 (crash1_ok KK b3 b4 a kcap l k n (hKK b3 _ ((zap _ _ (zaf (zan _ _ _) hGb4)).trans (zan _ _ _))) (hKK b4 _ (zan _ _ _)) (hkv.le (Le.trans (Le.trans (le_upd _ _ _ hG3) (le_upd _ _ _ hGb4)) hKK)) hkl)) (hw _)).mono ?_
     rintro v20 H20 ⟨F', hdF, hlF, hdom, hkp⟩
     have hkp4 : ∀ x o, H_ x = some o → Fk k x = none → H20 x = some o := fun x o hx hn => hkp x o ((zap _ _ (zaf hx hb4)).trans hx) hn
     obtain ⟨Fk', hS', hFk'⟩ := hS.put2 (t := s.crK l (k + 1)) (i := k) (by rw [St.crK_len]; exact hks) hdF (St.crK_next s l k hks) (by have := hkp4 p _ hS.hd hfpk.1; rw [this]; rfl) hlF (fun z o hz hn hzp => hkp4 z o hz hn) (fun z hz => .inl (hdom z hz))
     have hap' : ∀ i, i < s.dv.length → ∀ x, Fk' i x ≠ none → (G.upd b3 (.cells #[.slice a l.length kcap] 69)) x = none := fun i hi x hx => by
      subst hFk'
      by_cases e : i = k
      ·subst e; simp only [if_true] at hx; exact hap i hi x (hdom x hx)
      ·simp only [if_neg e] at hx; exact hap i hi x hx
     have hleG' : Le (G.upd b3 (.cells #[.slice a l.length kcap] 69)) H20 := fun z o hz => hkp4 z o (hleG z o hz) (by
      cases hc : Fk k z with
      |none => rfl
      |some u => rw [hap k hks z (by rw [hc]; simp)] at hz; cases hz)
     refine yaf ?_
     refine hK _ _ ?_; clear hK K
     refine zad ?_
     refine yab ?_
     refine hK8 _ _ ?_; try clear hK8 K8
     refine zaa ?_
     refine zab (fun K hK r => ?_)
     refine yaq ?_
     refine hK _ _ ?_; clear hK K
     refine zah rfl ?_
     refine zad ?_
     refine yab ?_
     refine ⟨s.dv.length - (k + 1), by omega, k + 1, Fk', by omega, rfl, hS', hap', hleG', rfl, rfl, rfl, rfl, rfl, trivial⟩
   ·first
    |(exfalso; exact cnA c14; done)
    |skip
     (try replace c14 := yad c14)
     have hkn : k = s.dv.length := by omega
     have hSp := hS.hd
     refine CW_exit ?_
     refine yab ?_
     refine hK4 _ _ ?_; try clear hK4 K4
     refine zaa ?_
     refine zah rfl ?_
     refine zah rfl ?_
     refine zab (fun K hK r => ?_)
     rw [zav _ _ rfl]
     refine yaj ?_
     refine hK _ _ ?_; clear hK K
     refine zab (fun K hK r => ?_)
     refine ybI ?_
     refine hK _ _ ?_; clear hK K
     refine zab (fun K hK r => ?_)
     refine yaA ?_
     refine hK _ _ ?_; clear hK K
     refine zaI rfl (zas) (fun K hK r => ?_)
     refine yaD ?_
     refine zaE sz4 hbA bdA plA fzA ?_
     refine yaE ?_
     refine yaf ?_
     refine hK _ _ ?_; clear hK K
     refine zab (fun K hK r => ?_)
     rw [zav _ _ rfl]
     refine yaj ?_
     refine hK _ _ ?_; clear hK K
     refine zab (fun K hK r => ?_)
     refine ybI ?_
     refine hK _ _ ?_; clear hK K
     refine zab (fun K hK r => ?_)
     refine yaz ?_
     refine hK _ _ ?_; clear hK K
     refine zaI rfl (zas) (fun K hK r => ?_)
     refine yaD ?_
     refine zaE sz4 hbA bdA plA fzA ?_
     refine yaE ?_
     refine yaf ?_
     refine hK _ _ ?_; clear hK K
     refine zad ?_
     refine yab ?_
     have hcr : (s.cr l).dv = (s.crK l k).dv := by rw [hkn, St.crK_all]
     have hln : (s.crK l k).dv.length = s.dv.length := St.crK_len _ _ _
     refine ⟨[], trivial, _, Le.refl _, rd, cap, bs, Fk, hS.head hcr (by rw [hln]; exact zan _ _ _) (fun z o hz hzp => (zap _ _ hzp).trans hz)⟩
end Go.Proofs.Ytigofhhonnbkmaa.HL
end
section
namespace Go.Proofs.Ytigofhhonnbkmaa.HL
open Go Go.Proofs
set_option linter.unusedSimpArgs false
set_option linter.unusedVariables false
attribute [local irreducible] Lt Lq CW OW TW CallH
set_option maxRecDepth 100000 in
set_option maxHeartbeats 1000000 in
theorem down_ok (H : Hp) (p : Nat) (s : St) (rd cap : Nat) (bs : List Nat) (Fs : Nat → Hp) (h : SX H p s rd cap bs Fs) : CallH Try.prog 32 #[(.pointer (some ⟨p, 0, none⟩))] H (fun v H' => v = .bool s.gone ∧ H' = H) := by
 refine zam (l := [_]) (rl := [.tmp 2]) (n := 12) Try.func32 rfl rfl rfl rfl rfl ?_
 refine yaa ?_
 have hhd := h.hd
 refine zac (fun K1 hK1 => ?_)
 refine zaa ?_
 refine zaj rfl ?_
 refine zad ?_
 refine yab ?_
 refine hK1 _ _ ?_; try clear hK1 K1
 refine zac (fun K2 hK2 => ?_)
 refine zaa ?_
 refine zah rfl ?_
 refine zab (fun K hK r => ?_)
 refine yan ?_
 rw [e_eql _ _ _ _ (by simp)]
 rw [zaM]
 first | rw [q_ptr_nil _ _ _ Try.underlying47] | rw [q_nil_ptr _ _ _ Try.underlying47]
 refine yaf ?_
 refine hK _ _ ?_; clear hK K
 refine zah rfl ?_
 (first | refine zaA (d := 5) rfl (fun g5 => ?_) (fun g5 => ?_) | skip)
 all_goals try (exfalso; exact cnA g5)
 all_goals (try replace g5 := yad g5)
 all_goals
  refine yaf ?_
  first
  |refine yGT (fun K hK r => ?_)
   refine yai ?_
   refine hK _ _ ?_; clear hK K
  |refine yGF ?_
   refine yaj ?_
  first
  |refine yGT (fun K hK r => ?_)
   rw [zav _ _ rfl]
   refine yaj ?_
   refine hK _ _ ?_; clear hK K
  |refine yGF ?_
   refine yaj ?_
  first
  |refine yGT (fun K hK r => ?_)
   refine ybI ?_
   refine hK _ _ ?_; clear hK K
  |refine yGF ?_
   refine yaj ?_
  first
  |refine yGT (fun K hK r => ?_)
   refine yaz ?_
   refine hK _ _ ?_; clear hK K
  |refine yGF ?_
   refine yaj ?_
  first
  |refine yGT (fun K hK r => ?_)
   refine yap ?_
   refine zae Try.underlying4 rfl hbA ldA ?_
   refine yaf ?_
   refine hK _ _ ?_; clear hK K
  |refine yGF ?_
   refine yaj ?_
  refine zab (fun K hK r => ?_)
  refine yal ?_
  refine hK _ _ ?_; clear hK K
  refine zaj rfl ?_
  refine zad ?_
  refine yab ?_
  refine hK2 _ _ ?_; try clear hK2 K2
  refine zaz ?_
  refine yab ?_
  first | exact ⟨[_], ⟨rfl, trivial⟩, _, Le.refl _, rfl, rfl⟩ | (exfalso; simp_all; done)
set_option maxRecDepth 100000 in
set_option maxHeartbeats 1000000 in
theorem steps_ok (H : Hp) (p : Nat) (s : St) (rd cap : Nat) (bs : List Nat) (Fs : Nat → Hp) (h : SX H p s rd cap bs Fs) : CallH Try.prog 33 #[(.pointer (some ⟨p, 0, none⟩))] H (fun v H' => v = .int .i64 s.steps ∧ H' = H) := by
 refine zam (l := [_]) (rl := [.tmp 2]) (n := 10) Try.func33 rfl rfl rfl rfl rfl ?_
 refine yaa ?_
 have hhd := h.hd
 refine zac (fun K1 hK1 => ?_)
 refine zaa ?_
 refine zaj rfl ?_
 refine zad ?_
 refine yab ?_
 refine hK1 _ _ ?_; try clear hK1 K1
 refine zac (fun K2 hK2 => ?_)
 refine zac (fun K3 hK3 => ?_)
 refine zaa ?_
 refine zah rfl ?_
 refine zab (fun K hK r => ?_)
 refine yan ?_
 rw [e_eql _ _ _ _ (by simp)]
 rw [zaM]
 first | rw [q_ptr_nil _ _ _ Try.underlying47] | rw [q_nil_ptr _ _ _ Try.underlying47]
 refine yaf ?_
 refine hK _ _ ?_; clear hK K
 refine zad ?_
 refine yab ?_
 refine hK3 _ _ ?_; try clear hK3 K3
 refine zar (fun r => rfl) (fun c4 => ?_) (fun c4 => ?_)
 ·first
  |(exfalso; exact cnA c4; done)
  |skip
   (try replace c4 := yad c4)
   refine zac (fun K4 hK4 => ?_)
   refine zaa ?_
   refine zaj rfl ?_
   refine zad ?_
   refine yab ?_
   refine hK4 _ _ ?_; try clear hK4 K4
   refine zaz ?_
   refine yab ?_
   skip
 ·first
  |(exfalso; exact cnA c4; done)
  |skip
   (try replace c4 := yad c4)
   refine zau ?_
   refine yab ?_
   refine hK2 _ _ ?_; try clear hK2 K2
   refine zac (fun K5 hK5 => ?_)
   refine zaa ?_
   refine zah rfl ?_
   refine zab (fun K hK r => ?_)
   rw [zav _ _ rfl]
   refine yaj ?_
   refine hK _ _ ?_; clear hK K
   refine zab (fun K hK r => ?_)
   refine ybI ?_
   refine hK _ _ ?_; clear hK K
   refine zab (fun K hK r => ?_)
   refine yaH ?_
   refine hK _ _ ?_; clear hK K
   refine zab (fun K hK r => ?_)
   refine yap ?_
   refine zae Try.underlying3 rfl hbA ldA ?_
   refine yaf ?_
   refine hK _ _ ?_; clear hK K
   refine zaj rfl ?_
   refine zad ?_
   refine yab ?_
   refine hK5 _ _ ?_; try clear hK5 K5
   refine zaz ?_
   refine yab ?_
   exact ⟨[_], ⟨rfl, trivial⟩, _, Le.refl _, rfl, rfl⟩
set_option maxRecDepth 100000 in
set_option maxHeartbeats 1000000 in
theorem arm_ok (H : Hp) (p : Nat) (s : St) (rd cap : Nat) (bs : List Nat) (Fs : Nat → Hp) (h : SX H p s rd cap bs Fs) (n : Int) : CallH Try.prog 29 #[(.pointer (some ⟨p, 0, none⟩)), .int .i64 n] H (fun v H' => v = errV (if n < 0 then some 1 else none) ∧ SetX H' p (if n < 0 then s else { s with armed := true, left := n })) := by
 refine zam (l := [_, _]) (rl := [.tmp 4]) (n := 22) Try.func29 rfl rfl rfl rfl rfl ?_
 refine yaa ?_
 have hhd := h.hd
 refine zac (fun K1 hK1 => ?_)
 refine zaa ?_
 refine zaj rfl ?_
 refine zad ?_
 refine yab ?_
 refine hK1 _ _ ?_; try clear hK1 K1
 refine zac (fun K2 hK2 => ?_)
 refine zaB ?_
 refine zac (fun K3 hK3 => ?_)
 refine zaa ?_
 refine zah rfl ?_
 refine zab (fun K hK r => ?_)
 refine yan ?_
 rw [e_eql _ _ _ _ (by simp)]
 rw [zaM]
 first | rw [q_ptr_nil _ _ _ Try.underlying47] | rw [q_nil_ptr _ _ _ Try.underlying47]
 refine yaf ?_
 refine hK _ _ ?_; clear hK K
 refine zaj rfl ?_
 refine zad ?_
 refine yab ?_
 refine hK3 _ _ ?_; try clear hK3 K3
 refine zar (fun r => rfl) (fun c5 => ?_) (fun c5 => ?_)
 ·first
  |(exfalso; exact cnA c5; done)
  |skip
   (try replace c5 := yad c5)
   refine zac (fun K4 hK4 => ?_)
   refine zaa ?_
   refine zab (fun K hK r => ?_)
   refine yaF ?_
   refine hK _ _ ?_; clear hK K
   refine zaj rfl ?_
   refine zad ?_
   refine yab ?_
   refine hK4 _ _ ?_; try clear hK4 K4
   refine zaz ?_
   refine yab ?_
   skip
 ·first
  |(exfalso; exact cnA c5; done)
  |skip
   (try replace c5 := yad c5)
   refine zac (fun K5 hK5 => ?_)
   refine zaa ?_
   refine zah rfl ?_
   refine zab (fun K hK r => ?_)
   refine yac ?_
   refine hK _ _ ?_; clear hK K
   refine zaj rfl ?_
   refine zad ?_
   refine yab ?_
   refine hK5 _ _ ?_; try clear hK5 K5
   refine zar (fun r => rfl) (fun c9 => ?_) (fun c9 => ?_)
   ·first
    |(exfalso; exact cnA c9; done)
    |skip
     (try replace c9 := yad c9)
     refine zac (fun K6 hK6 => ?_)
     refine zaa ?_
     refine zab (fun K hK r => ?_)
     refine yaF ?_
     refine hK _ _ ?_; clear hK K
     refine zaj rfl ?_
     refine zad ?_
     refine yab ?_
     refine hK6 _ _ ?_; try clear hK6 K6
     refine zaz ?_
     refine yab ?_
     refine ⟨[_], ⟨rfl, trivial⟩, _, Le.refl _, ?_, ?_⟩
     ·rw [if_pos (by omega)]; rfl
     ·rw [if_pos (by omega)]; exact ⟨rd, cap, bs, Fs, h⟩
   ·first
    |(exfalso; exact cnA c9; done)
    |skip
     (try replace c9 := yad c9)
     refine zau ?_
     refine yab ?_
     refine hK2 _ _ ?_; try clear hK2 K2
     refine zac (fun K7 hK7 => ?_)
     refine zaa ?_
     refine zah rfl ?_
     refine zah rfl ?_
     refine zah rfl ?_
     refine zab (fun K hK r => ?_)
     rw [zav _ _ rfl]
     refine yaj ?_
     refine hK _ _ ?_; clear hK K
     refine zab (fun K hK r => ?_)
     refine ybI ?_
     refine hK _ _ ?_; clear hK K
     refine zab (fun K hK r => ?_)
     refine yaA ?_
     refine hK _ _ ?_; clear hK K
     refine zaI rfl (zas) (fun K hK r => ?_)
     refine yaD ?_
     refine zaE sz4 hbA bdA plA fzA ?_
     refine yaE ?_
     refine yaf ?_
     refine hK _ _ ?_; clear hK K
     refine zab (fun K hK r => ?_)
     rw [zav _ _ rfl]
     refine yaj ?_
     refine hK _ _ ?_; clear hK K
     refine zab (fun K hK r => ?_)
     refine ybI ?_
     refine hK _ _ ?_; clear hK K
     refine zab (fun K hK r => ?_)
     refine yaB ?_
     refine hK _ _ ?_; clear hK K
     refine zaI rfl (zas) (fun K hK r => ?_)
     refine yaD ?_
     refine zaE sz3 hbA bdA plA fzA ?_
     refine yaE ?_
     refine yaf ?_
     refine hK _ _ ?_; clear hK K
     refine zad ?_
     refine yab ?_
     refine hK7 _ _ ?_; try clear hK7 K7
     refine zac (fun K8 hK8 => ?_)
     refine zaa ?_
     refine zaj rfl ?_
     refine zad ?_
     refine yab ?_
     refine hK8 _ _ ?_; try clear hK8 K8
     refine zaz ?_
     refine yab ?_
     refine ⟨[_], ⟨rfl, trivial⟩, _, Le.refl _, ?_, ?_⟩
     ·rw [if_neg (by omega)]; rfl
     ·rw [if_neg (by omega)]; exact ⟨rd, cap, bs, Fs, h.head rfl (zan _ _ _) (fun z o hz hzp => (zap _ _ hzp).trans hz)⟩
set_option maxRecDepth 100000 in
set_option maxHeartbeats 1000000 in
theorem size_in (H : Hp) (p : Nat) (s : St) (rd cap : Nat) (bs : List Nat) (Fs : Nat → Hp) (h : SX H p s rd cap bs Fs) (hl : s.dv.length ≤ 1000) (dev : Int) (hin : 0 ≤ dev ∧ dev < s.dv.length) : CallH Try.prog 52 #[(.pointer (some ⟨p, 0, none⟩)), .int .i64 dev] H (fun v H' => v = .int .i64 (s.dv.getD dev.toNat default).size ∧ H' = H) := by
 refine zam (l := [_, _]) (rl := [.tmp 4]) (n := 15) Try.func52 rfl rfl rfl rfl rfl ?_
 refine yaa ?_
 have hk : dev.toNat < s.dv.length := by omega
 obtain ⟨mb, es, c, wv, wrs, hb0, hm0, hms, how, hbm, hwb, hwm⟩ := (h.dev dev.toNat hk).facts
 obtain ⟨wa, wcp, rfl⟩ := how.holds.form
 have kb := h.le dev.toNat hk _ _ hb0
 refine zac (fun K1 hK1 => ?_)
 refine zaa ?_
 refine zaj rfl ?_
 refine zad ?_
 refine yab ?_
 refine hK1 _ _ ?_; try clear hK1 K1
 refine zac (fun K2 hK2 => ?_)
 refine zac (fun K3 hK3 => ?_)
 refine zaa ?_
 refine zah rfl ?_
 refine zah rfl ?_
 refine zab (fun K hK r => ?_)
 refine ybH ?_
 refine (device_ok _ p s rd cap bs Fs h dev hl).mono ?_
 rintro v H' ⟨rfl, rfl⟩
 rw [show devV s bs dev = ptrV (bs.getD dev.toNat 0) from if_pos hin]
 simp only [ptrV]
 refine yaf ?_
 refine hK _ _ ?_; clear hK K
 refine zaj rfl ?_
 refine zad ?_
 refine yab ?_
 refine hK3 _ _ ?_; try clear hK3 K3
 refine zac (fun K4 hK4 => ?_)
 refine zaa ?_
 refine zah rfl ?_
 refine zab (fun K hK r => ?_)
 refine yan ?_
 rw [e_neq _ _ _ _ (by simp)]
 rw [zaM]
 first | rw [q_ptr_nil _ _ _ Try.underlying115] | rw [q_nil_ptr _ _ _ Try.underlying115]
 refine yaf ?_
 refine hK _ _ ?_; clear hK K
 refine zad ?_
 refine yab ?_
 refine hK4 _ _ ?_; try clear hK4 K4
 refine zar (fun r => rfl) (fun c10 => ?_) (fun c10 => ?_)
 ·first
  |(exfalso; exact cnA c10; done)
  |skip
   (try replace c10 := yad c10)
   refine zac (fun K5 hK5 => ?_)
   refine zaa ?_
   refine zah rfl ?_
   refine zab (fun K hK r => ?_)
   rw [zav _ _ rfl]
   refine yaj ?_
   refine hK _ _ ?_; clear hK K
   refine zab (fun K hK r => ?_)
   refine yay ?_
   refine hK _ _ ?_; clear hK K
   refine zab (fun K hK r => ?_)
   refine yap ?_
   refine zae Try.underlying3 rfl hbA ldA ?_
   refine yaf ?_
   refine hK _ _ ?_; clear hK K
   refine zaj rfl ?_
   refine zad ?_
   refine yab ?_
   refine hK5 _ _ ?_; try clear hK5 K5
   refine zaz ?_
   refine yab ?_
   exact ⟨[_], ⟨rfl, trivial⟩, _, Le.refl _, rfl, rfl⟩
 ·first
  |(exfalso; exact cnA c10; done)
  |skip
   (try replace c10 := yad c10)
   refine zau ?_
   refine yab ?_
   refine hK2 _ _ ?_; try clear hK2 K2
   refine zac (fun K6 hK6 => ?_)
   refine zaa ?_
   refine zaj rfl ?_
   refine zad ?_
   refine yab ?_
   refine hK6 _ _ ?_; try clear hK6 K6
   refine zaz ?_
   refine yab ?_
   skip
set_option maxRecDepth 100000 in
set_option maxHeartbeats 1000000 in
theorem size_out (H : Hp) (p : Nat) (s : St) (rd cap : Nat) (bs : List Nat) (Fs : Nat → Hp) (h : SX H p s rd cap bs Fs) (hl : s.dv.length ≤ 1000) (dev : Int) (hno : ¬ (0 ≤ dev ∧ dev < s.dv.length)) : CallH Try.prog 52 #[(.pointer (some ⟨p, 0, none⟩)), .int .i64 dev] H (fun v H' => v = .int .i64 0 ∧ H' = H) := by
 refine zam (l := [_, _]) (rl := [.tmp 4]) (n := 15) Try.func52 rfl rfl rfl rfl rfl ?_
 refine yaa ?_
 refine zac (fun K1 hK1 => ?_)
 refine zaa ?_
 refine zaj rfl ?_
 refine zad ?_
 refine yab ?_
 refine hK1 _ _ ?_; try clear hK1 K1
 refine zac (fun K2 hK2 => ?_)
 refine zac (fun K3 hK3 => ?_)
 refine zaa ?_
 refine zah rfl ?_
 refine zah rfl ?_
 refine zab (fun K hK r => ?_)
 refine ybH ?_
 refine (device_ok _ p s rd cap bs Fs h dev hl).mono ?_
 rintro v H' ⟨rfl, rfl⟩
 rw [show devV s bs dev = .pointer none from if_neg hno]
 refine yaf ?_
 refine hK _ _ ?_; clear hK K
 refine zaj rfl ?_
 refine zad ?_
 refine yab ?_
 refine hK3 _ _ ?_; try clear hK3 K3
 refine zac (fun K4 hK4 => ?_)
 refine zaa ?_
 refine zah rfl ?_
 refine zab (fun K hK r => ?_)
 refine yan ?_
 rw [e_neq _ _ _ _ (by simp)]
 rw [zaM]
 first | rw [q_ptr_nil _ _ _ Try.underlying115] | rw [q_nil_ptr _ _ _ Try.underlying115]
 refine yaf ?_
 refine hK _ _ ?_; clear hK K
 refine zad ?_
 refine yab ?_
 refine hK4 _ _ ?_; try clear hK4 K4
 refine zar (fun r => rfl) (fun c10 => ?_) (fun c10 => ?_)
 ·first
  |(exfalso; exact cnA c10; done)
  |skip
   (try replace c10 := yad c10)
   refine zac (fun K5 hK5 => ?_)
   refine zaa ?_
   refine zah rfl ?_
   refine zab (fun K hK r => ?_)
   rw [zav _ _ rfl]
   refine yaj ?_
   refine hK _ _ ?_; clear hK K
   refine zab (fun K hK r => ?_)
   refine yay ?_
   refine hK _ _ ?_; clear hK K
   refine zab (fun K hK r => ?_)
   refine yap ?_
   refine zae Try.underlying3 rfl hbA ldA ?_
   refine yaf ?_
   refine hK _ _ ?_; clear hK K
   refine zaj rfl ?_
   refine zad ?_
   refine yab ?_
   refine hK5 _ _ ?_; try clear hK5 K5
   refine zaz ?_
   refine yab ?_
   skip
 ·first
  |(exfalso; exact cnA c10; done)
  |skip
   (try replace c10 := yad c10)
   refine zau ?_
   refine yab ?_
   refine hK2 _ _ ?_; try clear hK2 K2
   refine zac (fun K6 hK6 => ?_)
   refine zaa ?_
   refine zaj rfl ?_
   refine zad ?_
   refine yab ?_
   refine hK6 _ _ ?_; try clear hK6 K6
   refine zaz ?_
   refine yab ?_
   exact ⟨[_], ⟨rfl, trivial⟩, _, Le.refl _, rfl, rfl⟩
end Go.Proofs.Ytigofhhonnbkmaa.HL
end
section
namespace Go.Proofs.Ytigofhhonnbkmaa.HL
open Go Go.Proofs
set_option linter.unusedSimpArgs false
set_option linter.unusedVariables false
attribute [local irreducible] Lt Lq CW OW TW CallH
theorem lastW_none {i : Int} : ∀ {ws : List Wt}, (∀ j, j < ws.length → (ws.getD j default).at_ ≠ i) → lastW ws i = none
  | [], _ => rfl
  | w :: r, h => by
    simp only [lastW]
    rw [lastW_none (ws := r) (fun j hj => by simpa using h (j + 1) (by simp; omega))]
    have : w.at_ ≠ i := by simpa using h 0 (by simp)
    simp [this]
theorem lastW_at {i : Int} : ∀ {ws : List Wt} {k : Nat}, k < ws.length → (ws.getD k default).at_ = i → (∀ j, k < j → j < ws.length → (ws.getD j default).at_ ≠ i) → lastW ws i = some (ws.getD k default).x
  | [], _, h, _, _ => absurd h (by simp)
  | w :: r, 0, _, h1, h2 => by
    simp only [lastW]
    rw [lastW_none (ws := r) (fun j hj => by simpa using h2 (j + 1) (by omega) (by simp; omega))]
    have : w.at_ = i := by simpa using h1
    simp [this]
  | w :: r, k + 1, h, h1, h2 => by
    simp only [lastW]
    rw [lastW_at (ws := r) (k := k) (by simpa using h) (by simpa using h1) (fun j hj hjl => by simpa using h2 (j + 1) (by omega) (by simp; omega))]
    simp
def St.rd (s : St) (dev i : Int) : Sec × Option Int := if s.gone = true then (Sec.zero, some 3) else if s.has dev i = true then ((s.dv.getD dev.toNat default).read i, none) else (Sec.zero, some 1)
def St.su (s : St) (dev i : Int) : Sec := if 0 ≤ dev ∧ dev < s.dv.length then (s.dv.getD dev.toNat default).sure i else Sec.zero
abbrev TBack (ws : List Wt) : Nat → List Value → Hp → Prop := Tpure (fun i => [.int .i64 ((ws.length : Int) - 1 - i), .agg (ws.getD (ws.length - 1 - i) default).c.toArray])
set_option maxRecDepth 100000 in
set_option maxHeartbeats 1000000 in
theorem Backward_ok (H : Hp) (a : Option Addr) (n cap : Nat) : CallH Try.prog 77 #[.slice a n cap] H (fun v' H' => ∃ b1, H b1 = none ∧ v' = .func (.func 80) #[] #[.pointer (some ⟨b1, 0, none⟩)] ∧ H' = H.upd b1 (.cells #[.slice a n cap] 117)) := by
 refine zam (l := [_]) (rl := [.tmp 2]) (n := 4) Try.func77 rfl rfl rfl rfl rfl ?_
 refine yaa ?_
 refine zac (fun K1 hK1 => ?_)
 refine zaa ?_
 refine zab (fun K hK r => ?_)
 refine yaW ?_
 intro b1 hb1
 have f1_H : H b1 = none := zag lhA hb1
 refine yaf ?_
 refine hK _ _ ?_; clear hK K
 refine zaj rfl ?_
 refine zad ?_
 refine yab ?_
 refine hK1 _ _ ?_; try clear hK1 K1
 refine zac (fun K2 hK2 => ?_)
 refine zaa ?_
 refine zab (fun K hK r => ?_)
 refine ybN ?_
 refine hK _ _ ?_; clear hK K
 refine zaj rfl ?_
 refine zad ?_
 refine yab ?_
 refine hK2 _ _ ?_; try clear hK2 K2
 refine zaz ?_
 refine yab ?_
 exact ⟨[_], ⟨rfl, trivial⟩, _, Le.refl _, b1, hb1, rfl, rfl⟩
set_option maxRecDepth 100000 in
set_option maxHeartbeats 4000000 in
theorem backward1_ok (H0 : Hp) (b1 : Nat) (a : Option Addr) (cap : Nat) (ws : List Wt) (hv : Holds H0 65 (.slice a ws.length cap) ws.length (wts ws)) (h1 : H0 b1 = some (.cells #[.slice a ws.length cap] 117)) (hl : ws.length ≤ 1000000) (yf : Fn) (ya yb : Array Value) (J : Nat → Hp → Prop) (S : Hp → Prop) (H : Hp) (hle : ∀ i H, J i H → Le H0 H) (hy : ∀ i, i < ws.length → ∀ H, J i H → ∀ args F, TBack ws i args F → H.apart F → ValH Try.prog (.func yf ya yb) args.toArray (H.join F) (fun v H2 => ∃ H3, Le H3 H2 ∧ ((v = .bool true ∧ J (i + 1) H3) ∨ (v = .bool false ∧ S H3)))) (hj : J 0 H) :
 CallH Try.prog 80 #[.func yf ya yb, .pointer (some ⟨b1, 0, none⟩)] H (fun _ H2 => ∃ H3, Le H3 H2 ∧ (J ws.length H3 ∨ S H3)) := by
 refine zam (l := [_, _]) (rl := []) (n := 19) Try.func80 rfl rfl rfl rfl rfl ?_
 refine yaa ?_
 have hk1 := hle 0 H hj _ _ h1
 refine zac (fun K1 hK1 => ?_)
 refine zaa ?_
 refine zab (fun K hK r => ?_)
 refine yap ?_
 refine zae Try.underlying117 rfl hbA ldA ?_
 refine yaf ?_
 refine hK _ _ ?_; clear hK K
 refine zab (fun K hK r => ?_)
 simp only [x_builtin, l_len, List.map_toArray, List.map_cons, List.map_nil, i_len_slice _ _ Try.underlying117, eX, ↓reduceIte, Nat.reduceEqDiff, Int.reduceToNat]
 refine hK _ _ ?_; clear hK K
 refine zab (fun K hK r => ?_)
 refine yaG ?_
 refine hK _ _ ?_; clear hK K
 refine zaj rfl ?_
 refine zad ?_
 refine yab ?_
 refine hK1 _ _ ?_; try clear hK1 K1
 refine zaB ?_
 refine CW_loop (fun m e H_ => ∃ (k : Nat) (HJ : Hp), k ≤ ws.length ∧ m = ws.length - k ∧ J k HJ ∧ Le HJ H_ ∧ Env.has [(0, .func yf ya yb), (1, .pointer (some ⟨b1, 0, none⟩)), (3, .int .i64 ((ws.length : Int) - 1 - k))] e) (ws.length) ?_ ?_
 ·skip
  refine ⟨0, H, by omega, by omega, hj, Le.refl _, rfl, rfl, ?_, trivial⟩
  show some (Value.int _ _) = some (Value.int _ _)
  congr 2; omega
 intro m_ e_ H_ hI_
 obtain ⟨k, HJ, hk, rfl, hJ, hlJ, he⟩ := hI_
 have hl0 := Le.trans (hle k HJ hJ) hlJ
 have hk1_ := hl0 _ _ h1
 refine CW_env he.sub ?_; clear he e_
 refine zac (fun K2 hK2 => ?_)
 refine zac (fun K3 hK3 => ?_)
 refine zaa ?_
 refine zah rfl ?_
 refine zab (fun K hK r => ?_)
 refine yav ?_
 refine hK _ _ ?_; clear hK K
 refine zad ?_
 refine yab ?_
 refine hK3 _ _ ?_; try clear hK3 K3
 refine zar (fun r => rfl) (fun c8 => ?_) (fun c8 => ?_)
 ·first
  |(exfalso; exact cnA c8; done)
  |skip
   (try replace c8 := yad c8)
   have hkN : k < ws.length := by omega
   obtain ⟨bw, ow, cw, Tw, Fw, ew, hbw, hsw, atw⟩ := (hv.le hl0).at (by omega)
   refine zau ?_
   refine yab ?_
   refine hK2 _ _ ?_; try clear hK2 K2
   refine zac (fun K4 hK4 => ?_)
   refine zaB ?_
   refine zac (fun K5 hK5 => ?_)
   refine zaa ?_
   refine zah rfl ?_
   refine zah rfl ?_
   refine zab (fun K hK r => ?_)
   refine yap ?_
   refine zae Try.underlying117 rfl hbA ldA ?_
   refine yaf ?_
   refine hK _ _ ?_; clear hK K
   refine zah rfl ?_
   refine zab (fun K hK r => ?_)
   refine yaw ?_
   refine zaK Try.underlying117 sz130 ew ixA ixA ?_
   rw [show ((ws.length : Int) - 1 - k).toNat = ws.length - 1 - k from by omega]
   refine hK _ _ ?_; clear hK K
   refine zab (fun K hK r => ?_)
   refine yap ?_
   refine zaq Try.underlying130 rfl sz130 hbw (by have := Nat.mul_le_mul_right 65 (show ws.length - 1 - k + 1 ≤ ws.length by omega); omega) ?_
   rw [ext_at Wt.len atw rfl (ws.length - 1 - k) (by omega) hsw]
   refine hK _ _ ?_; clear hK K
   refine zab (fun K hK r => ?_)
   refine ybu ?_
   show ValH _ _ _ _ _
   refine (Iter.yield0 (hy k hkN HJ hJ _ emptyHp ⟨rfl, rfl⟩ (apart_empty _)) hlJ).mono ?_
   rintro v17 H17 ⟨t, H3, rfl, hl3, hyes, hno, _⟩
   refine yaf ?_
   refine hK _ _ ?_; clear hK K
   refine zab (fun K hK r => ?_)
   refine yam ?_
   refine hK _ _ ?_; clear hK K
   refine zad ?_
   refine yab ?_
   refine hK5 _ _ ?_; try clear hK5 K5
   refine zar (fun r => rfl) (fun c18 => ?_) (fun c18 => ?_)
   ·first
    |(exfalso; exact cnA c18; done)
    |skip
     have q18 := c18
     refine zaz ?_
     refine yab ?_
     exact ⟨[], trivial, _, Le.refl _, H3, hl3, .inr (hno (by simpa using q18))⟩
   ·first
    |(exfalso; exact cnA c18; done)
    |skip
     have ht : t = true := by simpa using c18
     have hJ3 := hyes ht
     refine zau ?_
     refine yab ?_
     refine hK4 _ _ ?_; try clear hK4 K4
     refine zaa ?_
     refine zah rfl ?_
     refine zab (fun K hK r => ?_)
     refine yaG ?_
     refine hK _ _ ?_; clear hK K
     refine zaj rfl ?_
     refine zad ?_
     refine yab ?_
     refine ⟨ws.length - (k + 1), by omega, k + 1, H3, by omega, rfl, hJ3, hl3, rfl, rfl, ?_, trivial⟩
     show some (Value.int _ _) = some (Value.int _ _)
     congr 2; omega
 ·first
  |(exfalso; exact cnA c8; done)
  |skip
   (try replace c8 := yad c8)
   have hkN : k = ws.length := by omega
   refine CW_exit ?_
   refine yab ?_
   subst hkN
   exact ⟨[], trivial, _, Le.refl _, HJ, hlJ, .inl hJ⟩
theorem iter_back (H0 : Hp) (b1 : Nat) (a : Option Addr) (cap : Nat) (ws : List Wt) (hv : Holds H0 65 (.slice a ws.length cap) ws.length (wts ws)) (h1 : H0 b1 = some (.cells #[.slice a ws.length cap] 117)) (hl : ws.length ≤ 1000000) : Iter Try.prog (.func (.func 80) #[] #[.pointer (some ⟨b1, 0, none⟩)]) H0 ws.length (TBack ws) :=
  fun yf ya yb J S H hle hy hj => ValH_func bd80 (backward1_ok H0 b1 a cap ws hv h1 hl yf ya yb J S H hle hy hj)
set_option maxRecDepth 100000 in
set_option maxHeartbeats 8000000 in
theorem read_ok (H : Hp) (p : Nat) (s : St) (rd cap : Nat) (bs : List Nat) (Fs : Nat → Hp) (h : SX H p s rd cap bs Fs) (hl : s.dv.length ≤ 1000) (hw : ∀ i, (s.dv.getD i default).wait.length ≤ 1000000) (dev i : Int) : CallH Try.prog 65 #[(.pointer (some ⟨p, 0, none⟩)), .int .i64 dev, .int .i64 i] H (fun v H' => v = .tuple #[(s.rd dev i).1.v, errV (s.rd dev i).2] ∧ H' = H) := by
 refine zam (l := [_, _, _]) (rl := [.cell 6 30, .cell 7 32]) (n := 45) Try.func65 rfl rfl rfl rfl rfl ?_
 refine yaa ?_
 refine zac (fun K1 hK1 => ?_)
 refine zaa ?_
 refine zab (fun K hK r => ?_)
 refine yaW ?_
 intro b5 hb5
 have f5_H : H b5 = none := zag lhA hb5
 refine yaf ?_
 refine hK _ _ ?_; clear hK K
 refine zab (fun K hK r => ?_)
 refine yaX ?_
 intro b6 hb6
 try have n6_b5 : b5 ≠ b6 := zaf hbA hb6
 have f6_H : H b6 = none := zag lhA hb6
 refine yaf ?_
 refine hK _ _ ?_; clear hK K
 refine zab (fun K hK r => ?_)
 simp only [x_alloc, zr32, zay, Value.cells, eX, ↓reduceIte, Nat.reduceEqDiff, Int.reduceToNat]
 intro b7 hb7
 try have n7_b5 : b5 ≠ b7 := zaf hbA hb7
 try have n7_b6 : b6 ≠ b7 := zaf hbA hb7
 have f7_H : H b7 = none := zag lhA hb7
 refine yaf ?_
 refine hK _ _ ?_; clear hK K
 refine zad ?_
 refine yab ?_
 refine hK1 _ _ ?_; try clear hK1 K1
 refine zac (fun K2 hK2 => ?_)
 refine zaa ?_
 refine zah rfl ?_
 refine zah rfl ?_
 refine zab (fun K hK r => ?_)
 refine ybH ?_
 refine (device_ok _ p s rd cap bs Fs (h.mono lhA) dev hl).mono ?_
 rintro v H' ⟨rfl, rfl⟩
 refine yaf ?_
 refine hK _ _ ?_; clear hK K
 refine zaj rfl ?_
 refine zad ?_
 refine yab ?_
 refine hK2 _ _ ?_; try clear hK2 K2
 refine zac (fun K3 hK3 => ?_)
 refine zaB ?_
 refine zac (fun K4 hK4 => ?_)
 refine zaa ?_
 refine zah rfl ?_
 refine zab (fun K hK r => ?_)
 simp only [zaF _ bd32, List.map_toArray, List.map_cons, List.map_nil, eX, ↓reduceIte, Nat.reduceEqDiff, Int.reduceToNat]
 refine (down_ok _ p s rd cap bs Fs (h.mono lhA)).mono ?_
 rintro v H' ⟨rfl, rfl⟩
 refine yaf ?_
 refine hK _ _ ?_; clear hK K
 refine zaj rfl ?_
 refine zad ?_
 refine yab ?_
 refine hK4 _ _ ?_; try clear hK4 K4
 refine zar (fun r => rfl) (fun c14 => ?_) (fun c14 => ?_)
 ·first
  |(exfalso; exact cnA c14; done)
  |skip
   have hgo : s.gone = true := c14
   refine zac (fun K5 hK5 => ?_)
   refine zaa ?_
   refine zab (fun K hK r => ?_)
   refine ybB ?_
   rw [l_buildArr Try.underlying30 sz5 zr30]
   simp only [Value.cells]
   refine ybe ?_
   refine yaf ?_
   refine hK _ _ ?_; clear hK K
   refine zab (fun K hK r => ?_)
   refine yaF ?_
   refine hK _ _ ?_; clear hK K
   refine zaI rfl (zas) (fun K hK r => ?_)
   refine yaD ?_
   first | refine zak sz30 bdA hbA bdA plA (by decide) ?_ | refine zal sz30 bdA hbA bdA plA (by decide) ?_
   refine yaf ?_
   refine hK _ _ ?_; clear hK K
   refine zaI rfl (zas) (fun K hK r => ?_)
   refine yaD ?_
   refine zaE sz32 hbA bdA plA fzA ?_
   refine yaE ?_
   refine yaf ?_
   refine hK _ _ ?_; clear hK K
   refine zad ?_
   refine yab ?_
   refine hK5 _ _ ?_; try clear hK5 K5
   refine zaz ?_
   refine yab ?_
   refine ⟨[_, _], ⟨⟨_, rfl, zaC Try.underlying30 rfl sz30 hbA (by simp [Sec.h])⟩, ⟨_, rfl, Lq_load1 Try.underlying32 rfl hbA ldA⟩, trivial⟩, H, lhA, ?_, rfl⟩
   show Value.tuple _ = _
   unfold St.rd; rw [if_pos hgo]; rfl
 ·first
  |(exfalso; exact cnA c14; done)
  |skip
   have hgo : s.gone = false := by simpa using c14
   refine zac (fun K6 hK6 => ?_)
   refine zaa ?_
   refine zah rfl ?_
   refine zab (fun K hK r => ?_)
   refine yap ?_
   refine zae Try.underlying3 rfl hbA ldA ?_
   refine yaf ?_
   refine hK _ _ ?_; clear hK K
   refine zab (fun K hK r => ?_)
   simp only [zaF _ bd56, List.map_toArray, List.map_cons, List.map_nil, eX, ↓reduceIte, Nat.reduceEqDiff, Int.reduceToNat]
   refine (has_dev _ p s rd cap bs Fs (h.mono lhA) dev i).mono ?_
   rintro v H' ⟨rfl, rfl⟩
   refine yaf ?_
   refine hK _ _ ?_; clear hK K
   refine zab (fun K hK r => ?_)
   refine yam ?_
   refine hK _ _ ?_; clear hK K
   refine zaj rfl ?_
   refine zad ?_
   refine yab ?_
   refine hK6 _ _ ?_; try clear hK6 K6
   refine zar (fun r => rfl) (fun c19 => ?_) (fun c19 => ?_)
   ·first
    |(exfalso; exact cnA c19; done)
    |skip
     (try replace c19 := yad c19)
     have hno : s.has dev i = false := by simpa using c19
     refine zac (fun K7 hK7 => ?_)
     refine zaa ?_
     refine zab (fun K hK r => ?_)
     refine ybB ?_
     rw [l_buildArr Try.underlying30 sz5 zr30]
     simp only [Value.cells]
     refine ybe ?_
     refine yaf ?_
     refine hK _ _ ?_; clear hK K
     refine zab (fun K hK r => ?_)
     refine yaF ?_
     refine hK _ _ ?_; clear hK K
     refine zaI rfl (zas) (fun K hK r => ?_)
     refine yaD ?_
     first | refine zak sz30 bdA hbA bdA plA (by decide) ?_ | refine zal sz30 bdA hbA bdA plA (by decide) ?_
     refine yaf ?_
     refine hK _ _ ?_; clear hK K
     refine zaI rfl (zas) (fun K hK r => ?_)
     refine yaD ?_
     refine zaE sz32 hbA bdA plA fzA ?_
     refine yaE ?_
     refine yaf ?_
     refine hK _ _ ?_; clear hK K
     refine zad ?_
     refine yab ?_
     refine hK7 _ _ ?_; try clear hK7 K7
     refine zaz ?_
     refine yab ?_
     refine ⟨[_, _], ⟨⟨_, rfl, zaC Try.underlying30 rfl sz30 hbA (by simp [Sec.h])⟩, ⟨_, rfl, Lq_load1 Try.underlying32 rfl hbA ldA⟩, trivial⟩, H, lhA, ?_, rfl⟩
     show Value.tuple _ = _
     unfold St.rd; rw [if_neg (by rw [hgo]; simp), if_neg (by rw [hno]; simp)]; rfl
   ·first
    |(exfalso; exact cnA c19; done)
    |skip
     (try replace c19 := yad c19)
     have hyes : s.has dev i = true := by simpa using c19
     have hin : 0 ≤ dev ∧ dev < s.dv.length := by unfold St.has at hyes; simp at hyes; omega
     have hk : dev.toNat < s.dv.length := by omega
     have hdv : devV s bs dev = ptrV (bs.getD dev.toNat 0) := by unfold devV; rw [if_pos hin]
     simp only [hdv]
     have hwl := hw dev.toNat
     obtain ⟨b, hbd⟩ : ∃ b, b = bs.getD dev.toNat 0 := ⟨_, rfl⟩
     obtain ⟨d, hd0⟩ : ∃ d, d = s.dv.getD dev.toNat default := ⟨_, rfl⟩
     have hrd : s.rd dev i = (d.read i, none) := by unfold St.rd; rw [if_neg (by rw [hgo]; simp), if_pos hyes, hd0]
     rw [← hd0] at hwl
     simp only [← hbd]
     obtain ⟨mb, es, c, wv, wrs, hb0, hm0, hms, how, hbm, hwb, hwm⟩ := (hd0 ▸ hbd ▸ h.dev dev.toNat hk : DvX (Fs dev.toNat) b d).facts
     obtain ⟨wa, wcp, rfl⟩ := how.holds.form
     have hleF := h.le dev.toNat hk
     have kb := hleF _ _ hb0
     have km := hleF _ _ hm0
     have nb5 : b ≠ b5 := zaf kb f5_H
     have nb6 : b ≠ b6 := zaf kb f6_H
     have nb7 : b ≠ b7 := zaf kb f7_H
     simp only [ptrV]
     refine zau ?_
     refine yab ?_
     refine hK3 _ _ ?_; try clear hK3 K3
     refine zac (fun K8 hK8 => ?_)
     refine zac (fun K9 hK9 => ?_)
     refine zaa ?_
     refine zah rfl ?_
     refine zab (fun K hK r => ?_)
     rw [zav _ _ rfl]
     refine yaj ?_
     refine hK _ _ ?_; clear hK K
     refine zab (fun K hK r => ?_)
     refine ybK ?_
     refine hK _ _ ?_; clear hK K
     refine zab (fun K hK r => ?_)
     refine yap ?_
     refine zae Try.underlying117 rfl hbA ldA ?_
     refine yaf ?_
     refine hK _ _ ?_; clear hK K
     refine zab (fun K hK r => ?_)
     simp only [zaF _ bd77, List.map_toArray, List.map_cons, List.map_nil, eX, ↓reduceIte, Nat.reduceEqDiff, Int.reduceToNat]
     refine (Backward_ok _ wa d.wait.length wcp).mono ?_
     rintro v30 H30 ⟨b30, hb30, rfl, hH30⟩
     have f30 : H b30 = none := zag lhA hb30
     have l30 : Le H H30 := by rw [hH30]; exact zaw lhA f30
     have k30 : H30 b30 = some (.cells #[.slice wa d.wait.length wcp] 117) := by rw [hH30]; exact zan _ _ _
     have k5 : H30 b5 = some (.cells #[.int .i64 i] 3) := by rw [hH30]; exact (zap _ _ (zaf hbA hb30)).trans hbA
     have k6 : H30 b6 = some (.cells (Array.replicate 64 (.int .u8 0)) 30) := by rw [hH30]; exact (zap _ _ (zaf hbA hb30)).trans hbA
     have k7 : H30 b7 = some (.cells #[.nilIface] 32) := by rw [hH30]; exact (zap _ _ (zaf hbA hb30)).trans hbA
     refine yaf ?_
     refine hK _ _ ?_; clear hK K
     refine zad ?_
     refine yab ?_
     refine hK9 _ _ ?_; try clear hK9 K9
     refine zaB ?_
     refine CW_rangeFunc (fun r => rfl) (iter_back H30 b30 wa wcp d.wait (how.holds.le (Le.trans hleF l30)) k30 hwl) (fun j H_ => Le H30 H_ ∧ ∀ t, t < j → (d.wait.getD (d.wait.length - 1 - t) default).at_ ≠ i) ?_ ?_ (by decide) ?_ ?_
     ·skip
      exact fun j H_ hj => hj.1
     ·skip
      exact ⟨Le.refl _, fun t ht => absurd ht (by omega)⟩
     ·intro l_ i_ hi_ H_ hI_ args_ F_ hT_ hF_
      obtain ⟨hl_, hno_⟩ := hI_
      obtain ⟨rfl, rfl⟩ := hT_
      rw [join_empty]
      have hlH := Le.trans l30 hl_
      have q5 := hl_ _ _ k5
      have q6 := hl_ _ _ k6
      have q7 := hl_ _ _ k7
      refine ⟨rfl, ?_⟩
      simp only [putAll, List.zip_cons_cons, List.zip_nil_right, List.zip_nil_left, eX, ↓reduceIte, Nat.reduceEqDiff, Int.reduceToNat]
      refine zaa ?_
      refine zab (fun K hK r => ?_)
      simp only [x_alloc, zr130, zay, Value.cells, eX, ↓reduceIte, Nat.reduceEqDiff, Int.reduceToNat]
      intro b10 hb10
      try have n10_b5 : b5 ≠ b10 := zaf hbA hb10
      try have n10_b6 : b6 ≠ b10 := zaf hbA hb10
      try have n10_b7 : b7 ≠ b10 := zaf hbA hb10
      have f10_H : H b10 = none := zag lhA hb10
      refine yaf ?_
      refine hK _ _ ?_; clear hK K
      refine zaI rfl (zas) (fun K hK r => ?_)
      refine yaD ?_
      refine zak sz130 (by simp [Sec.h]) hbA (by simp [Sec.h]) (Wt.plain _) (by decide) ?_
      refine hK _ _ ?_; clear hK K
      refine zad ?_
      refine yab ?_
      first | refine ⟨rfl, ?_⟩ | refine ⟨trivial, ?_⟩
      refine zaB ?_
      refine zac (fun K10 hK10 => ?_)
      refine zaa ?_
      refine zab (fun K hK r => ?_)
      simp only [zao, fa130_0, zaH, Nat.reduceAdd, Nat.zero_add, eX, ↓reduceIte, Nat.reduceEqDiff, Int.reduceToNat]
      refine hK _ _ ?_; clear hK K
      refine zab (fun K hK r => ?_)
      refine yap ?_
      refine zae Try.underlying3 rfl hbA (wt_at (d.wait.getD (d.wait.length - 1 - i_) default)) ?_
      refine hK _ _ ?_; clear hK K
      refine zab (fun K hK r => ?_)
      refine yap ?_
      refine zae Try.underlying3 rfl hbA ldA ?_
      refine yaf ?_
      refine hK _ _ ?_; clear hK K
      refine zab (fun K hK r => ?_)
      refine yas ?_
      refine hK _ _ ?_; clear hK K
      refine zad ?_
      refine yab ?_
      refine hK10 _ _ ?_; try clear hK10 K10
      refine zar (fun r => rfl) (fun c36 => ?_) (fun c36 => ?_)
      ·first
       |(exfalso; exact cnA c36; done)
       |skip
        (try replace c36 := yad c36)
        refine zac (fun K11 hK11 => ?_)
        refine zaa ?_
        refine zab (fun K hK r => ?_)
        simp only [zao, fa130_1, zaH, Nat.reduceAdd, Nat.zero_add, eX, ↓reduceIte, Nat.reduceEqDiff, Int.reduceToNat]
        refine hK _ _ ?_; clear hK K
        refine zab (fun K hK r => ?_)
        refine yap ?_
        refine zaq Try.underlying30 rfl sz30 hbA (by simp [Sec.h]) ?_
        rw [wt_x]
        refine hK _ _ ?_; clear hK K
        refine zaI rfl (zas) (fun K hK r => ?_)
        refine yaD ?_
        refine zak sz30 (by simp [Sec.h]) hbA (by simp [Sec.h]) (PlainL.ints _ _) (by decide) ?_
        refine hK _ _ ?_; clear hK K
        refine zaI rfl (zas) (fun K hK r => ?_)
        refine yaD ?_
        refine zaE sz32 hbA bdA plA fzA ?_
        refine yaE ?_
        refine yaf ?_
        refine hK _ _ ?_; clear hK K
        refine zad ?_
        refine yab ?_
        refine hK11 _ _ ?_; try clear hK11 K11
        refine zaz ?_
        refine yab ?_
        refine ⟨[_, _], ⟨⟨_, rfl, zaC Try.underlying30 rfl sz30 hbA (by simp [Sec.h])⟩, ⟨_, rfl, Lq_load1 Try.underlying32 rfl hbA ldA⟩, trivial⟩, H, lhA, ?_, rfl⟩
        show Value.tuple _ = _
        rw [hrd]
        unfold Dv.read
        rw [lastW_at (k := d.wait.length - 1 - i_) (by omega) c36 (fun j hj hjl => by have := hno_ (d.wait.length - 1 - j) (by omega); rwa [show d.wait.length - 1 - (d.wait.length - 1 - j) = j from by omega] at this)]
        rfl
      ·first
       |(exfalso; exact cnA c36; done)
       |skip
        (try replace c36 := yad c36)
        refine zau ?_
        refine yab ?_
        refine ⟨zaw hl_ (zag hl_ hb10), fun t ht => ?_⟩
        by_cases e : t = i_
        ·subst e; exact c36
        ·exact hno_ t (by omega)
     intro H_ hI_
     obtain ⟨hl_, hno_⟩ := hI_
     have hlH := Le.trans l30 hl_
     have q5 := hl_ _ _ k5
     have q6 := hl_ _ _ k6
     have q7 := hl_ _ _ k7
     have qb := hlH _ _ kb
     have qm := hlH _ _ km
     refine yab ?_
     refine hK8 _ _ ?_; try clear hK8 K8
     refine zac (fun K12 hK12 => ?_)
     refine CW_drawE [0, 0, 0, 1, 1, 1, 3, 3] [0, 1, 2, 3, 4, 5, 6, 7] (by kernel_rfl) (by kernel_rfl) (fun R10 hR10 => ?_)
     apply zat rfl (zai (by decide)) rfl
     ·intro r
      refine yaI ?_
      exact ⟨rfl, Le.refl _⟩
     refine yaj ?_
     apply zat rfl (zai (by decide)) rfl
     ·intro r
      rw [zav _ _ rfl]
      exact ⟨rfl, Le.refl _⟩
     refine yaj ?_
     apply zat rfl (zai (by decide)) rfl
     ·intro r
      refine ybL ?_
      exact ⟨rfl, Le.refl _⟩
     refine yaj ?_
     apply zaO rfl (zai (by decide)) rfl
     ·intro r
      refine yba ?_
      refine zae Try.underlying116 rfl hbA ldA ?_
      exact ⟨rfl, Le.refl _⟩
     refine yaj ?_
     apply zaO rfl (zai (by decide)) rfl
     ·intro r
      refine yba ?_
      refine zae Try.underlying3 rfl hbA ldA ?_
      exact ⟨rfl, Le.refl _⟩
     refine yaj ?_
     apply zaO rfl (zai (by decide)) rfl
     ·intro r
      simp only [x_lookup, eX, ↓reduceIte, Nat.reduceEqDiff]
      refine Lt_lookup Try.underlying116 Try.underlying3 zr30 hbA hms.1 ?_
      rw [hms.2]
      exact ⟨rfl, Le.refl _⟩
     refine yaj ?_
     refine TW_last rfl (zas) rfl (fun K hK r => ?_)
     refine yaD ?_
     refine zak sz30 (by simp [Sec.h]) hbA (by simp [Sec.h]) (PlainL.ints _ _) (by decide) ?_
     refine hK _ _ ?_; clear hK K
     refine TW_last rfl (zas) rfl (fun K hK r => ?_)
     refine yaD ?_
     refine zaE sz32 hbA bdA plA fzA ?_
     refine yaE ?_
     refine yaf ?_
     refine hK _ _ ?_; clear hK K
     refine TW_nil ?_
     refine yab ?_
     refine hK12 _ _ ?_; try clear hK12 K12
     refine zaz ?_
     refine yab ?_
     refine ⟨[_, _], ⟨⟨_, rfl, zaC Try.underlying30 rfl sz30 hbA (by simp [Sec.h])⟩, ⟨_, rfl, Lq_load1 Try.underlying32 rfl hbA ldA⟩, trivial⟩, H, lhA, ?_, rfl⟩
     show Value.tuple _ = _
     rw [hrd]
     unfold Dv.read
     rw [lastW_none (fun j hj => by have := hno_ (d.wait.length - 1 - j) (by omega); rwa [show d.wait.length - 1 - (d.wait.length - 1 - j) = j from by omega] at this)]
     rfl
end Go.Proofs.Ytigofhhonnbkmaa.HL
end
section
namespace Go.Proofs.Ytigofhhonnbkmaa.HL
open Go Go.Proofs
set_option linter.unusedSimpArgs false
set_option linter.unusedVariables false
attribute [local irreducible] Lt Lq CW OW TW CallH

def SetF (F : Hp) (p : Nat) (s : St) : Prop := SetX F p s
theorem DvX.own {F : Hp} {b : Nat} {d : Dv} (h : DvX F b d) : F b ≠ none := by obtain ⟨m, wv, e⟩ := h.blk; rw [e]; simp
theorem SX.cut {F : Hp} {p : Nat} {s : St} {r cap : Nat} {bs : List Nat} {Fs : Nat → Hp} (h : SX F p s r cap bs Fs) : ∃ F', Le F' F ∧ SX F' p s r cap bs Fs ∧ ∀ x, F' x ≠ none → x = p ∨ x = r ∨ ∃ i, i < s.dv.length ∧ Fs i x ≠ none := by
  classical
  refine ⟨fun x => if x = p ∨ x = r ∨ ∃ i, i < s.dv.length ∧ Fs i x ≠ none then F x else none, fun x o hx => ?_, ⟨by simpa using h.hd, h.len, ?_, h.dev, fun i hi x o hx => ?_, h.fp, h.sep⟩, fun x hx => ?_⟩
  · by_cases hc : x = p ∨ x = r ∨ ∃ i, i < s.dv.length ∧ Fs i x ≠ none
    · simpa only [if_pos hc] using hx
    · simp only [if_neg hc] at hx; cases hx
  · exact h.own.stay (fun b o hb ho => by cases hb; simpa using ho)
  · have hc : x = p ∨ x = r ∨ ∃ i, i < s.dv.length ∧ Fs i x ≠ none := .inr (.inr ⟨i, hi, by rw [hx]; simp⟩)
    simp only [if_pos hc]; exact h.le i hi x o hx
  · by_cases hc : x = p ∨ x = r ∨ ∃ i, i < s.dv.length ∧ Fs i x ≠ none
    · exact hc
    · simp only [if_neg hc] at hx; exact absurd rfl hx
end Go.Proofs.Ytigofhhonnbkmaa.HL
end
section
namespace Go.Proofs.Ytigofhhonnbkmaa.HL
open Go Go.Proofs
set_option linter.unusedSimpArgs false
set_option linter.unusedVariables false
attribute [local irreducible] Lt Lq CW OW TW CallH
def okN (n : Int) : Bool := decide (1 ≤ n) && decide (n ≤ 4096)
def newDv (n : Int) : Dv := ⟨n, fun _ => Sec.zero, []⟩
def newSt (l : List Int) : St := ⟨0, 0, false, false, l.map newDv⟩
def goodN (l : List Int) : Bool := decide (1 ≤ l.length) && decide (l.length ≤ 5) && l.all okN
structure NX (H0 H : Hp) (p : Nat) (l : List Int) (k : Nat) (v : Value) (rs : Option Nat) (bs : List Nat) (Fs : Nat → Hp) : Prop where
  hd : H p = some (.cells #[.int .i64 0, .int .i64 0, .bool false, .bool false, v] 114)
  len : bs.length = k
  own : OwnS H 115 1 v k (bs.map ptrV) rs
  dev : ∀ i, i < k → DvX (Fs i) (bs.getD i 0) (newDv (l.getD i default))
  le : ∀ i, i < k → Le (Fs i) H
  fp : ∀ i, i < k → Fs i p = none ∧ ∀ r, rs = some r → Fs i r = none
  sep : ∀ i j, i < k → j < k → i ≠ j → ∀ x, Fs i x ≠ none → Fs j x = none
  fr : ∀ i, i < k → ∀ x, Fs i x ≠ none → H0 x = none
  frr : ∀ r, rs = some r → H0 r = none
  frp : H0 p = none
  old : Le H0 H
theorem good_bad {l : List Int} {k : Nat} (hk : k < l.length) (h : okN (l.getD k default) = false) : goodN l = false := by
  unfold goodN
  have : l.all okN = false := by
    rw [List.all_eq_false]
    rw [List.getD_eq_getElem?_getD, List.getElem?_eq_getElem hk] at h
    exact ⟨l[k], List.getElem_mem hk, by simpa using h⟩
  rw [this]; simp
theorem good_all {l : List Int} (h1 : 1 ≤ l.length) (h2 : l.length ≤ 5) (h : ∀ j, j < l.length → okN (l.getD j default) = true) : goodN l = true := by
  unfold goodN
  have : l.all okN = true := by
    rw [List.all_eq_true]
    intro x hx
    obtain ⟨j, hj, rfl⟩ := List.mem_iff_getElem.1 hx
    have := h j hj
    rwa [List.getD_eq_getElem?_getD, List.getElem?_eq_getElem hj] at this
  rw [this]; simp [h1, h2]
theorem ints_get {l : List Int} {c : Array Value} {o n : Nat} (h : ∀ j, j < n * 1 → c[o + j]? = (l.map (Value.int .i64))[j]?) (hn : n = l.length) (k : Nat) (hk : k < l.length) : c[o + k]? = some (.int .i64 (l.getD k default)) := by
  rw [h k (by omega), List.getElem?_map, List.getElem?_eq_getElem hk, List.getD_eq_getElem?_getD, List.getElem?_eq_getElem hk]; rfl
theorem NX.ne {H0 H : Hp} {p : Nat} {l : List Int} {k : Nat} {v : Value} {rs : Option Nat} {bs : List Nat} {Fs : Nat → Hp} (h : NX H0 H p l k v rs bs Fs) : rs ≠ some p := fun e => by
  obtain ⟨_, ⟨_, _, h0⟩ | ⟨r', cc, c', _, g2, _, _, _, g3⟩⟩ := h.own
  · rw [e] at h0; cases h0
  · rw [e] at g3; cases g3; rw [h.hd] at g2; injection g2 with g2; injection g2 with _ g2; revert g2; decide
theorem NX.next {H0 H HF : Hp} {p : Nat} {l : List Int} {k : Nat} {v : Value} {rs : Option Nat} {bs : List Nat} {Fs : Nat → Hp} (h : NX H0 H p l k v rs bs Fs) {bm b : Nat} (hm : H bm = none) (hb : H b = none) (hmb : bm ≠ b) {v' : Value} {rs' : Option Nat}
    (hhd : HF p = some (.cells #[.int .i64 0, .int .i64 0, .bool false, .bool false, v'] 114)) (hown : OwnS HF 115 1 v' (k + 1) (bs.map ptrV ++ [ptrV b]) rs') (hfm : HF bm = some (.map #[] 0)) (hfb : HF b = some (.cells #[.int .i64 (l.getD k default), .map (some bm), .slice none 0 0] 119))
    (hkeep : ∀ x o, H x = some o → x ≠ p → rs ≠ some x → HF x = some o) (hr : ∀ r, rs' = some r → rs = some r ∨ (H r = none ∧ r ≠ bm ∧ r ≠ b)) :
    NX H0 HF p l (k + 1) v' rs' (bs ++ [b]) (fun i => if i = k then (emptyHp.upd bm (.map #[] 0)).upd b (.cells #[.int .i64 (l.getD k default), .map (some bm), .slice none 0 0] 119) else Fs i) := by
  have dF : ∀ x, ((emptyHp.upd bm (.map #[] 0)).upd b (.cells #[.int .i64 (l.getD k default), .map (some bm), .slice none 0 0] 119)) x ≠ none → x = bm ∨ x = b := fun x hx => by
    by_cases e : x = b
    · exact .inr e
    · by_cases e2 : x = bm
      · exact .inl e2
      · rw [zap _ _ e, zap _ _ e2] at hx; exact absurd rfl hx
  have dn : ∀ x, H x ≠ none → ((emptyHp.upd bm (.map #[] 0)).upd b (.cells #[.int .i64 (l.getD k default), .map (some bm), .slice none 0 0] 119)) x = none := fun x hx => by
    rw [zap _ _ (fun e => by subst e; exact hx hb), zap _ _ (fun e => by subst e; exact hx hm)]; rfl
  have hkp : ∀ i, i < k → ∀ x, Fs i x ≠ none → H x ≠ none := fun i hi x hx hn => hx (zag (h.le i hi) hn)
  refine ⟨hhd, by simp [h.len], by rw [List.map_append]; exact hown, fun i hi => ?_, fun i hi => ?_, fun i hi => ?_, fun i j hi hj hij x hx => ?_, fun i hi x hx => ?_, fun r e => ?_, h.frp, fun x o hx => hkeep x o (h.old x o hx) (fun e => by subst e; rw [h.frp] at hx; cases hx) (fun e => by rw [h.frr x e] at hx; cases hx)⟩
  · by_cases e : i = k
    · subst e
      simp only [if_true]
      have eb : (bs ++ [b]).getD i 0 = b := by rw [← h.len]; simp [List.getD_eq_getElem?_getD]
      rw [eb]
      exact ⟨bm, #[], 0, .slice none 0 0, none, zan _ _ _, (zap _ _ hmb).trans (zan _ _ _), MapS.nil, OwnS.nil _ _ _, fun x hx => (dF x hx).elim (fun e => .inr (.inl e)) .inl⟩
    · simp only [if_neg e]
      have eb : (bs ++ [b]).getD i 0 = bs.getD i 0 := by
        rw [List.getD_eq_getElem?_getD, List.getD_eq_getElem?_getD, List.getElem?_append_left (by rw [h.len]; omega)]
      rw [eb]; exact h.dev i (by omega)
  · by_cases e : i = k
    · subst e; simp only [if_true]; exact le_put (le_put (zaN _) hfm) hfb
    · simp only [if_neg e]
      have hi' : i < k := by omega
      exact fun x o hx => hkeep x o (h.le i hi' x o hx) (fun e => by subst e; rw [(h.fp i hi').1] at hx; cases hx) (fun e => by rw [(h.fp i hi').2 x e] at hx; cases hx)
  · by_cases e : i = k
    · subst e; simp only [if_true]
      refine ⟨dn p (by rw [h.hd]; simp), fun r e => ?_⟩
      rcases hr r e with h1 | ⟨_, h1, h2⟩
      · exact dn r (h.own.known r h1)
      · rw [zap _ _ h2, zap _ _ h1]; rfl
    · simp only [if_neg e]
      have hi' : i < k := by omega
      refine ⟨(h.fp i hi').1, fun r e => ?_⟩
      rcases hr r e with h1 | ⟨h1, _, _⟩
      · exact (h.fp i hi').2 r h1
      · exact zag (h.le i hi') h1
  · by_cases e : i = k
    · subst e
      simp only [if_true] at hx
      simp only [if_neg (Ne.symm hij)]
      refine zag (h.le j (by omega)) ?_
      rcases dF x hx with rfl | rfl
      · exact hm
      · exact hb
    · simp only [if_neg e] at hx
      by_cases e2 : j = k
      · subst e2; simp only [if_true]; exact dn x (hkp i (by omega) x hx)
      · simp only [if_neg e2]; exact h.sep i j (by omega) (by omega) hij x hx
  · by_cases e : i = k
    · subst e
      simp only [if_true] at hx
      refine zag h.old ?_
      rcases dF x hx with rfl | rfl
      · exact hm
      · exact hb
    · simp only [if_neg e] at hx; exact h.fr i (by omega) x hx
  · rcases hr r e with h1 | ⟨h1, _, _⟩
    · exact h.frr r h1
    · exact zag h.old h1
theorem NX.done {H0 H : Hp} {p : Nat} {l : List Int} {v : Value} {rs : Option Nat} {bs : List Nat} {Fs : Nat → Hp} (h : NX H0 H p l l.length v rs bs Fs) (hl : 1 ≤ l.length) : ∃ F, SetX F p (newSt l) ∧ Le F H ∧ ∀ x, F x ≠ none → H0 x = none := by
  have hn : (newSt l).dv.length = l.length := by simp [newSt]
  obtain ⟨r, cap, rfl, rfl⟩ : ∃ r cap, v = .slice (some ⟨r, 0, none⟩) l.length cap ∧ rs = some r := by
    obtain ⟨_, ⟨_, h0, _⟩ | ⟨r', cc, c', g1, _, _, _, _, g3⟩⟩ := h.own
    · omega
    · exact ⟨r', cc, g1, g3⟩
  have hs : SX H p (newSt l) r cap bs Fs := by
    refine ⟨by rw [hn]; exact h.hd, by rw [hn]; exact h.len, by rw [hn]; exact h.own, ?_, by rw [hn]; exact h.le, ?_, by rw [hn]; exact h.sep⟩
    · rw [hn]
      intro i hi
      have e : (newSt l).dv.getD i default = newDv (l.getD i default) := by
        simp [newSt, List.getD_eq_getElem?_getD, List.getElem?_eq_getElem hi]
      rw [e]; exact h.dev i hi
    · rw [hn]; exact fun i hi => ⟨(h.fp i hi).1, (h.fp i hi).2 r rfl⟩
  obtain ⟨F, hF, hS, hd⟩ := hs.cut
  refine ⟨F, ⟨_, _, _, _, hS⟩, hF, fun x hx => ?_⟩
  rcases hd x hx with rfl | rfl | ⟨i, hi, hx⟩
  · exact h.frp
  · exact h.frr x rfl
  · rw [hn] at hi; exact h.fr i hi x hx
set_option maxRecDepth 100000 in
set_option maxHeartbeats 8000000 in
theorem new_ok (H : Hp) (a : Option Addr) (cap : Nat) (l : List Int) (hv : Holds H 1 (.slice a l.length cap) l.length (l.map (Value.int .i64))) (hl : l.length ≤ 1000) : CallH Try.prog 19 #[.slice a l.length cap] H (fun v H' => (goodN l = false ∧ v = .tuple #[.pointer none, errV (some 1)] ∧ H' = H) ∨ (goodN l = true ∧ Le H H' ∧ ∃ p, v = .tuple #[ptrV p, errV none] ∧ ∃ F, SetX F p (newSt l) ∧ Le F H' ∧ ∀ x, F x ≠ none → H x = none)) := by
 refine zam (l := [_]) (rl := [.tmp 2, .tmp 3]) (n := 46) Try.func19 rfl rfl rfl rfl rfl ?_
 refine yaa ?_
 refine zac (fun K1 hK1 => ?_)
 refine zaa ?_
 refine zaj rfl ?_
 refine zaj rfl ?_
 refine zad ?_
 refine yab ?_
 refine hK1 _ _ ?_; try clear hK1 K1
 refine zac (fun K2 hK2 => ?_)
 refine zac (fun K3 hK3 => ?_)
 refine zaa ?_
 refine zah rfl ?_
 refine zab (fun K hK r => ?_)
 refine ybt ?_
 refine hK _ _ ?_; clear hK K
 refine zab (fun K hK r => ?_)
 refine yac ?_
 refine hK _ _ ?_; clear hK K
 refine zah rfl ?_
 (first | refine zaA (d := 10) rfl (fun g10 => ?_) (fun g10 => ?_) | skip)
 all_goals try (exfalso; exact cnA g10)
 all_goals (try replace g10 := yad g10)
 all_goals
  refine yaf ?_
  first
  |refine yGT (fun K hK r => ?_)
   refine yai ?_
   refine hK _ _ ?_; clear hK K
  |refine yGF ?_
   refine yaj ?_
  first
  |refine yGT (fun K hK r => ?_)
   refine ybt ?_
   refine hK _ _ ?_; clear hK K
  |refine yGF ?_
   refine yaj ?_
  first
  |refine yGT (fun K hK r => ?_)
   refine yaZ ?_
   refine hK _ _ ?_; clear hK K
  |refine yGF ?_
   refine yaj ?_
  refine zab (fun K hK r => ?_)
  refine yal ?_
  refine hK _ _ ?_; clear hK K
  refine zad ?_
  refine yab ?_
  refine hK3 _ _ ?_; try clear hK3 K3
  refine zar (fun r => rfl) (fun c14 => ?_) (fun c14 => ?_)
  ·first
   |(exfalso; exact cnA c14; done)
   |skip
    (try replace c14 := yad c14)
    have hbad : goodN l = false := by unfold goodN; simp; omega
    refine zac (fun K4 hK4 => ?_)
    refine zaa ?_
    refine zab (fun K hK r => ?_)
    refine yaF ?_
    refine hK _ _ ?_; clear hK K
    refine zaj rfl ?_
    refine zaj rfl ?_
    refine zad ?_
    refine yab ?_
    refine hK4 _ _ ?_; try clear hK4 K4
    refine zaz ?_
    refine yab ?_
    exact ⟨[_, _], ⟨rfl, rfl, trivial⟩, _, Le.refl _, .inl ⟨hbad, rfl, rfl⟩⟩
  ·first
   |(exfalso; exact cnA c14; done)
   |skip
    (try replace c14 := yad c14)
    have hlen : 1 ≤ l.length ∧ l.length ≤ 5 := by omega
    refine zau ?_
    refine yab ?_
    refine hK2 _ _ ?_; try clear hK2 K2
    refine zac (fun K5 hK5 => ?_)
    refine zaa ?_
    refine zab (fun K hK r => ?_)
    simp only [x_build, bp114, List.map_toArray, List.map_cons, List.map_nil, eX, ↓reduceIte, Nat.reduceEqDiff, Int.reduceToNat]
    refine ybe ?_
    refine yaf ?_
    refine hK _ _ ?_; clear hK K
    refine zab (fun K hK r => ?_)
    refine yaW ?_
    intro b17 hb17
    have f17_H : H b17 = none := zag lhA hb17
    refine yaf ?_
    refine hK _ _ ?_; clear hK K
    refine zaj rfl ?_
    refine zad ?_
    refine yab ?_
    refine hK5 _ _ ?_; try clear hK5 K5
    refine zac (fun K6 hK6 => ?_)
    refine zac (fun K7 hK7 => ?_)
    refine zaa ?_
    refine zah rfl ?_
    refine zab (fun K hK r => ?_)
    refine ybt ?_
    refine hK _ _ ?_; clear hK K
    refine zah rfl ?_
    refine zad ?_
    refine yab ?_
    refine hK7 _ _ ?_; try clear hK7 K7
    refine zaB ?_
    refine CW_loop (fun m e H_ => ∃ (k : Nat) (v : Value) (rs : Option Nat) (bs : List Nat) (Fs : Nat → Hp), k ≤ l.length ∧ m = l.length - k ∧ (∀ j, j < k → okN (l.getD j default) = true) ∧ NX H H_ b17 l k v rs bs Fs ∧ Env.has [(4, .pointer (some ⟨b17, 0, none⟩)), (18, .slice a l.length cap), (19, .int .i64 l.length), (20, .int .i64 k)] e) (l.length) ?_ ?_
    ·skip
     refine ⟨0, .slice none 0 0, none, [], fun _ => emptyHp, by omega, by omega, (fun j hj => absurd hj (by omega)), ⟨zan _ _ _, rfl, OwnS.nil _ _ _, (fun i hi => absurd hi (by omega)), (fun i hi => absurd hi (by omega)), (fun i hi => absurd hi (by omega)), (fun i j hi => absurd hi (by omega)), (fun i hi => absurd hi (by omega)), (fun r hr => by cases hr), hb17, le_upd _ _ _ hb17⟩, rfl, rfl, rfl, rfl, trivial⟩
    intro m_ e_ H_ hI_
    obtain ⟨k, v, rs, bs, Fs, hk, rfl, hoks, hN, he⟩ := hI_
    refine CW_env he.sub ?_; clear he e_
    have kp := hN.hd
    have hOld := hN.old
    obtain ⟨va, vc, rfl⟩ := hN.own.holds.form
    refine zac (fun K8 hK8 => ?_)
    refine zaa ?_
    refine zab (fun K hK r => ?_)
    refine yac ?_
    refine hK _ _ ?_; clear hK K
    refine zad ?_
    refine yab ?_
    refine hK8 _ _ ?_; try clear hK8 K8
    refine zac (fun K9 hK9 => ?_)
    refine zar (fun r => rfl) (fun c21 => ?_) (fun c21 => ?_)
    ·first
     |(exfalso; exact cnA c21; done)
     |skip
      (try replace c21 := yad c21)
      obtain ⟨bw, ow, cw, Tw, Fw, ew, hbw, hsw, atw⟩ := (hv.le hN.old).at (by omega)
      refine zau ?_
      refine yab ?_
      refine hK9 _ _ ?_; try clear hK9 K9
      refine zac (fun K10 hK10 => ?_)
      refine zaB ?_
      refine zac (fun K11 hK11 => ?_)
      refine zaa ?_
      refine zab (fun K hK r => ?_)
      refine yaw ?_
      refine zaK Try.underlying22 sz3 ew ixA ixA ?_
      try simp only [Int.toNat_natCast, Nat.mul_one]
      refine hK _ _ ?_; clear hK K
      refine zab (fun K hK r => ?_)
      refine yap ?_
      refine zae Try.underlying3 rfl hbA (v := .int .i64 (l.getD k default)) (by first | exact ints_get atw rfl k (by omega) | (rw [Nat.mul_one]; exact ints_get atw rfl k (by omega))) ?_
      refine hK _ _ ?_; clear hK K
      refine zaj rfl ?_
      refine zad ?_
      refine yab ?_
      refine hK11 _ _ ?_; try clear hK11 K11
      refine zac (fun K12 hK12 => ?_)
      refine zac (fun K13 hK13 => ?_)
      refine zaa ?_
      refine zah rfl ?_
      refine zab (fun K hK r => ?_)
      refine yac ?_
      refine hK _ _ ?_; clear hK K
      refine zah rfl ?_
      (first | refine zaA (d := 26) rfl (fun g26 => ?_) (fun g26 => ?_) | skip)
      all_goals try (exfalso; exact cnA g26)
      all_goals (try replace g26 := yad g26)
      all_goals
       refine yaf ?_
       first
       |refine yGT (fun K hK r => ?_)
        refine yai ?_
        refine hK _ _ ?_; clear hK K
       |refine yGF ?_
        refine yaj ?_
       first
       |refine yGT (fun K hK r => ?_)
        refine yaZ ?_
        refine hK _ _ ?_; clear hK K
       |refine yGF ?_
        refine yaj ?_
       refine zab (fun K hK r => ?_)
       refine yal ?_
       refine hK _ _ ?_; clear hK K
       refine zad ?_
       refine yab ?_
       refine hK13 _ _ ?_; try clear hK13 K13
       refine zar (fun r => rfl) (fun c29 => ?_) (fun c29 => ?_)
       ·first
        |(exfalso; exact cnA c29; done)
        |skip
         (try replace c29 := yad c29)
         have hbad : goodN l = false := good_bad (k := k) (by omega) (by unfold okN; rw [Bool.and_eq_false_iff]; simp only [decide_eq_false_iff_not]; omega)
         refine zac (fun K14 hK14 => ?_)
         refine zaa ?_
         refine zab (fun K hK r => ?_)
         refine yaF ?_
         refine hK _ _ ?_; clear hK K
         refine zaj rfl ?_
         refine zaj rfl ?_
         refine zad ?_
         refine yab ?_
         refine hK14 _ _ ?_; try clear hK14 K14
         refine zaz ?_
         refine yab ?_
         exact ⟨[_, _], ⟨rfl, rfl, trivial⟩, H, hN.old, .inl ⟨hbad, rfl, rfl⟩⟩
       ·first
        |(exfalso; exact cnA c29; done)
        |skip
         (try replace c29 := yad c29)
         have hok : okN (l.getD k default) = true := by unfold okN; rw [Bool.and_eq_true]; simp only [decide_eq_true_eq]; omega
         refine zau ?_
         refine yab ?_
         refine hK12 _ _ ?_; try clear hK12 K12
         refine zaa ?_
         refine zah rfl ?_
         refine zah rfl ?_
         refine zab (fun K hK r => ?_)
         rw [zav _ _ rfl]
         refine yaj ?_
         refine hK _ _ ?_; clear hK K
         refine zab (fun K hK r => ?_)
         refine yat ?_
         refine hK _ _ ?_; clear hK K
         refine zab (fun K hK r => ?_)
         refine yap ?_
         refine zae Try.underlying112 rfl hbA ldA ?_
         refine yaf ?_
         refine hK _ _ ?_; clear hK K
         refine zah rfl ?_
         refine zab (fun K hK r => ?_)
         simp only [x_makeMap, Option.map_none, eX, ↓reduceIte, Nat.reduceEqDiff, Int.reduceToNat]
         refine Lt_makeMap ?_
         intro b37 hb37
         try have n37_b17 : b17 ≠ b37 := zaf hbA hb37
         have f37_H : H b37 = none := zag lhA hb37
         refine yaf ?_
         refine hK _ _ ?_; clear hK K
         refine zab (fun K hK r => ?_)
         simp only [x_build, bp119, List.map_toArray, List.map_cons, List.map_nil, eX, ↓reduceIte, Nat.reduceEqDiff, Int.reduceToNat]
         rw [fill_one rfl clA bdA]
         rw [fill_one rfl clA bdA]
         refine ybe ?_
         refine yaf ?_
         refine hK _ _ ?_; clear hK K
         refine zab (fun K hK r => ?_)
         refine yaW ?_
         intro b39 hb39
         try have n39_b17 : b17 ≠ b39 := zaf hbA hb39
         try have n39_b37 : b37 ≠ b39 := zaf hbA hb39
         have f39_H : H b39 = none := zag lhA hb39
         refine yaf ?_
         refine hK _ _ ?_; clear hK K
         refine zab (fun K hK r => ?_)
         refine yaT ?_
         refine zaJ (vs := [_]) Try.underlying112 sz115 zr115 rfl bsA (by first | decide | (simp; done)) ?_
         refine yaU ?_
         intro b40 hb40
         try have n40_b17 : b17 ≠ b40 := zaf hbA hb40
         try have n40_b37 : b37 ≠ b40 := zaf hbA hb40
         try have n40_b39 : b39 ≠ b40 := zaf hbA hb40
         have f40_H : H b40 = none := zag lhA hb40
         refine yaf ?_
         refine hK _ _ ?_; clear hK K
         refine zab (fun K hK r => ?_)
         refine yaV ?_
         have nmp : b37 ≠ b17 := Ne.symm (zaf kp hb37)
         have hrs17 := hN.ne
         have hm_ : H_ b37 = none := hb37
         have hb_39 : H_ b39 = none := zag (le_upd _ _ _ hb37) hb39
         have nm39 : b37 ≠ b39 := zaf (zan _ _ _) hb39
         have n1739 : b17 ≠ b39 := zaf kp hb_39
         have hb_40 : H_ b40 = none := zag (Le.trans (le_upd _ _ _ hb37) (le_upd _ _ _ hb39)) hb40
         have n1740 : b17 ≠ b40 := zaf kp hb_40
         have n3740 : b37 ≠ b40 := zaf hbA hb40
         have n3940 : b39 ≠ b40 := zaf hbA hb40
         refine Lt_append1 Try.underlying112 sz115 by115 (by decide) zr115 rfl _ (((hN.own.make hb37).make hb39).make hb40) (x := ptrV b39) hbA rfl (by omega) ?_
         intro v41 H41 rs41 hg41 ho41 hr41
         obtain ⟨wa41, wc41, rfl⟩ := ho41.holds.form
         have kp41 := hg41.known b17 _ hbA hrs17
         have km41 := hg41.known b37 (.map #[] 0) hbA (fun e => hN.own.known b37 e hb37)
         have kb41 := hg41.known b39 (.cells #[.int .i64 (l.getD k default), .map (some b37), .slice none 0 0] 119) hbA (fun e => hN.own.known b39 e hb_39)
         have hkp41 : ∀ x o, H_ x = some o → rs ≠ some x → H41 x = some o := fun x o hx hn => hg41.known x o (Le.trans (Le.trans (le_upd _ _ _ hb37) (le_upd _ _ _ hb39)) (le_upd _ _ _ hb40) x o hx) hn
         have hr41' : ∀ r, rs41 = some r → rs = some r ∨ (H_ r = none ∧ r ≠ b37 ∧ r ≠ b39) := fun r e => (hr41 r e).imp id (fun hn => by
          have h3 := upd_none hn
          have h2 := upd_none h3
          refine ⟨upd_none h2, fun e => ?_, fun e => ?_⟩
          ·subst e; rw [zan] at h2; cases h2
          ·subst e; rw [zan] at h3; cases h3)
         refine hK _ _ ?_; clear hK K
         refine zab (fun K hK r => ?_)
         rw [zav _ _ rfl]
         refine yaj ?_
         refine hK _ _ ?_; clear hK K
         refine zab (fun K hK r => ?_)
         refine yat ?_
         refine hK _ _ ?_; clear hK K
         refine zaI rfl (zas) (fun K hK r => ?_)
         refine yaD ?_
         refine zaE sz112 hbA bdA plA fzA ?_
         refine yaE ?_
         refine yaf ?_
         refine hK _ _ ?_; clear hK K
         refine zad ?_
         refine yab ?_
         refine hK10 _ _ ?_; try clear hK10 K10
         refine zaa ?_
         refine zab (fun K hK r => ?_)
         refine yaq ?_
         refine hK _ _ ?_; clear hK K
         refine zah rfl ?_
         refine zad ?_
         refine yab ?_
         refine ⟨l.length - (k + 1), by omega, k + 1, _, rs41, bs ++ [b39], _, by omega, rfl, (fun j hj => ?_), hN.next hm_ hb_39 nm39 (zan _ _ _) (ho41.upd (fun e => ?_)) ((zap _ _ nmp).trans km41) ((zap _ _ (Ne.symm n1739)).trans kb41) (fun x o hx hxp hxr => (zap _ _ hxp).trans (hkp41 x o hx hxr)) hr41', rfl, rfl, rfl, rfl, trivial⟩
         ·by_cases e : j = k
          ·subst e; exact hok
          ·exact hoks j (by omega)
         ·rcases hr41' _ e with h1 | ⟨h1, _⟩
          ·exact hrs17 h1
          ·rw [kp] at h1; cases h1
    ·first
     |(exfalso; exact cnA c21; done)
     |skip
      (try replace c21 := yad c21)
      have hkn : k = l.length := by omega
      refine CW_exit ?_
      refine yab ?_
      refine hK6 _ _ ?_; try clear hK6 K6
      refine zac (fun K15 hK15 => ?_)
      refine zaa ?_
      refine zah rfl ?_
      refine zaj rfl ?_
      refine zaj rfl ?_
      refine zad ?_
      refine yab ?_
      refine hK15 _ _ ?_; try clear hK15 K15
      refine zaz ?_
      refine yab ?_
      subst hkn
      obtain ⟨F, hF1, hF2, hF3⟩ := hN.done hlen.1
      exact ⟨[_, _], ⟨rfl, rfl, trivial⟩, _, Le.refl _, .inr ⟨good_all hlen.1 hlen.2 hoks, hN.old, b17, rfl, F, hF1, hF2, hF3⟩⟩
end Go.Proofs.Ytigofhhonnbkmaa.HL
end
section
namespace Go.Proofs.Ytigofhhonnbkmaa.HL
open Go Go.Proofs
set_option linter.unusedSimpArgs false
set_option linter.unusedVariables false
attribute [local irreducible] Lt Lq CW OW TW CallH
set_option maxRecDepth 100000 in
set_option maxHeartbeats 1000000 in
theorem flush1_ok (H : Hp) (n : Int) : CallH Try.prog 75 #[.int .i64 n] H (fun v H' => v = .tuple #[.int .i64 0, .bool true] ∧ H' = H) := by
 refine zam (l := [_]) (rl := [.tmp 2, .tmp 3]) (n := 4) Try.func75 rfl rfl rfl rfl rfl ?_
 refine yaa ?_
 refine zac (fun K1 hK1 => ?_)
 refine zaa ?_
 refine zaj rfl ?_
 refine zaj rfl ?_
 refine zad ?_
 refine yab ?_
 refine hK1 _ _ ?_; try clear hK1 K1
 refine zac (fun K2 hK2 => ?_)
 refine zaa ?_
 refine zaj rfl ?_
 refine zaj rfl ?_
 refine zad ?_
 refine yab ?_
 refine hK2 _ _ ?_; try clear hK2 K2
 refine zaz ?_
 refine yab ?_
 exact ⟨[_, _], ⟨rfl, rfl, trivial⟩, _, Le.refl _, rfl, rfl⟩
set_option maxRecDepth 100000 in
set_option maxHeartbeats 1000000 in
theorem flush_bad (H : Hp) (p : Nat) (s : St) (rd cap : Nat) (bs : List Nat) (Fs : Nat → Hp) (h : SX H p s rd cap bs Fs) (hl : s.dv.length ≤ 1000) (dev : Int) (hno : ¬ (0 ≤ dev ∧ dev < s.dv.length)) : CallH Try.prog 53 #[(.pointer (some ⟨p, 0, none⟩)), .int .i64 dev] H (fun v H' => v = errV (s.fl dev).2 ∧ SetX H' p (s.fl dev).1) := by
 refine zam (l := [_, _]) (rl := [.tmp 4]) (n := 27) Try.func53 rfl rfl rfl rfl rfl ?_
 refine yaa ?_
 refine zac (fun K1 hK1 => ?_)
 refine zaa ?_
 refine zaj rfl ?_
 refine zad ?_
 refine yab ?_
 refine hK1 _ _ ?_; try clear hK1 K1
 refine zac (fun K2 hK2 => ?_)
 refine zaa ?_
 refine zah rfl ?_
 refine zah rfl ?_
 refine zab (fun K hK r => ?_)
 refine ybH ?_
 refine (device_ok _ p s rd cap bs Fs h dev hl).mono ?_
 rintro v H' ⟨rfl, rfl⟩
 rw [show devV s bs dev = .pointer none from if_neg hno]
 refine yaf ?_
 refine hK _ _ ?_; clear hK K
 refine zaj rfl ?_
 refine zad ?_
 refine yab ?_
 refine hK2 _ _ ?_; try clear hK2 K2
 refine zac (fun K3 hK3 => ?_)
 refine zaB ?_
 refine zac (fun K4 hK4 => ?_)
 refine zaa ?_
 refine zah rfl ?_
 refine zab (fun K hK r => ?_)
 refine yan ?_
 rw [e_eql _ _ _ _ (by simp)]
 rw [zaM]
 first | rw [q_ptr_nil _ _ _ Try.underlying47] | rw [q_nil_ptr _ _ _ Try.underlying47]
 refine yaf ?_
 refine hK _ _ ?_; clear hK K
 refine zaj rfl ?_
 refine zad ?_
 refine yab ?_
 refine hK4 _ _ ?_; try clear hK4 K4
 refine zar (fun r => rfl) (fun c10 => ?_) (fun c10 => ?_)
 ·first
  |(exfalso; exact cnA c10; done)
  |skip
   (try replace c10 := yad c10)
   refine zac (fun K5 hK5 => ?_)
   refine zaa ?_
   refine zab (fun K hK r => ?_)
   refine yaF ?_
   refine hK _ _ ?_; clear hK K
   refine zaj rfl ?_
   refine zad ?_
   refine yab ?_
   refine hK5 _ _ ?_; try clear hK5 K5
   refine zaz ?_
   refine yab ?_
   skip
 ·first
  |(exfalso; exact cnA c10; done)
  |skip
   (try replace c10 := yad c10)
   refine zac (fun K6 hK6 => ?_)
   refine zaa ?_
   refine zah rfl ?_
   refine zab (fun K hK r => ?_)
   refine yan ?_
   rw [e_eql _ _ _ _ (by simp)]
   rw [zaM]
   first | rw [q_ptr_nil _ _ _ Try.underlying115] | rw [q_nil_ptr _ _ _ Try.underlying115]
   refine yaf ?_
   refine hK _ _ ?_; clear hK K
   refine zaj rfl ?_
   refine zad ?_
   refine yab ?_
   refine hK6 _ _ ?_; try clear hK6 K6
   refine zar (fun r => rfl) (fun c14 => ?_) (fun c14 => ?_)
   ·first
    |(exfalso; exact cnA c14; done)
    |skip
     (try replace c14 := yad c14)
     refine zac (fun K7 hK7 => ?_)
     refine zaa ?_
     refine zab (fun K hK r => ?_)
     refine yaF ?_
     refine hK _ _ ?_; clear hK K
     refine zaj rfl ?_
     refine zad ?_
     refine yab ?_
     refine hK7 _ _ ?_; try clear hK7 K7
     refine zaz ?_
     refine yab ?_
     refine ⟨[_], ⟨rfl, trivial⟩, _, Le.refl _, ?_, ?_⟩
     ·show _ = errV _
      unfold St.fl; rw [if_neg hno]; rfl
     ·unfold St.fl; rw [if_neg hno]; exact ⟨rd, cap, bs, Fs, h⟩
   ·first
    |(exfalso; exact cnA c14; done)
    |skip
     (try replace c14 := yad c14)
     refine zau ?_
     refine yab ?_
     refine hK3 _ _ ?_; try clear hK3 K3
     refine zac (fun K8 hK8 => ?_)
     refine zac (fun K9 hK9 => ?_)
     refine zaa ?_
     refine zah rfl ?_
     refine zab (fun K hK r => ?_)
     rw [zav _ _ rfl]
     refine yaj ?_
     refine hK _ _ ?_; clear hK K
     refine zab (fun K hK r => ?_)
     refine ybI ?_
     refine hK _ _ ?_; clear hK K
     refine zab (fun K hK r => ?_)
     refine ybJ ?_
     fail "left out: CALL (*sluiceway/dev.power).step slot 21"
set_option maxRecDepth 100000 in
set_option maxHeartbeats 1000000 in
theorem flush_in (H : Hp) (p : Nat) (s : St) (rd cap : Nat) (bs : List Nat) (Fs : Nat → Hp) (h : SX H p s rd cap bs Fs) (hl : s.dv.length ≤ 1000) (hw : ∀ i, (s.dv.getD i default).wait.length ≤ 1000000) (dev : Int) (hin : 0 ≤ dev ∧ dev < s.dv.length) : CallH Try.prog 53 #[(.pointer (some ⟨p, 0, none⟩)), .int .i64 dev] H (fun v H' => v = errV (s.fl dev).2 ∧ SetX H' p (s.fl dev).1) := by
 refine zam (l := [_, _]) (rl := [.tmp 4]) (n := 27) Try.func53 rfl rfl rfl rfl rfl ?_
 refine yaa ?_
 have hk : dev.toNat < s.dv.length := by omega
 have hfp := h.fp dev.toNat hk
 refine zac (fun K1 hK1 => ?_)
 refine zaa ?_
 refine zaj rfl ?_
 refine zad ?_
 refine yab ?_
 refine hK1 _ _ ?_; try clear hK1 K1
 refine zac (fun K2 hK2 => ?_)
 refine zaa ?_
 refine zah rfl ?_
 refine zah rfl ?_
 refine zab (fun K hK r => ?_)
 refine ybH ?_
 refine (device_ok _ p s rd cap bs Fs h dev hl).mono ?_
 rintro v H' ⟨rfl, rfl⟩
 rw [show devV s bs dev = ptrV (bs.getD dev.toNat 0) from if_pos hin]
 simp only [ptrV]
 refine yaf ?_
 refine hK _ _ ?_; clear hK K
 refine zaj rfl ?_
 refine zad ?_
 refine yab ?_
 refine hK2 _ _ ?_; try clear hK2 K2
 refine zac (fun K3 hK3 => ?_)
 refine zaB ?_
 refine zac (fun K4 hK4 => ?_)
 refine zaa ?_
 refine zah rfl ?_
 refine zab (fun K hK r => ?_)
 refine yan ?_
 rw [e_eql _ _ _ _ (by simp)]
 rw [zaM]
 first | rw [q_ptr_nil _ _ _ Try.underlying47] | rw [q_nil_ptr _ _ _ Try.underlying47]
 refine yaf ?_
 refine hK _ _ ?_; clear hK K
 refine zaj rfl ?_
 refine zad ?_
 refine yab ?_
 refine hK4 _ _ ?_; try clear hK4 K4
 refine zar (fun r => rfl) (fun c10 => ?_) (fun c10 => ?_)
 ·first
  |(exfalso; exact cnA c10; done)
  |skip
   (try replace c10 := yad c10)
   refine zac (fun K5 hK5 => ?_)
   refine zaa ?_
   refine zab (fun K hK r => ?_)
   refine yaF ?_
   refine hK _ _ ?_; clear hK K
   refine zaj rfl ?_
   refine zad ?_
   refine yab ?_
   refine hK5 _ _ ?_; try clear hK5 K5
   refine zaz ?_
   refine yab ?_
   skip
 ·first
  |(exfalso; exact cnA c10; done)
  |skip
   (try replace c10 := yad c10)
   refine zac (fun K6 hK6 => ?_)
   refine zaa ?_
   refine zah rfl ?_
   refine zab (fun K hK r => ?_)
   refine yan ?_
   rw [e_eql _ _ _ _ (by simp)]
   rw [zaM]
   first | rw [q_ptr_nil _ _ _ Try.underlying115] | rw [q_nil_ptr _ _ _ Try.underlying115]
   refine yaf ?_
   refine hK _ _ ?_; clear hK K
   refine zaj rfl ?_
   refine zad ?_
   refine yab ?_
   refine hK6 _ _ ?_; try clear hK6 K6
   refine zar (fun r => rfl) (fun c14 => ?_) (fun c14 => ?_)
   ·first
    |(exfalso; exact cnA c14; done)
    |skip
     (try replace c14 := yad c14)
     refine zac (fun K7 hK7 => ?_)
     refine zaa ?_
     refine zab (fun K hK r => ?_)
     refine yaF ?_
     refine hK _ _ ?_; clear hK K
     refine zaj rfl ?_
     refine zad ?_
     refine yab ?_
     refine hK7 _ _ ?_; try clear hK7 K7
     refine zaz ?_
     refine yab ?_
     skip
   ·first
    |(exfalso; exact cnA c14; done)
    |skip
     (try replace c14 := yad c14)
     refine zau ?_
     refine yab ?_
     refine hK3 _ _ ?_; try clear hK3 K3
     refine zac (fun K8 hK8 => ?_)
     refine zac (fun K9 hK9 => ?_)
     refine zaa ?_
     refine zah rfl ?_
     refine zab (fun K hK r => ?_)
     rw [zav _ _ rfl]
     refine yaj ?_
     refine hK _ _ ?_; clear hK K
     refine zab (fun K hK r => ?_)
     refine ybI ?_
     refine hK _ _ ?_; clear hK K
     refine zab (fun K hK r => ?_)
     refine ybJ ?_
     refine (step_ok _ p s _ h.hd).mono ?_
     rintro v H' ⟨rfl, rfl⟩
     refine yaf ?_
     refine hK _ _ ?_; clear hK K
     refine zaj rfl ?_
     refine zad ?_
     refine yab ?_
     refine hK9 _ _ ?_; try clear hK9 K9
     refine zac (fun K10 hK10 => ?_)
     refine zaa ?_
     refine zah rfl ?_
     refine zab (fun K hK r => ?_)
     refine yae ?_
     first | rw [b_err_neq _ _ Try.underlying32] | (rw [e_neq _ _ _ _ (by simp), zaM]; first | rw [q_iface_nil _ _ _ Try.underlying32] | rw [q_nil_iface _ _ _ Try.underlying32] | rw [q_nil_nil _ _ _ Try.underlying32])
     refine yaf ?_
     refine hK _ _ ?_; clear hK K
     refine zad ?_
     refine yab ?_
     refine hK10 _ _ ?_; try clear hK10 K10
     refine zar (fun r => rfl) (fun c23 => ?_) (fun c23 => ?_)
     ·first
      |(exfalso; exact cnA c23; done)
      |skip
       (try replace c23 := yad c23)
       have hst : s.step.2 = false := by cases hc : s.step.2 with
        |false => rfl
        |true => rw [hc] at c23; simp at c23
       refine zac (fun K11 hK11 => ?_)
       refine zaa ?_
       refine zah rfl ?_
       refine zaj rfl ?_
       refine zad ?_
       refine yab ?_
       refine hK11 _ _ ?_; try clear hK11 K11
       refine zaz ?_
       refine yab ?_
       have hfl : s.fl dev = (s.step.1, some 3) := by
        unfold St.fl; rw [if_pos hin]
        generalize hq : s.step = q at *
        obtain ⟨t, bb⟩ := q
        simp only at hst; subst hst; rfl
       refine ⟨[_], ⟨rfl, trivial⟩, _, Le.refl _, ?_, ?_⟩
       ·rw [hfl, hst]; rfl
       ·rw [hfl]; exact ⟨rd, cap, bs, Fs, h.head (step_dv s) (zan _ _ _) (fun z o hz hzp => (zap _ _ hzp).trans hz)⟩
     ·first
      |(exfalso; exact cnA c23; done)
      |skip
       (try replace c23 := yad c23)
       have hst : s.step.2 = true := by cases hc : s.step.2 with
        |true => rfl
        |false => rw [hc] at c23; simp at c23
       refine zau ?_
       refine yab ?_
       refine hK8 _ _ ?_; try clear hK8 K8
       refine zac (fun K12 hK12 => ?_)
       refine zaa ?_
       refine zah rfl ?_
       refine zab (fun K hK r => ?_)
       simp only [zaF _ bd61, List.map_toArray, List.map_cons, List.map_nil, eX, ↓reduceIte, Nat.reduceEqDiff, Int.reduceToNat]
       refine (settle_ok _ _ _ (Fs dev.toNat) emptyHp (h.dev dev.toNat hk) (fun x o hx => (zap _ _ (fun e => by subst e; rw [hfp.1] at hx; cases hx)).trans (h.le dev.toNat hk x o hx)) (zaN _) (fun _ _ => rfl) (.func 75) #[] #[] (fun _ => some 0) (fun KK _ n hn => ValH_func bd75 (flush1_ok KK n)) (hw _)).mono ?_
       rintro v26 H26 ⟨F', hdF, hlF, hdom, hkp⟩
       refine yaf ?_
       refine hK _ _ ?_; clear hK K
       refine zad ?_
       refine yab ?_
       refine hK12 _ _ ?_; try clear hK12 K12
       refine zac (fun K13 hK13 => ?_)
       refine zaa ?_
       refine zaj rfl ?_
       refine zad ?_
       refine yab ?_
       refine hK13 _ _ ?_; try clear hK13 K13
       refine zaz ?_
       refine yab ?_
       have hfl : s.fl dev = ({ s.step.1 with dv := s.dv.set dev.toNat ((s.dv.getD dev.toNat default).settle (fun _ => some 0)) }, none) := by
        unfold St.fl; rw [if_pos hin]
        have hdq := step_dv s
        generalize hq : s.step = q at *
        obtain ⟨t, bb⟩ := q
        simp only at hst hdq; subst hst; rw [← hdq]
       refine ⟨[_], ⟨rfl, trivial⟩, _, Le.refl _, ?_, ?_⟩
       ·rw [hfl]; rfl
       ·rw [hfl]
        exact h.put hk hdF rfl (hkp p _ (zan _ _ _) hfp.1) hlF (fun z o hz hn hzp => hkp z o ((zap _ _ hzp).trans hz) hn) (fun z hz => .inl (hdom z hz))
theorem flush_ok (H : Hp) (p : Nat) (s : St) (rd cap : Nat) (bs : List Nat) (Fs : Nat → Hp) (h : SX H p s rd cap bs Fs) (hl : s.dv.length ≤ 1000) (hw : ∀ i, (s.dv.getD i default).wait.length ≤ 1000000) (dev : Int) : CallH Try.prog 53 #[(.pointer (some ⟨p, 0, none⟩)), .int .i64 dev] H (fun v H' => v = errV (s.fl dev).2 ∧ SetX H' p (s.fl dev).1) := by
  by_cases hin : 0 ≤ dev ∧ dev < s.dv.length
  · exact flush_in H p s rd cap bs Fs h hl hw dev hin
  · exact flush_bad H p s rd cap bs Fs h hl dev hin
end Go.Proofs.Ytigofhhonnbkmaa.HL
end
section
namespace Go.Proofs.Ytigofhhonnbkmaa.HL
open Go Go.Proofs
set_option linter.unusedSimpArgs false
set_option linter.unusedVariables false
attribute [local irreducible] Lt Lq CW OW TW CallH

structure Stn (H K F : Hp) (p : Nat) (s : St) : Prop where
  set : SetX F p s
  le : Le F K
  old : Le H K
  ap : ∀ b, H b ≠ none → F b = none
def Sm (n : Nat) (s : St) : Prop := s.dv.length ≤ 5 ∧ ∀ i, (s.dv.getD i default).wait.length ≤ n
theorem Sm.up {n m : Nat} {s : St} (h : Sm n s) (hm : n ≤ m) : Sm m s := ⟨h.1, fun i => Nat.le_trans (h.2 i) hm⟩
theorem getD_set {l : List Dv} {k : Nat} {d : Dv} (i : Nat) : (l.set k d).getD i default = if i = k ∧ k < l.length then d else l.getD i default := by
  simp only [List.getD_eq_getElem?_getD, List.getElem?_set]
  by_cases h : k = i
  · subst h
    by_cases h2 : k < l.length
    · simp [h2]
    · simp [h2, List.getElem?_eq_none (by omega : l.length ≤ k)]
  · rw [if_neg h, if_neg (by rintro ⟨rfl, _⟩; exact h rfl)]
theorem Sm.set {n : Nat} {s t : St} (h : Sm n s) {k : Nat} {d : Dv} (hd : d.wait.length ≤ n) (ht : t.dv = s.dv.set k d) : Sm n t := by
  refine ⟨by rw [ht, List.length_set]; exact h.1, fun i => ?_⟩
  rw [ht, getD_set]
  split
  · exact hd
  · exact h.2 i
theorem wr_cases (s : St) (dev i : Int) (x : Sec) : ((s.wr dev i x).1 = s ∧ (s.wr dev i x).2 = some 1 ∧ s.has dev i = false) ∨ ((s.wr dev i x).1 = s.step.1 ∧ (s.wr dev i x).2 = some 3 ∧ s.step.2 = false ∧ s.has dev i = true) ∨ ((s.wr dev i x).1 = { s.step.1 with dv := s.dv.set dev.toNat ((s.dv.getD dev.toNat default).put ⟨i, x⟩) } ∧ (s.wr dev i x).2 = none ∧ s.step.2 = true ∧ s.has dev i = true) := by
  unfold St.wr
  by_cases h : s.has dev i = true
  · rw [if_pos h]
    have hd := step_dv s
    generalize hq : s.step = q at *
    obtain ⟨t, b⟩ := q
    cases b with
    | true => exact .inr (.inr ⟨by simp only at hd; rw [← hd], rfl, rfl, h⟩)
    | false => exact .inr (.inl ⟨rfl, rfl, rfl, h⟩)
  · rw [if_neg h]; exact .inl ⟨rfl, rfl, by simpa using h⟩
theorem fl_cases (s : St) (dev : Int) : ((s.fl dev).1 = s ∧ (s.fl dev).2 = some 1 ∧ ¬ (0 ≤ dev ∧ dev < s.dv.length)) ∨ ((s.fl dev).1 = s.step.1 ∧ (s.fl dev).2 = some 3 ∧ s.step.2 = false ∧ (0 ≤ dev ∧ dev < s.dv.length)) ∨ ((s.fl dev).1 = { s.step.1 with dv := s.dv.set dev.toNat ((s.dv.getD dev.toNat default).settle (fun _ => some 0)) } ∧ (s.fl dev).2 = none ∧ s.step.2 = true ∧ (0 ≤ dev ∧ dev < s.dv.length)) := by
  unfold St.fl
  by_cases h : 0 ≤ dev ∧ dev < s.dv.length
  · rw [if_pos h]
    have hd := step_dv s
    generalize hq : s.step = q at *
    obtain ⟨t, b⟩ := q
    cases b with
    | true => exact .inr (.inr ⟨by simp only at hd; rw [← hd], rfl, rfl, h⟩)
    | false => exact .inr (.inl ⟨rfl, rfl, rfl, h⟩)
  · rw [if_neg h]; exact .inl ⟨rfl, rfl, h⟩
theorem Sm.of_dv {n : Nat} {s t : St} (h : Sm n s) (ht : t.dv = s.dv) : Sm n t := ⟨by rw [ht]; exact h.1, by rw [ht]; exact h.2⟩
theorem Sm.wr {n : Nat} {s : St} (h : Sm n s) (dev i : Int) (x : Sec) : Sm (n + 1) (s.wr dev i x).1 := by
  rcases wr_cases s dev i x with ⟨e, _⟩ | ⟨e, _⟩ | ⟨e, _⟩
  · rw [e]; exact h.up (by omega)
  · rw [e]; exact (h.of_dv (step_dv s)).up (by omega)
  · rw [e]; exact (h.up (show n ≤ n + 1 by omega)).set (by simp [Dv.put]; exact h.2 _) rfl
theorem Sm.fl {n : Nat} {s : St} (h : Sm n s) (dev : Int) : Sm n (s.fl dev).1 := by
  rcases fl_cases s dev with ⟨e, _⟩ | ⟨e, _⟩ | ⟨e, _⟩
  · rw [e]; exact h
  · rw [e]; exact h.of_dv (step_dv s)
  · rw [e]; exact h.set (by simp [Dv.settle]) rfl
theorem Sm.cr {n : Nat} {s : St} (h : Sm n s) (l : List Kp) : Sm n (s.cr l) := by
  refine ⟨by simp [St.cr]; exact h.1, fun i => ?_⟩
  simp only [St.cr, List.getD_eq_getElem?_getD, List.getElem?_mapIdx]
  cases s.dv[i]? with
  | none => simp [default]
  | some d => simp [Dv.settle]
theorem Sm.new {l : List Int} (h : l.length ≤ 5) : Sm 0 (newSt l) := by
  refine ⟨by simp [newSt]; exact h, fun i => ?_⟩
  simp only [newSt, List.getD_eq_getElem?_getD, List.getElem?_map]
  cases l[i]? with
  | none => simp [default]
  | some d => simp [newDv]
theorem Stn.use {H K F : Hp} {p : Nat} {s t : St} (hA : Stn H K F p s) {F' K' : Hp} (hX : SetX F' p t) (hl : Le F' K') (hf : ∀ b o, K b = some o → F b = none → K' b = some o ∧ F' b = none) : Stn H K' F' p t := by
  refine ⟨hX, hl, fun b o hb => (hf b o (hA.old b o hb) (hA.ap b (by rw [hb]; simp))).1, fun b hb => ?_⟩
  cases hc : H b with
  | none => exact absurd hc hb
  | some o => exact (hf b o (hA.old b o hc) (hA.ap b hb)).2
theorem Stn.put {H K F : Hp} {p : Nat} {s : St} (hA : Stn H K F p s) {b : Nat} (hb : F b = none) (o : Obj) : Stn (H.upd b o) (K.upd b o) F p s := by
  refine ⟨hA.set, zaw hA.le hb, fun x u hx => ?_, fun x hx => ?_⟩
  · by_cases e : x = b
    · subst e; rw [zan] at hx ⊢; exact hx
    · rw [zap _ _ e] at hx ⊢; exact hA.old x u hx
  · by_cases e : x = b
    · subst e; exact hb
    · rw [zap _ _ e] at hx; exact hA.ap x hx
theorem Stn.fresh {H K F : Hp} {p : Nat} {s : St} (hA : Stn H K F p s) {b : Nat} (hb : K b = none) : F b = none := zag hA.le hb
theorem Stn.less {H H' K F : Hp} {p : Nat} {s : St} (hA : Stn H K F p s) (hl : Le H' H) : Stn H' K F p s := ⟨hA.set, hA.le, Le.trans hl hA.old, fun b hb => hA.ap b (fun hn => hb (zag hl hn))⟩
theorem Stn.more {H K F : Hp} {p : Nat} {s : St} (hA : Stn H K F p s) {K' : Hp} (hl : Le K K') : Stn H K' F p s := ⟨hA.set, Le.trans hA.le hl, Le.trans hA.old hl, hA.ap⟩
theorem writeL {H K F : Hp} {p : Nat} {s : St} (hA : Stn H K F p s) {n : Nat} (hs : Sm n s) (hn : n ≤ 1000000) (dev i : Int) (x : Sec) : CallH Try.prog 24 #[(.pointer (some ⟨p, 0, none⟩)), .int .i64 dev, .int .i64 i, x.v] K (fun v K' => v = errV (s.wr dev i x).2 ∧ ∃ F', Stn H K' F' p (s.wr dev i x).1) := by
  obtain ⟨r, cap, bs, Fs, h⟩ := hA.set
  refine (CallH.use (write_ok F p s r cap bs Fs h (Nat.le_trans hs.1 (by decide)) (fun i => Nat.le_trans (hs.2 i) hn) dev i x) hA.le).mono ?_
  rintro v K' ⟨F', ⟨rfl, hX⟩, hl, hf⟩
  exact ⟨rfl, F', hA.use hX hl hf⟩
theorem flushL {H K F : Hp} {p : Nat} {s : St} (hA : Stn H K F p s) {n : Nat} (hs : Sm n s) (hn : n ≤ 1000000) (dev : Int) : CallH Try.prog 53 #[(.pointer (some ⟨p, 0, none⟩)), .int .i64 dev] K (fun v K' => v = errV (s.fl dev).2 ∧ ∃ F', Stn H K' F' p (s.fl dev).1) := by
  obtain ⟨r, cap, bs, Fs, h⟩ := hA.set
  refine (CallH.use (flush_ok F p s r cap bs Fs h (Nat.le_trans hs.1 (by decide)) (fun i => Nat.le_trans (hs.2 i) hn) dev) hA.le).mono ?_
  rintro v K' ⟨F', ⟨rfl, hX⟩, hl, hf⟩
  exact ⟨rfl, F', hA.use hX hl hf⟩
theorem armL {H K F : Hp} {p : Nat} {s : St} (hA : Stn H K F p s) (n : Int) : CallH Try.prog 29 #[(.pointer (some ⟨p, 0, none⟩)), .int .i64 n] K (fun v K' => v = errV (if n < 0 then some 1 else none) ∧ ∃ F', Stn H K' F' p (if n < 0 then s else { s with armed := true, left := n })) := by
  obtain ⟨r, cap, bs, Fs, h⟩ := hA.set
  refine (CallH.use (arm_ok F p s r cap bs Fs h n) hA.le).mono ?_
  rintro v K' ⟨F', ⟨rfl, hX⟩, hl, hf⟩
  exact ⟨rfl, F', hA.use hX hl hf⟩
theorem crashL {H K F : Hp} {p : Nat} {s : St} (hA : Stn H K F p s) {n : Nat} (hs : Sm n s) (hn : n ≤ 1000000) {G : Hp} (hG : Le G K) (hGF : ∀ x, G x ≠ none → F x = none) (hGH : ∀ x, G x ≠ none → H x = none) (a : Option Addr) (cap : Nat) (l : List Kp) (hv : Holds G 3 (.slice a l.length cap) l.length (kps l)) (hl : l.length ≤ 1000) : CallH Try.prog 26 #[(.pointer (some ⟨p, 0, none⟩)), .slice a l.length cap] K (fun _ K' => ∃ F', Stn H K' F' p (s.cr l)) := by
  obtain ⟨r, cap', bs, Fs, h⟩ := hA.set
  have hap : F.apart G := fun b hb => hGF b hb
  have hfg : ∀ x, F x ≠ none → G x = none := fun x hx => by
    cases hc : G x with
    | none => rfl
    | some o => exact absurd (hGF x (by rw [hc]; simp)) hx
  have hpF : F p ≠ none := by rw [h.hd]; simp
  refine (CallH.use (crash_ok (F.join G) p s r cap' bs Fs (h.mono (le_join F G)) (Nat.le_trans hs.1 (by decide)) (fun i => Nat.le_trans (hs.2 i) hn) G (le_join_r hap) (hfg p hpF) (fun i hi x hx => hfg x (fun hn => hx (zag (h.le i hi) hn))) a cap l hv hl) (join_le hA.le hG)).mono ?_
  rintro v K' ⟨F', hX, hl', hf⟩
  have hf' : ∀ b o, H b = some o → K' b = some o ∧ F' b = none := fun b o hb => by
    refine hf b o (hA.old b o hb) ?_
    have h1 : F b = none := hA.ap b (by rw [hb]; simp)
    rw [join_r h1]
    cases hc : G b with
    | none => rfl
    | some u => have := hGH b (by rw [hc]; simp); rw [hb] at this; cases this
  refine ⟨F', hX, hl', fun b o hb => (hf' b o hb).1, fun b hb => ?_⟩
  cases hc : H b with
  | none => exact absurd hc hb
  | some o => exact (hf' b o hc).2
theorem readL {H K F : Hp} {p : Nat} {s : St} (hA : Stn H K F p s) {n : Nat} (hs : Sm n s) (hn : n ≤ 1000000) (dev i : Int) : CallH Try.prog 65 #[(.pointer (some ⟨p, 0, none⟩)), .int .i64 dev, .int .i64 i] K (fun v K' => v = .tuple #[(s.rd dev i).1.v, errV (s.rd dev i).2] ∧ K' = K) := by
  obtain ⟨r, cap, bs, Fs, h⟩ := hA.set
  exact read_ok K p s r cap bs Fs (h.mono hA.le) (Nat.le_trans hs.1 (by decide)) (fun i => Nat.le_trans (hs.2 i) hn) dev i
theorem downL {H K F : Hp} {p : Nat} {s : St} (hA : Stn H K F p s) : CallH Try.prog 32 #[(.pointer (some ⟨p, 0, none⟩))] K (fun v K' => v = .bool s.gone ∧ K' = K) := by
  obtain ⟨r, cap, bs, Fs, h⟩ := hA.set
  exact down_ok K p s r cap bs Fs (h.mono hA.le)
theorem stepsL {H K F : Hp} {p : Nat} {s : St} (hA : Stn H K F p s) : CallH Try.prog 33 #[(.pointer (some ⟨p, 0, none⟩))] K (fun v K' => v = .int .i64 s.steps ∧ K' = K) := by
  obtain ⟨r, cap, bs, Fs, h⟩ := hA.set
  exact steps_ok K p s r cap bs Fs (h.mono hA.le)
def St.wa (s : St) (dev : Int) : Int := if 0 ≤ dev ∧ dev < s.dv.length then ((s.dv.getD dev.toNat default).wait.length : Int) else 0
def St.sz (s : St) (dev : Int) : Int := if 0 ≤ dev ∧ dev < s.dv.length then (s.dv.getD dev.toNat default).size else 0
theorem sizeL {H K F : Hp} {p : Nat} {s : St} (hA : Stn H K F p s) {n : Nat} (hs : Sm n s) (dev : Int) : CallH Try.prog 52 #[(.pointer (some ⟨p, 0, none⟩)), .int .i64 dev] K (fun v K' => v = .int .i64 (s.sz dev) ∧ K' = K) := by
  obtain ⟨r, cap, bs, Fs, h⟩ := hA.set
  unfold St.sz
  by_cases hin : 0 ≤ dev ∧ dev < s.dv.length
  · rw [if_pos hin]; exact size_in K p s r cap bs Fs (h.mono hA.le) (Nat.le_trans hs.1 (by decide)) dev hin
  · rw [if_neg hin]; exact size_out K p s r cap bs Fs (h.mono hA.le) (Nat.le_trans hs.1 (by decide)) dev hin
theorem newL (H : Hp) (a : Option Addr) (cap : Nat) (l : List Int) (hv : Holds H 1 (.slice a l.length cap) l.length (l.map (Value.int .i64))) (hg : goodN l = true) (hl : l.length ≤ 1000) : CallH Try.prog 19 #[.slice a l.length cap] H (fun v H' => ∃ p F, v = .tuple #[ptrV p, errV none] ∧ Stn H H' F p (newSt l)) := by
  refine (new_ok H a cap l hv hl).mono ?_
  rintro v H' (⟨h1, _, _⟩ | ⟨_, hle, p, rfl, F, hX, hF, hd⟩)
  · rw [hg] at h1; cases h1
  · refine ⟨p, F, rfl, hX, hF, hle, fun b hb => ?_⟩
    cases hc : F b with
    | none => rfl
    | some o => exact absurd (hd b (by rw [hc]; simp)) hb
end Go.Proofs.Ytigofhhonnbkmaa.HL
end
section
namespace Go.Proofs.Ytigofhhonnbkmaa.HL
open Go Go.Proofs
set_option linter.unusedSimpArgs false
set_option linter.unusedVariables false
attribute [local irreducible] Lt Lq CW OW TW CallH
def Mf.sec (m : Mf) : Sec := ⟨m.sealB, m.seal_len⟩
def St.saveM (s : St) (m : Mf) : St × Option Int :=
  if m.good = false then (s, some 2) else if s.sz 0 < 2 then (s, some 1) else match s.wr 0 (m.gen % 2) m.sec with
    | (t, none) => t.fl 0
    | (t, some e) => (t, some e)
theorem saveM_no {s : St} {m : Mf} (h : m.good = false) : s.saveM m = (s, some 2) := by unfold St.saveM; rw [if_pos h]
theorem saveM_few {s : St} {m : Mf} (h : m.good = true) (hz : s.sz 0 < 2) : s.saveM m = (s, some 1) := by unfold St.saveM; rw [if_neg (by rw [h]; simp), if_pos hz]
theorem saveM_err {s : St} {m : Mf} (h : m.good = true) (hz : ¬ s.sz 0 < 2) {e : Int} (he : (s.wr 0 (m.gen % 2) m.sec).2 = some e) : s.saveM m = s.wr 0 (m.gen % 2) m.sec := by
  unfold St.saveM
  rw [if_neg (by rw [h]; simp), if_neg hz]
  generalize s.wr 0 (m.gen % 2) m.sec = q at *
  obtain ⟨t, e'⟩ := q
  cases he; rfl
theorem saveM_all {s : St} {m : Mf} (h : m.good = true) (hz : ¬ s.sz 0 < 2) (he : (s.wr 0 (m.gen % 2) m.sec).2 = none) : s.saveM m = (s.wr 0 (m.gen % 2) m.sec).1.fl 0 := by
  unfold St.saveM
  rw [if_neg (by rw [h]; simp), if_neg hz]
  generalize s.wr 0 (m.gen % 2) m.sec = q at *
  obtain ⟨t, e'⟩ := q
  cases he; rfl
abbrev zM : Mf := ⟨0, 0, 0, 0, 0, []⟩
open Classical in
noncomputable def pick (best : Mf) (L : List Int) (i : Int) : Mf := if opMe L = none ∧ (opMv L).gen % 2 = i ∧ best.gen < (opMv L).gen then opMv L else best
noncomputable def St.bestN (s : St) : Nat → Mf
  | 0 => zM
  | k + 1 => pick (s.bestN k) (s.rd 0 k).1.b k
noncomputable def St.loadM (s : St) : Mf × Option Int :=
  if s.sz 0 < 2 then (zM, some 1) else if s.gone = true then (zM, some 3) else if (s.bestN 2).gen = 0 then (zM, some 9) else (s.bestN 2, none)
theorem pick_yes {best : Mf} {L : List Int} {i : Int} (h : opMe L = none ∧ (opMv L).gen % 2 = i ∧ best.gen < (opMv L).gen) : pick best L i = opMv L := by unfold pick; rw [if_pos h]
theorem pick_no {best : Mf} {L : List Int} {i : Int} (h : ¬ (opMe L = none ∧ (opMv L).gen % 2 = i ∧ best.gen < (opMv L).gen)) : pick best L i = best := by unfold pick; rw [if_neg h]
theorem opMv_gen {L : List Int} : 0 ≤ (opMv L).gen ∧ (opMv L).gen ≤ 17179869183 := by
  cases h : opM L with
  | none => rw [(opM_no h).1]; decide
  | some m =>
    rw [(opM_yes h).1]
    have := (opM_of h).1.g
    omega
theorem rd_fine {s : St} (hg : s.gone = false) {at_ : Int} (h0 : 0 ≤ at_) (h1 : at_ < s.sz 0) : (s.rd 0 at_).2 = none := by
  unfold St.sz at h1
  split at h1
  · rename_i h
    unfold St.rd
    rw [if_neg (by rw [hg]; simp), if_pos]
    unfold St.has
    rw [Bool.and_eq_true, decide_eq_true_eq, decide_eq_true_eq]
    exact ⟨h, h0, h1⟩
  · omega
end Go.Proofs.Ytigofhhonnbkmaa.HL
end
section
namespace Go.Proofs.Ytigofhhonnbkmaa.HL
open Go Go.Proofs
set_option linter.unusedSimpArgs false
set_option linter.unusedVariables false
attribute [local irreducible] Lt Lq CW OW TW CallH
theorem ybO {p q : Prop} (h : q) (e : p = q := by simp only [zaF _ bd52, List.map_toArray, List.map_cons, List.map_nil, eX, ↓reduceIte, Nat.reduceEqDiff, Int.reduceToNat]; exact rfl) : p := e.mpr h
theorem ybP {p q : Prop} (h : q) (e : p = q := by simp (disch := (first | omega | decide)) only [x_bin, g_int, b_rem, wrap_i64, wrap_u64, wrap_u32, wrap_u8, eX, ↓reduceIte, Nat.reduceEqDiff, Int.reduceToNat]; exact rfl) : p := e.mpr h
set_option maxRecDepth 100000 in
set_option maxHeartbeats 4000000 in
theorem saveL {Q H F : Hp} {p : Nat} {s : St} (hA : Stn Q H F p s) {n : Nat} (hs : Sm n s) (hn : n ≤ 100000) (m : Mf) (ma : Option Addr) (mc : Nat) (hm : Holds H 1 (.slice ma m.hd.length mc) m.hd.length (i64s m.hd)) (hml : m.hd.length ≤ 1000000) : CallH Try.prog 22 #[.pointer (some ⟨p, 0, none⟩), .agg #[.int .i64 m.gen, .int .i64 m.ep, .int .i64 m.ba, .int .i64 m.ar, .int .i64 m.ln, .slice ma m.hd.length mc]] H (fun v H' => v = errV (s.saveM m).2 ∧ ∃ F', Stn Q H' F' p (s.saveM m).1) := by
 refine zam (l := [_, _]) (rl := [.tmp 4]) (n := 33) Try.func22 rfl rfl rfl rfl rfl ?_
 refine yaa ?_
 have hsl := m.seal_len
 have hsl2 := m.sec.h
 refine zac (fun K1 hK1 => ?_)
 refine zaa ?_
 refine zab (fun K hK r => ?_)
 refine yaW ?_
 intro b3 hb3
 have f3_H : H b3 = none := zag lhA hb3
 have hA3 := hA.put (hA.fresh hb3) (.cells #[.int .i64 m.gen, .int .i64 m.ep, .int .i64 m.ba, .int .i64 m.ar, .int .i64 m.ln, .slice ma m.hd.length mc] 27)
 have q3 : Q b3 = none := zag hA.old hb3
 refine yaf ?_
 refine hK _ _ ?_; clear hK K
 refine zaj rfl ?_
 refine zad ?_
 refine yab ?_
 refine hK1 _ _ ?_; try clear hK1 K1
 refine zac (fun K2 hK2 => ?_)
 refine zaa ?_
 refine zab (fun K hK r => ?_)
 refine yap ?_
 first | refine zax Try.underlying27 rfl sz27 hbA bdA ?_ | refine zaq Try.underlying27 rfl sz27 hbA bdA ?_
 refine ybg ?_
 refine yaf ?_
 refine hK _ _ ?_; clear hK K
 refine zab (fun K hK r => ?_)
 refine ybG ?_
 refine (mSeal_ok _ m ma mc (hm.le (le_upd _ _ _ hb3)) hml).mono ?_
 rintro v10 H10 ⟨rfl, l10⟩
 have hA10 := hA3.more l10
 have k10_3 := l10 b3 _ (zan _ _ _)
 have lH10 : Le H H10 := Le.trans (le_upd _ _ _ hb3) l10
 refine yaf ?_
 refine hK _ _ ?_; clear hK K
 refine zah rfl ?_
 refine zab (fun K hK r => ?_)
 refine yah ?_
 refine hK _ _ ?_; clear hK K
 refine zab (fun K hK r => ?_)
 refine yah ?_
 refine hK _ _ ?_; clear hK K
 refine zab (fun K hK r => ?_)
 refine yaX ?_
 intro b5 hb5
 try have n5_b3 : b3 ≠ b5 := zaf hbA hb5
 have f5_H : H b5 = none := zag lhA hb5
 refine yaf ?_
 refine hK _ _ ?_; clear hK K
 refine zaI rfl (zas) (fun K hK r => ?_)
 refine yaD ?_
 first | refine zak sz30 bdA hbA bdA plA (by decide) ?_ | refine zal sz30 bdA hbA bdA plA (by decide) ?_
 refine yaf ?_
 refine hK _ _ ?_; clear hK K
 refine zaj rfl ?_
 refine zad ?_
 refine yab ?_
 refine hK2 _ _ ?_; try clear hK2 K2
 refine zac (fun K3 hK3 => ?_)
 refine zaB ?_
 refine zac (fun K4 hK4 => ?_)
 refine zaa ?_
 refine zah rfl ?_
 refine zab (fun K hK r => ?_)
 refine yae ?_
 first | rw [b_err_neq _ _ Try.underlying32] | (rw [e_neq _ _ _ _ (by simp), zaM]; first | rw [q_iface_nil _ _ _ Try.underlying32] | rw [q_nil_iface _ _ _ Try.underlying32] | rw [q_nil_nil _ _ _ Try.underlying32])
 refine yaf ?_
 refine hK _ _ ?_; clear hK K
 refine zaj rfl ?_
 refine zad ?_
 refine yab ?_
 refine hK4 _ _ ?_; try clear hK4 K4
 refine zar (fun r => rfl) (fun c13 => ?_) (fun c13 => ?_)
 ·first
  |(exfalso; exact cnA c13; done)
  |skip
   have hA5 := hA10.put (hA10.fresh hb5) (.cells m.sec.c.toArray 30)
   have q5 : Q b5 = none := zag (Le.trans hA.old lH10) hb5
   have lQ5 : Le Q ((Q.upd b3 (.cells #[.int .i64 m.gen, .int .i64 m.ep, .int .i64 m.ba, .int .i64 m.ar, .int .i64 m.ln, .slice ma m.hd.length mc] 27)).upd b5 (.cells m.sec.c.toArray 30)) := zaw (le_upd _ _ _ q3) q5
   have hgd : m.good = false := by
    unfold Mf.bad at c13
    cases h : m.good with
    |false => rfl
    |true => rw [h] at c13; cases c13
   refine zac (fun K5 hK5 => ?_)
   refine zaa ?_
   refine zah rfl ?_
   refine zaj rfl ?_
   refine zad ?_
   refine yab ?_
   refine hK5 _ _ ?_; try clear hK5 K5
   refine zaz ?_
   refine yab ?_
   refine ⟨[_], ⟨rfl, trivial⟩, _, Le.refl _, ?_, F, ?_⟩
   ·rw [saveM_no hgd]; unfold Mf.bad; rw [hgd]; rfl
   ·rw [saveM_no hgd]; exact hA5.less lQ5
 ·first
  |(exfalso; exact cnA c13; done)
  |skip
   have hA5 := hA10.put (hA10.fresh hb5) (.cells m.sec.c.toArray 30)
   have q5 : Q b5 = none := zag (Le.trans hA.old lH10) hb5
   have lQ5 : Le Q ((Q.upd b3 (.cells #[.int .i64 m.gen, .int .i64 m.ep, .int .i64 m.ba, .int .i64 m.ar, .int .i64 m.ln, .slice ma m.hd.length mc] 27)).upd b5 (.cells m.sec.c.toArray 30)) := zaw (le_upd _ _ _ q3) q5
   have hgd : m.good = true := by
    unfold Mf.bad at c13
    cases h : m.good with
    |true => rfl
    |false => rw [h] at c13; cases c13
   have hok := Mf.good_iff.1 hgd
   have hgn := hok.g
   refine zac (fun K6 hK6 => ?_)
   refine zaa ?_
   refine zah rfl ?_
   refine zab (fun K hK r => ?_)
   refine ybO ?_
   refine (sizeL hA5 hs 0).mono ?_
   rintro v H' ⟨rfl, hq⟩
   have hq := hq.symm
   subst hq
   refine yaf ?_
   refine hK _ _ ?_; clear hK K
   refine zab (fun K hK r => ?_)
   refine yac ?_
   refine hK _ _ ?_; clear hK K
   refine zaj rfl ?_
   refine zad ?_
   refine yab ?_
   refine hK6 _ _ ?_; try clear hK6 K6
   refine zar (fun r => rfl) (fun c17 => ?_) (fun c17 => ?_)
   ·first
    |(exfalso; exact cnA c17; done)
    |skip
     (try replace c17 := yad c17)
     refine zac (fun K7 hK7 => ?_)
     refine zaa ?_
     refine zab (fun K hK r => ?_)
     refine yaF ?_
     refine hK _ _ ?_; clear hK K
     refine zaj rfl ?_
     refine zad ?_
     refine yab ?_
     refine hK7 _ _ ?_; try clear hK7 K7
     refine zaz ?_
     refine yab ?_
     refine ⟨[_], ⟨rfl, trivial⟩, _, Le.refl _, ?_, F, ?_⟩
     ·rw [saveM_few hgd c17]; rfl
     ·rw [saveM_few hgd c17]; exact hA5.less lQ5
   ·first
    |(exfalso; exact cnA c17; done)
    |skip
     (try replace c17 := yad c17)
     have htm : m.gen.tmod 2 = m.gen % 2 := Int.tmod_eq_emod_of_nonneg (by omega)
     refine zau ?_
     refine yab ?_
     refine hK3 _ _ ?_; try clear hK3 K3
     refine zac (fun K8 hK8 => ?_)
     refine zac (fun K9 hK9 => ?_)
     refine zaa ?_
     refine zah rfl ?_
     refine zab (fun K hK r => ?_)
     refine ybv ?_
     refine hK _ _ ?_; clear hK K
     refine zab (fun K hK r => ?_)
     refine yap ?_
     refine zae Try.underlying3 rfl hbA ldA ?_
     refine yaf ?_
     refine hK _ _ ?_; clear hK K
     refine zab (fun K hK r => ?_)
     refine ybP ?_
     rw [htm]
     refine hK _ _ ?_; clear hK K
     refine zab (fun K hK r => ?_)
     refine yap ?_
     first | refine zax Try.underlying30 rfl sz30 hbA bdA ?_ | refine zaq Try.underlying30 rfl sz30 hbA bdA ?_
     refine yaf ?_
     refine hK _ _ ?_; clear hK K
     refine zab (fun K hK r => ?_)
     simp only [zaF _ bd24, List.map_toArray, List.map_cons, List.map_nil, eX, ↓reduceIte, Nat.reduceEqDiff, Int.reduceToNat]
     refine (writeL hA5 hs (by omega) 0 (m.gen % 2) m.sec).mono ?_
     rintro v27 H27 ⟨rfl, F27, hS27⟩
     refine yaf ?_
     refine hK _ _ ?_; clear hK K
     refine zaj rfl ?_
     refine zad ?_
     refine yab ?_
     refine hK9 _ _ ?_; try clear hK9 K9
     refine zac (fun K10 hK10 => ?_)
     refine zaa ?_
     refine zah rfl ?_
     refine zab (fun K hK r => ?_)
     refine yae ?_
     first | rw [b_err_neq _ _ Try.underlying32] | (rw [e_neq _ _ _ _ (by simp), zaM]; first | rw [q_iface_nil _ _ _ Try.underlying32] | rw [q_nil_iface _ _ _ Try.underlying32] | rw [q_nil_nil _ _ _ Try.underlying32])
     refine yaf ?_
     refine hK _ _ ?_; clear hK K
     refine zad ?_
     refine yab ?_
     refine hK10 _ _ ?_; try clear hK10 K10
     refine zar (fun r => rfl) (fun c29 => ?_) (fun c29 => ?_)
     ·first
      |(exfalso; exact cnA c29; done)
      |skip
       obtain ⟨ev, hev⟩ : ∃ ev, (s.wr 0 (m.gen % 2) m.sec).2 = some ev := Option.isSome_iff_exists.1 c29
       rw [hev]
       refine zac (fun K11 hK11 => ?_)
       refine zaa ?_
       refine zah rfl ?_
       refine zaj rfl ?_
       refine zad ?_
       refine yab ?_
       refine hK11 _ _ ?_; try clear hK11 K11
       refine zaz ?_
       refine yab ?_
       refine ⟨[_], ⟨rfl, trivial⟩, _, Le.refl _, ?_, F27, ?_⟩
       ·rw [saveM_err hgd c17 hev, hev]; rfl
       ·rw [saveM_err hgd c17 hev]; exact hS27.less lQ5
     ·first
      |(exfalso; exact cnA c29; done)
      |skip
       have hev : (s.wr 0 (m.gen % 2) m.sec).2 = none := by
        cases h : (s.wr 0 (m.gen % 2) m.sec).2 with
        |none => rfl
        |some z => rw [h] at c29; cases c29
       refine zau ?_
       refine yab ?_
       refine hK8 _ _ ?_; try clear hK8 K8
       refine zac (fun K12 hK12 => ?_)
       refine zaa ?_
       refine zah rfl ?_
       refine zab (fun K hK r => ?_)
       simp only [zaF _ bd53, List.map_toArray, List.map_cons, List.map_nil, eX, ↓reduceIte, Nat.reduceEqDiff, Int.reduceToNat]
       refine (flushL hS27 ((hs.wr 0 (m.gen % 2) m.sec).up (Nat.le_refl _)) (by omega) 0).mono ?_
       rintro v32 H32 ⟨rfl, F32, hS32⟩
       refine yaf ?_
       refine hK _ _ ?_; clear hK K
       refine zaj rfl ?_
       refine zad ?_
       refine yab ?_
       refine hK12 _ _ ?_; try clear hK12 K12
       refine zaz ?_
       refine yab ?_
       refine ⟨[_], ⟨rfl, trivial⟩, _, Le.refl _, ?_, F32, ?_⟩
       ·rw [saveM_all hgd c17 hev]; rfl
       ·rw [saveM_all hgd c17 hev]; exact hS32.less lQ5
end Go.Proofs.Ytigofhhonnbkmaa.HL
end
section
namespace Go.Proofs.Ytigofhhonnbkmaa.HL
open Go Go.Proofs
set_option linter.unusedSimpArgs false
set_option linter.unusedVariables false
attribute [local irreducible] Lt Lq CW OW TW CallH
set_option maxRecDepth 100000 in
set_option maxHeartbeats 8000000 in
theorem loadL {Q H F : Hp} {p : Nat} {s : St} (hA : Stn Q H F p s) {n : Nat} (hs : Sm n s) (hn : n ≤ 100000) (hby : ∀ k : Nat, k < 2 → ByteL (s.rd 0 k).1.b) : CallH Try.prog 30 #[.pointer (some ⟨p, 0, none⟩)] H (fun v H' => Le H H' ∧ ∃ x rs, v = .tuple #[.agg #[.int .i64 s.loadM.1.gen, .int .i64 s.loadM.1.ep, .int .i64 s.loadM.1.ba, .int .i64 s.loadM.1.ar, .int .i64 s.loadM.1.ln, x], errV s.loadM.2] ∧ OwnS H' 3 1 x s.loadM.1.hd.length (i64s s.loadM.1.hd) rs ∧ ∀ r, rs = some r → H r = none) := by
 refine zam (l := [_]) (rl := [.cell 2 27, .tmp 3]) (n := 63) Try.func30 rfl rfl rfl rfl rfl ?_
 refine yaa ?_
 refine zac (fun K1 hK1 => ?_)
 refine zaa ?_
 refine zab (fun K hK r => ?_)
 refine ybD ?_
 intro b2 hb2
 have f2_H : H b2 = none := zag lhA hb2
 refine yaf ?_
 refine hK _ _ ?_; clear hK K
 refine zaj rfl ?_
 refine zad ?_
 refine yab ?_
 refine hK1 _ _ ?_; try clear hK1 K1
 refine zac (fun K2 hK2 => ?_)
 refine zaB ?_
 refine zac (fun K3 hK3 => ?_)
 refine zaa ?_
 refine zah rfl ?_
 refine zab (fun K hK r => ?_)
 refine ybO ?_
 refine (sizeL (hA.more lhA) hs 0).mono ?_
 rintro v H' ⟨rfl, hq⟩
 have hq := hq.symm
 subst hq
 refine yaf ?_
 refine hK _ _ ?_; clear hK K
 refine zab (fun K hK r => ?_)
 refine yac ?_
 refine hK _ _ ?_; clear hK K
 refine zaj rfl ?_
 refine zad ?_
 refine yab ?_
 refine hK3 _ _ ?_; try clear hK3 K3
 refine zar (fun r => rfl) (fun c10 => ?_) (fun c10 => ?_)
 ·first
  |(exfalso; exact cnA c10; done)
  |skip
   (try replace c10 := yad c10)
   refine zac (fun K4 hK4 => ?_)
   refine zaa ?_
   refine zab (fun K hK r => ?_)
   refine ybE ?_
   refine ybe ?_
   refine yaf ?_
   refine hK _ _ ?_; clear hK K
   refine zab (fun K hK r => ?_)
   refine yaF ?_
   refine hK _ _ ?_; clear hK K
   refine zaI rfl (zas) (fun K hK r => ?_)
   refine yaD ?_
   first | refine zak sz27 bdA hbA bdA plA (by decide) ?_ | refine zal sz27 bdA hbA bdA plA (by decide) ?_
   refine yaf ?_
   refine hK _ _ ?_; clear hK K
   refine zaj rfl ?_
   refine zad ?_
   refine yab ?_
   refine hK4 _ _ ?_; try clear hK4 K4
   refine zaz ?_
   refine yab ?_
   have hld : s.loadM = (zM, some 1) := by
    unfold St.loadM
    rw [if_pos c10]
   rw [hld]
   refine ⟨[_, _], ⟨⟨_, rfl, zaC Try.underlying27 rfl sz27 hbA bdA⟩, rfl, trivial⟩, _, Le.refl _, lhA, .slice none 0 0, none, ?_, OwnS.nil _ _ _, fun r hr => by cases hr⟩
   rfl
 ·first
  |(exfalso; exact cnA c10; done)
  |skip
   (try replace c10 := yad c10)
   refine zac (fun K5 hK5 => ?_)
   refine zaa ?_
   refine zah rfl ?_
   refine zab (fun K hK r => ?_)
   simp only [zaF _ bd32, List.map_toArray, List.map_cons, List.map_nil, eX, ↓reduceIte, Nat.reduceEqDiff, Int.reduceToNat]
   refine (downL (hA.more lhA)).mono ?_
   rintro v H' ⟨rfl, hq⟩
   have hq := hq.symm
   subst hq
   refine yaf ?_
   refine hK _ _ ?_; clear hK K
   refine zaj rfl ?_
   refine zad ?_
   refine yab ?_
   refine hK5 _ _ ?_; try clear hK5 K5
   refine zar (fun r => rfl) (fun c16 => ?_) (fun c16 => ?_)
   ·first
    |(exfalso; exact cnA c16; done)
    |skip
     have hgo : s.gone = true := c16
     refine zac (fun K6 hK6 => ?_)
     refine zaa ?_
     refine zab (fun K hK r => ?_)
     refine ybE ?_
     refine ybe ?_
     refine yaf ?_
     refine hK _ _ ?_; clear hK K
     refine zab (fun K hK r => ?_)
     refine yaF ?_
     refine hK _ _ ?_; clear hK K
     refine zaI rfl (zas) (fun K hK r => ?_)
     refine yaD ?_
     first | refine zak sz27 bdA hbA bdA plA (by decide) ?_ | refine zal sz27 bdA hbA bdA plA (by decide) ?_
     refine yaf ?_
     refine hK _ _ ?_; clear hK K
     refine zaj rfl ?_
     refine zad ?_
     refine yab ?_
     refine hK6 _ _ ?_; try clear hK6 K6
     refine zaz ?_
     refine yab ?_
     have hld : s.loadM = (zM, some 3) := by
      unfold St.loadM
      rw [if_neg c10, if_pos hgo]
     rw [hld]
     refine ⟨[_, _], ⟨⟨_, rfl, zaC Try.underlying27 rfl sz27 hbA bdA⟩, rfl, trivial⟩, _, Le.refl _, lhA, .slice none 0 0, none, ?_, OwnS.nil _ _ _, fun r hr => by cases hr⟩
     rfl
   ·first
    |(exfalso; exact cnA c16; done)
    |skip
     have hgo : s.gone = false := by simpa using c16
     refine zau ?_
     refine yab ?_
     refine hK2 _ _ ?_; try clear hK2 K2
     refine zac (fun K7 hK7 => ?_)
     refine zaa ?_
     refine zab (fun K hK r => ?_)
     refine ybD ?_
     intro b4 hb4
     try have n4_b2 : b2 ≠ b4 := zaf hbA hb4
     have f4_H : H b4 = none := zag lhA hb4
     refine yaf ?_
     refine hK _ _ ?_; clear hK K
     refine zad ?_
     refine yab ?_
     refine hK7 _ _ ?_; try clear hK7 K7
     refine zac (fun K8 hK8 => ?_)
     refine zac (fun K9 hK9 => ?_)
     refine zaa ?_
     refine zah rfl ?_
     refine zad ?_
     refine yab ?_
     refine hK9 _ _ ?_; try clear hK9 K9
     refine zaB ?_
     refine CW_loop (fun m_ e H_ => ∃ (k : Nat) (va : Option Addr) (vc : Nat) (rs : Option Nat), k ≤ 2 ∧ m_ = 2 - k ∧ Le (H.upd b2 (.cells #[.int .i64 0, .int .i64 0, .int .i64 0, .int .i64 0, .int .i64 0, .slice none 0 0] 27)) H_ ∧ H_ b4 = some (.cells #[.int .i64 (s.bestN k).gen, .int .i64 (s.bestN k).ep, .int .i64 (s.bestN k).ba, .int .i64 (s.bestN k).ar, .int .i64 (s.bestN k).ln, .slice va (s.bestN k).hd.length vc] 27) ∧ OwnS H_ 3 1 (.slice va (s.bestN k).hd.length vc) (s.bestN k).hd.length (i64s (s.bestN k).hd) rs ∧ (∀ r, rs = some r → (H.upd b2 (.cells #[.int .i64 0, .int .i64 0, .int .i64 0, .int .i64 0, .int .i64 0, .slice none 0 0] 27)) r = none ∧ r ≠ b4) ∧ Env.has [(0, .pointer (some ⟨p, 0, none⟩)), (2, .pointer (some ⟨b2, 0, none⟩)), (4, .pointer (some ⟨b4, 0, none⟩)), (21, .int .i64 k)] e) (2) ?_ ?_
     ·skip
      exact ⟨0, none, 0, none, by omega, by omega, le_upd _ _ _ hb4, zan _ _ _, OwnS.nil _ _ _, (fun r hr => by cases hr), rfl, rfl, rfl, rfl, trivial⟩
     intro m_ e_ H_ hI_
     obtain ⟨k, va, vc, rs, hk, rfl, lHB, k4, hO, hrs, he⟩ := hI_
     refine CW_env he.sub ?_; clear he e_
     have hlH : Le H H_ := Le.trans (le_upd _ _ _ hb2) lHB
     have k2 := lHB b2 _ (zan _ _ _)
     have nb24 : b2 ≠ b4 := fun e => by rw [← e, zan] at hb4; cases hb4
     have g4 : (H.upd b2 (.cells #[.int .i64 0, .int .i64 0, .int .i64 0, .int .i64 0, .int .i64 0, .slice none 0 0] 27)) b4 = none := hb4
     refine zac (fun K10 hK10 => ?_)
     refine zaa ?_
     refine zab (fun K hK r => ?_)
     refine yac ?_
     refine hK _ _ ?_; clear hK K
     refine zad ?_
     refine yab ?_
     refine hK10 _ _ ?_; try clear hK10 K10
     refine zac (fun K11 hK11 => ?_)
     refine zar (fun r => rfl) (fun c22 => ?_) (fun c22 => ?_)
     ·first
      |(exfalso; exact cnA c22; done)
      |skip
       (try replace c22 := yad c22)
       refine zau ?_
       refine yab ?_
       refine hK11 _ _ ?_; try clear hK11 K11
       refine zac (fun K12 hK12 => ?_)
       refine zaB ?_
       refine zac (fun K13 hK13 => ?_)
       refine zaa ?_
       refine zah rfl ?_
       refine zaj rfl ?_
       refine zad ?_
       refine yab ?_
       refine hK13 _ _ ?_; try clear hK13 K13
       refine zac (fun K14 hK14 => ?_)
       refine zaa ?_
       refine zah rfl ?_
       refine zah rfl ?_
       refine zab (fun K hK r => ?_)
       simp only [zaF _ bd65, List.map_toArray, List.map_cons, List.map_nil, eX, ↓reduceIte, Nat.reduceEqDiff, Int.reduceToNat]
       refine (readL (hA.more hlH) hs (by omega) 0 k).mono ?_
       rintro v H' ⟨rfl, hq⟩
       have hq := hq.symm
       subst hq
       rw [rd_fine hgo (by omega) (by omega)]
       refine yaf ?_
       refine hK _ _ ?_; clear hK K
       refine zah rfl ?_
       refine zab (fun K hK r => ?_)
       refine yah ?_
       refine hK _ _ ?_; clear hK K
       refine zab (fun K hK r => ?_)
       refine yah ?_
       refine hK _ _ ?_; clear hK K
       refine zab (fun K hK r => ?_)
       refine yaX ?_
       intro b6 hb6
       try have n6_b2 : b2 ≠ b6 := zaf hbA hb6
       try have n6_b4 : b4 ≠ b6 := zaf hbA hb6
       have f6_H : H b6 = none := zag lhA hb6
       refine yaf ?_
       refine hK _ _ ?_; clear hK K
       refine zaI rfl (zas) (fun K hK r => ?_)
       refine yaD ?_
       refine zak sz30 (by simp [Sec.h]) hbA (by simp [Sec.h]) (PlainL.ints _ _) (by decide) ?_
       try simp only [upd_upd]
       refine hK _ _ ?_; clear hK K
       refine zaj rfl ?_
       refine zad ?_
       refine yab ?_
       refine hK14 _ _ ?_; try clear hK14 K14
       refine zac (fun K15 hK15 => ?_)
       refine zac (fun K16 hK16 => ?_)
       refine zaa ?_
       refine zah rfl ?_
       refine zab (fun K hK r => ?_)
       refine yae ?_
       first | rw [b_err_neq _ _ Try.underlying32] | (rw [e_neq _ _ _ _ (by simp), zaM]; first | rw [q_iface_nil _ _ _ Try.underlying32] | rw [q_nil_iface _ _ _ Try.underlying32] | rw [q_nil_nil _ _ _ Try.underlying32])
       refine yaf ?_
       refine hK _ _ ?_; clear hK K
       refine zad ?_
       refine yab ?_
       refine hK16 _ _ ?_; try clear hK16 K16
       refine zar (fun r => rfl) (fun c31 => ?_) (fun c31 => ?_)
       ·exfalso; exact cnA c31
       refine zau ?_
       refine yab ?_
       refine hK15 _ _ ?_; try clear hK15 K15
       refine zac (fun K17 hK17 => ?_)
       refine zaa ?_
       refine zab (fun K hK r => ?_)
       refine yap ?_
       refine zax Try.underlying30 rfl sz30 hbA (by simp [Sec.h]) ?_
       refine hK _ _ ?_; clear hK K
       refine zab (fun K hK r => ?_)
       simp only [zaF _ bd15, List.map_toArray, List.map_cons, List.map_nil, eX, ↓reduceIte, Nat.reduceEqDiff, Int.reduceToNat]
       refine (mOpen_ok _ (s.rd 0 k).1.b (s.rd 0 k).1.h (hby k (by omega))).mono ?_
       rintro v36 H36 ⟨l36, x36, rs36, rfl, ho36, hr36⟩
       obtain ⟨a36, c36, rfl⟩ := ho36.holds.form
       have l36b : Le H_ H36 := Le.trans (le_upd _ _ _ hb6) l36
       have lB36 := Le.trans lHB l36b
       have k36_4 := l36b b4 _ k4
       have k36_2 := lB36 b2 _ (zan _ _ _)
       have hO36 := hO.le l36b
       have lH36 : Le H H36 := Le.trans hlH l36b
       have n364 : rs36 ≠ some b4 := fun e => by
        have := zag (le_upd _ _ _ hb6) (hr36 _ e)
        rw [k4] at this; cases this
       have hrs36 : ∀ r, rs36 = some r → (H.upd b2 (.cells #[.int .i64 0, .int .i64 0, .int .i64 0, .int .i64 0, .int .i64 0, .slice none 0 0] 27)) r = none ∧ r ≠ b4 := fun r e => ⟨zag lHB (zag (le_upd _ _ _ hb6) (hr36 r e)), fun e2 => n364 (by rw [e, e2])⟩
       obtain ⟨og0, og1⟩ := opMv_gen (L := (s.rd 0 k).1.b)
       have htm : (opMv (s.rd 0 k).1.b).gen.tmod 2 = (opMv (s.rd 0 k).1.b).gen % 2 := Int.tmod_eq_emod_of_nonneg og0
       refine yaf ?_
       refine hK _ _ ?_; clear hK K
       refine zah rfl ?_
       refine zab (fun K hK r => ?_)
       refine yah ?_
       refine hK _ _ ?_; clear hK K
       refine zab (fun K hK r => ?_)
       refine yah ?_
       refine hK _ _ ?_; clear hK K
       refine zab (fun K hK r => ?_)
       refine ybD ?_
       intro b8 hb8
       try have n8_b2 : b2 ≠ b8 := zaf hbA hb8
       try have n8_b4 : b4 ≠ b8 := zaf hbA hb8
       try have n8_b6 : b6 ≠ b8 := zaf hbA hb8
       have f8_H : H b8 = none := zag lhA hb8
       refine yaf ?_
       refine hK _ _ ?_; clear hK K
       refine zaI rfl (zas) (fun K hK r => ?_)
       refine yaD ?_
       first | refine zak sz27 bdA hbA bdA plA (by decide) ?_ | refine zal sz27 bdA hbA bdA plA (by decide) ?_
       refine yaf ?_
       refine hK _ _ ?_; clear hK K
       refine zaj rfl ?_
       refine zad ?_
       refine yab ?_
       refine hK17 _ _ ?_; try clear hK17 K17
       refine zac (fun K18 hK18 => ?_)
       refine zaa ?_
       refine zah rfl ?_
       refine zab (fun K hK r => ?_)
       refine yae ?_
       first | rw [b_err_eql _ _ Try.underlying32] | (rw [e_eql _ _ _ _ (by simp), zaM]; first | rw [q_iface_nil _ _ _ Try.underlying32] | rw [q_nil_iface _ _ _ Try.underlying32] | rw [q_nil_nil _ _ _ Try.underlying32])
       refine yaf ?_
       refine hK _ _ ?_; clear hK K
       refine zah rfl ?_
       (first | refine zaA (d := 41) rfl (fun g41 => ?_) (fun g41 => ?_) | skip)
       all_goals try (exfalso; exact cnA g41)
       all_goals (try replace g41 := yad g41)
       all_goals
        refine yaf ?_
        first
        |refine yGT (fun K hK r => ?_)
         refine ybv ?_
         refine hK _ _ ?_; clear hK K
        |refine yGF ?_
         refine yaj ?_
        first
        |refine yGT (fun K hK r => ?_)
         refine yap ?_
         refine zae Try.underlying3 rfl hbA ldA ?_
         refine yaf ?_
         refine hK _ _ ?_; clear hK K
        |refine yGF ?_
         refine yaj ?_
        first
        |refine yGT (fun K hK r => ?_)
         refine ybP ?_
         rw [htm]
         refine hK _ _ ?_; clear hK K
        |refine yGF ?_
         refine yaj ?_
        first
        |refine yGT (fun K hK r => ?_)
         refine yai ?_
         refine hK _ _ ?_; clear hK K
        |refine yGF ?_
         refine yaj ?_
        first
        |refine yGT (fun K hK r => ?_)
         refine yas ?_
         refine hK _ _ ?_; clear hK K
        |refine yGF ?_
         refine yaj ?_
        refine zab (fun K hK r => ?_)
        refine yal ?_
        refine hK _ _ ?_; clear hK K
        refine zah rfl ?_
        (first | refine zaA (d := 48) rfl (fun g48 => ?_) (fun g48 => ?_) | skip)
        all_goals try (exfalso; exact cnA g48)
        all_goals (try replace g48 := yad g48)
        all_goals
         refine yaf ?_
         first
         |refine yGT (fun K hK r => ?_)
          refine ybv ?_
          refine hK _ _ ?_; clear hK K
         |refine yGF ?_
          refine yaj ?_
         first
         |refine yGT (fun K hK r => ?_)
          refine yap ?_
          refine zae Try.underlying3 rfl hbA ldA ?_
          refine yaf ?_
          refine hK _ _ ?_; clear hK K
         |refine yGF ?_
          refine yaj ?_
         first
         |refine yGT (fun K hK r => ?_)
          refine ybv ?_
          refine hK _ _ ?_; clear hK K
         |refine yGF ?_
          refine yaj ?_
         first
         |refine yGT (fun K hK r => ?_)
          refine yap ?_
          refine zae Try.underlying3 rfl hbA ldA ?_
          refine yaf ?_
          refine hK _ _ ?_; clear hK K
         |refine yGF ?_
          refine yaj ?_
         first
         |refine yGT (fun K hK r => ?_)
          refine yaZ ?_
          refine hK _ _ ?_; clear hK K
         |refine yGF ?_
          refine yaj ?_
         refine zab (fun K hK r => ?_)
         refine yal ?_
         refine hK _ _ ?_; clear hK K
         refine zad ?_
         refine yab ?_
         refine hK18 _ _ ?_; try clear hK18 K18
         refine zar (fun r => rfl) (fun c54 => ?_) (fun c54 => ?_)
         ·first
          |(exfalso; exact cnA c54; done)
          |skip
           skip
           refine zaa ?_
           refine zab (fun K hK r => ?_)
           refine yap ?_
           first | refine zax Try.underlying27 rfl sz27 hbA bdA ?_ | refine zaq Try.underlying27 rfl sz27 hbA bdA ?_
           refine ybg ?_
           refine yaf ?_
           refine hK _ _ ?_; clear hK K
           refine zaI rfl (zas) (fun K hK r => ?_)
           refine yaD ?_
           first | refine zak sz27 bdA hbA bdA plA (by decide) ?_ | refine zal sz27 bdA hbA bdA plA (by decide) ?_
           refine yaf ?_
           refine hK _ _ ?_; clear hK K
           refine zad ?_
           refine yab ?_
           refine hK12 _ _ ?_; try clear hK12 K12
           refine zaa ?_
           refine zab (fun K hK r => ?_)
           refine yaq ?_
           refine hK _ _ ?_; clear hK K
           refine zah rfl ?_
           refine zad ?_
           refine yab ?_
           have hbk : s.bestN (k + 1) = pick (s.bestN k) (s.rd 0 k).1.b k := rfl
           first
           |(have hyes : opMe (s.rd 0 k).1.b = none ∧ (opMv (s.rd 0 k).1.b).gen % 2 = (k : Int) ∧ (s.bestN k).gen < (opMv (s.rd 0 k).1.b).gen := ⟨Option.isNone_iff_eq_none.1 g41, g48, by simpa using c54⟩
             rw [pick_yes hyes] at hbk
             refine ⟨2 - (k + 1), by omega, k + 1, a36, c36, rs36, by omega, rfl, ?_, ?_, ?_, hrs36, rfl, rfl, rfl, rfl, trivial⟩
             ·exact zaw ((zaw lB36 (zag lB36 hb8))) g4
             ·rw [hbk]; exact zan _ _ _
             ·rw [hbk]; exact (ho36.make hb8).upd n364)
           |(have hno : ¬ (opMe (s.rd 0 k).1.b = none ∧ (opMv (s.rd 0 k).1.b).gen % 2 = (k : Int) ∧ (s.bestN k).gen < (opMv (s.rd 0 k).1.b).gen) := by
              rintro ⟨h1, h2, h3⟩
              first
              |(rw [h1] at g41; cases g41; done)
              |(exact g48 h2; done)
              |(rw [decide_eq_true h3] at c54; cases c54; done)
              |(exact c54 h3; done)
             rw [pick_no hno] at hbk
             refine ⟨2 - (k + 1), by omega, k + 1, va, vc, rs, by omega, rfl, ?_, ?_, ?_, hrs, rfl, rfl, rfl, rfl, trivial⟩
             ·exact zaw lB36 (zag lB36 hb8)
             ·rw [hbk]; exact (zap _ _ (zaf k36_4 hb8)).trans k36_4
             ·rw [hbk]; exact hO36.make hb8)
         ·first
          |(exfalso; exact cnA c54; done)
          |skip
           skip
           refine zau ?_
           refine yab ?_
           refine hK12 _ _ ?_; try clear hK12 K12
           refine zaa ?_
           refine zab (fun K hK r => ?_)
           refine yaq ?_
           refine hK _ _ ?_; clear hK K
           refine zah rfl ?_
           refine zad ?_
           refine yab ?_
           have hbk : s.bestN (k + 1) = pick (s.bestN k) (s.rd 0 k).1.b k := rfl
           first
           |(have hyes : opMe (s.rd 0 k).1.b = none ∧ (opMv (s.rd 0 k).1.b).gen % 2 = (k : Int) ∧ (s.bestN k).gen < (opMv (s.rd 0 k).1.b).gen := ⟨Option.isNone_iff_eq_none.1 g41, g48, by simpa using c54⟩
             rw [pick_yes hyes] at hbk
             refine ⟨2 - (k + 1), by omega, k + 1, a36, c36, rs36, by omega, rfl, ?_, ?_, ?_, hrs36, rfl, rfl, rfl, rfl, trivial⟩
             ·exact zaw ((zaw lB36 (zag lB36 hb8))) g4
             ·rw [hbk]; exact zan _ _ _
             ·rw [hbk]; exact (ho36.make hb8).upd n364)
           |(have hno : ¬ (opMe (s.rd 0 k).1.b = none ∧ (opMv (s.rd 0 k).1.b).gen % 2 = (k : Int) ∧ (s.bestN k).gen < (opMv (s.rd 0 k).1.b).gen) := by
              rintro ⟨h1, h2, h3⟩
              first
              |(rw [h1] at g41; cases g41; done)
              |(exact g48 h2; done)
              |(rw [decide_eq_true h3] at c54; cases c54; done)
              |(exact c54 h3; done)
             rw [pick_no hno] at hbk
             refine ⟨2 - (k + 1), by omega, k + 1, va, vc, rs, by omega, rfl, ?_, ?_, ?_, hrs, rfl, rfl, rfl, rfl, trivial⟩
             ·exact zaw lB36 (zag lB36 hb8)
             ·rw [hbk]; exact (zap _ _ (zaf k36_4 hb8)).trans k36_4
             ·rw [hbk]; exact hO36.make hb8)
     ·first
      |(exfalso; exact cnA c22; done)
      |skip
       (try replace c22 := yad c22)
       have hk2 : k = 2 := by omega
       subst hk2
       refine CW_exit ?_
       refine yab ?_
       refine hK8 _ _ ?_; try clear hK8 K8
       refine zac (fun K19 hK19 => ?_)
       refine zac (fun K20 hK20 => ?_)
       refine zaa ?_
       refine zab (fun K hK r => ?_)
       refine ybv ?_
       refine hK _ _ ?_; clear hK K
       refine zab (fun K hK r => ?_)
       refine yap ?_
       refine zae Try.underlying3 rfl hbA ldA ?_
       refine yaf ?_
       refine hK _ _ ?_; clear hK K
       refine zab (fun K hK r => ?_)
       refine yas ?_
       refine hK _ _ ?_; clear hK K
       refine zad ?_
       refine yab ?_
       refine hK20 _ _ ?_; try clear hK20 K20
       refine zar (fun r => rfl) (fun c59 => ?_) (fun c59 => ?_)
       ·first
        |(exfalso; exact cnA c59; done)
        |skip
         (try replace c59 := yad c59)
         refine zac (fun K21 hK21 => ?_)
         refine zaa ?_
         refine zab (fun K hK r => ?_)
         refine ybE ?_
         refine ybe ?_
         refine yaf ?_
         refine hK _ _ ?_; clear hK K
         refine zab (fun K hK r => ?_)
         refine yaF ?_
         refine hK _ _ ?_; clear hK K
         refine zaI rfl (zas) (fun K hK r => ?_)
         refine yaD ?_
         first | refine zak sz27 bdA hbA bdA plA (by decide) ?_ | refine zal sz27 bdA hbA bdA plA (by decide) ?_
         refine yaf ?_
         refine hK _ _ ?_; clear hK K
         refine zaj rfl ?_
         refine zad ?_
         refine yab ?_
         refine hK21 _ _ ?_; try clear hK21 K21
         refine zaz ?_
         refine yab ?_
         have hld : s.loadM = (zM, some 9) := by
          unfold St.loadM
          rw [if_neg c10, if_neg (by rw [hgo]; simp), if_pos c59]
         rw [hld]
         refine ⟨[_, _], ⟨⟨_, rfl, zaC Try.underlying27 rfl sz27 hbA bdA⟩, rfl, trivial⟩, _, Le.refl _, lhA, .slice none 0 0, none, ?_, OwnS.nil _ _ _, fun r hr => by cases hr⟩
         rfl
       ·first
        |(exfalso; exact cnA c59; done)
        |skip
         (try replace c59 := yad c59)
         refine zau ?_
         refine yab ?_
         refine hK19 _ _ ?_; try clear hK19 K19
         refine zac (fun K22 hK22 => ?_)
         refine zaa ?_
         refine zab (fun K hK r => ?_)
         refine yap ?_
         first | refine zax Try.underlying27 rfl sz27 hbA bdA ?_ | refine zaq Try.underlying27 rfl sz27 hbA bdA ?_
         refine ybg ?_
         refine yaf ?_
         refine hK _ _ ?_; clear hK K
         refine zaI rfl (zas) (fun K hK r => ?_)
         refine yaD ?_
         first | refine zak sz27 bdA hbA bdA plA (by decide) ?_ | refine zal sz27 bdA hbA bdA plA (by decide) ?_
         refine yaf ?_
         refine hK _ _ ?_; clear hK K
         refine zaj rfl ?_
         refine zad ?_
         refine yab ?_
         refine hK22 _ _ ?_; try clear hK22 K22
         refine zaz ?_
         refine yab ?_
         have hld : s.loadM = (s.bestN 2, none) := by
          unfold St.loadM
          rw [if_neg c10, if_neg (by rw [hgo]; simp), if_neg c59]
         rw [hld]
         refine ⟨[_, _], ⟨⟨_, rfl, zaC Try.underlying27 rfl sz27 hbA bdA⟩, rfl, trivial⟩, _, Le.refl _, lhA, .slice va (s.bestN 2).hd.length vc, rs, ?_, hO.upd (fun e => by have := (hrs _ e).1; rw [zan] at this; cases this), fun r e => zag (le_upd _ _ _ hb2) (hrs r e).1⟩
         rfl
end Go.Proofs.Ytigofhhonnbkmaa.HL
end
section
namespace Go.Proofs.Ytigofhhonnbkmaa.HL
open Go Go.Proofs
set_option linter.unusedSimpArgs false
set_option linter.unusedVariables false
attribute [local irreducible] Lt Lq CW OW TW CallH
theorem lastW_app (w : Wt) (i : Int) : ∀ l : List Wt, lastW (l ++ [w]) i = if w.at_ = i then some w.x else lastW l i
  | [] => by
    show (match lastW [] i with | some x => some x | none => if w.at_ = i then some w.x else none) = _
    rfl
  | v :: r => by
    show (match lastW (r ++ [w]) i with | some x => some x | none => if v.at_ = i then some v.x else none) = _
    rw [lastW_app w i r]
    by_cases h : w.at_ = i
    · simp only [if_pos h]
    · simp only [if_neg h]; rfl
theorem stN_all (ws : List Wt) (s : Int → Sec) : ∀ n, n ≤ ws.length → ∀ i, stN (fun _ => some 0) ws s n i = (lastW (ws.take n) i).getD (s i)
  | 0, _, i => rfl
  | n + 1, hn, i => by
    have e : ws.take (n + 1) = ws.take n ++ [ws.getD n default] := by
      rw [List.take_add_one, List.getElem?_eq_getElem (by omega), List.getD_eq_getElem?_getD, List.getElem?_eq_getElem (by omega)]; rfl
    rw [e, lastW_app]
    show (if i = (ws.getD n default).at_ then torn (ws.getD n default).x _ 0 else stN (fun _ => some 0) ws s n i) = _
    by_cases h : i = (ws.getD n default).at_
    · rw [if_pos h, if_pos h.symm]; simp [torn]
    · rw [if_neg h, if_neg (Ne.symm h)]; exact stN_all ws s n (by omega) i
abbrev St.r0 (s : St) (z : Int) : Sec := (s.dv.getD 0 default).read z
structure Up (s : St) (sz : Int) : Prop where
  ar : s.armed = false
  go : s.gone = false
  len : 1 ≤ s.dv.length
  sz : (s.dv.getD 0 default).size = sz
theorem Up.sz0 {s : St} {z : Int} (h : Up s z) : s.sz 0 = z := by
  have := h.len
  unfold St.sz
  rw [if_pos (by omega)]
  exact h.sz
theorem Up.step {s : St} {z : Int} (h : Up s z) : s.step.2 = true ∧ s.step.1.dv = s.dv ∧ s.step.1.armed = false ∧ s.step.1.gone = false := by
  unfold St.step
  rw [if_neg (by rw [h.ar, h.go]; simp)]
  exact ⟨rfl, rfl, h.ar, h.go⟩
theorem Up.wr {s : St} {sz : Int} (h : Up s sz) {i : Int} (h0 : 0 ≤ i) (h1 : i < sz) (x : Sec) : (s.wr 0 i x).2 = none ∧ Up (s.wr 0 i x).1 sz ∧ ∀ z, (s.wr 0 i x).1.r0 z = if z = i then x else s.r0 z := by
  obtain ⟨e1, e2, e3, e4⟩ := h.step
  have hl := h.len
  rcases wr_cases s 0 i x with ⟨_, _, hh⟩ | ⟨_, _, hh, _⟩ | ⟨a1, a2, _, _⟩
  · exfalso
    have : s.has 0 i = true := by
      unfold St.has
      rw [Bool.and_eq_true, decide_eq_true_eq, decide_eq_true_eq]
      exact ⟨⟨Int.le_refl _, by omega⟩, h0, by rw [show (0 : Int).toNat = 0 from rfl, h.sz]; exact h1⟩
    rw [hh] at this; cases this
  · rw [e1] at hh; cases hh
  · have hd : (s.wr 0 i x).1.dv.getD 0 default = (s.dv.getD 0 default).put ⟨i, x⟩ := by
      rw [a1]
      show (s.dv.set (0 : Int).toNat _).getD 0 default = _
      rw [getD_set, if_pos ⟨rfl, by show 0 < _; omega⟩]; rfl
    refine ⟨a2, ⟨by rw [a1]; exact e3, by rw [a1]; exact e4, by rw [a1]; simp; omega, by rw [hd]; exact h.sz⟩, fun z => ?_⟩
    show ((s.wr 0 i x).1.dv.getD 0 default).read z = _
    rw [hd]
    show (lastW ((s.dv.getD 0 default).wait ++ [⟨i, x⟩]) z).getD _ = _
    rw [lastW_app]
    by_cases e : z = i
    · rw [if_pos e, if_pos e.symm]; rfl
    · rw [if_neg e, if_neg (Ne.symm e)]; rfl
theorem Up.fl {s : St} {sz : Int} (h : Up s sz) : (s.fl 0).2 = none ∧ Up (s.fl 0).1 sz ∧ ((s.fl 0).1.dv.getD 0 default).wait = [] ∧ ∀ z, (s.fl 0).1.r0 z = s.r0 z := by
  obtain ⟨e1, e2, e3, e4⟩ := h.step
  have hl := h.len
  rcases fl_cases s 0 with ⟨_, _, hh⟩ | ⟨_, _, hh, _⟩ | ⟨a1, a2, _, _⟩
  · exact absurd ⟨Int.le_refl _, by omega⟩ hh
  · rw [e1] at hh; cases hh
  · have hd : (s.fl 0).1.dv.getD 0 default = (s.dv.getD 0 default).settle (fun _ => some 0) := by
      rw [a1]
      show (s.dv.set (0 : Int).toNat _).getD 0 default = _
      rw [getD_set, if_pos ⟨rfl, by show 0 < _; omega⟩]; rfl
    refine ⟨a2, ⟨by rw [a1]; exact e3, by rw [a1]; exact e4, by rw [a1]; simp; omega, by rw [hd]; exact h.sz⟩, by rw [hd]; rfl, fun z => ?_⟩
    show ((s.fl 0).1.dv.getD 0 default).read z = _
    rw [hd]
    show stN (fun _ => some 0) _ _ _ z = _
    rw [stN_all _ _ _ (Nat.le_refl _), List.take_of_length_le (Nat.le_refl _)]; rfl
theorem Up.rd {s : St} {sz : Int} (h : Up s sz) {z : Int} (h0 : 0 ≤ z) (h1 : z < sz) : s.rd 0 z = (s.r0 z, none) := by
  have hl := h.len
  unfold St.rd
  rw [if_neg (by rw [h.go]; simp), if_pos]
  · rfl
  · unfold St.has
    rw [Bool.and_eq_true, decide_eq_true_eq, decide_eq_true_eq]
    exact ⟨⟨Int.le_refl _, by omega⟩, h0, by rw [show (0 : Int).toNat = 0 from rfl, h.sz]; exact h1⟩
theorem St.saveM_cases (s : St) (m : Mf) : s.saveM m = (s, some 2) ∨ s.saveM m = (s, some 1) ∨ s.saveM m = s.wr 0 (m.gen % 2) m.sec ∨ s.saveM m = (s.wr 0 (m.gen % 2) m.sec).1.fl 0 := by
  cases hg : m.good with
  | false => exact .inl (saveM_no hg)
  | true =>
    by_cases hz : s.sz 0 < 2
    · exact .inr (.inl (saveM_few hg hz))
    · cases he : (s.wr 0 (m.gen % 2) m.sec).2 with
      | none => exact .inr (.inr (.inr (saveM_all hg hz he)))
      | some e => exact .inr (.inr (.inl (saveM_err hg hz he)))
theorem Sm.saveM {n : Nat} {s : St} (h : Sm n s) (m : Mf) : Sm (n + 1) (s.saveM m).1 := by
  rcases s.saveM_cases m with e | e | e | e <;> rw [e]
  · exact h.up (by omega)
  · exact h.up (by omega)
  · exact h.wr _ _ _
  · exact (h.wr _ _ _).fl _
theorem Up.saveM {s : St} {sz : Int} (h : Up s sz) (h2 : 2 ≤ sz) {m : Mf} (hm : m.Ok) : (s.saveM m).2 = none ∧ Up (s.saveM m).1 sz ∧ ((s.saveM m).1.dv.getD 0 default).wait = [] ∧ ∀ z, (s.saveM m).1.r0 z = if z = m.gen % 2 then m.sec else s.r0 z := by
  have := hm.g
  obtain ⟨a1, a2, a3⟩ := h.wr (i := m.gen % 2) (by omega) (by omega) m.sec
  rw [saveM_all (Mf.good_iff.2 hm) (by rw [h.sz0]; omega) a1]
  obtain ⟨q1, q2, q3, q4⟩ := a2.fl
  exact ⟨q1, q2, q3, fun z => by rw [q4, a3]⟩
theorem Up.best {s : St} {sz : Int} (h : Up s sz) (h2 : 2 ≤ sz) : s.bestN 2 = HL.pick (HL.pick zM (s.r0 0).b 0) (s.r0 1).b 1 := by
  show HL.pick (HL.pick zM (s.rd 0 (0 : Nat)).1.b (0 : Nat)) (s.rd 0 (1 : Nat)).1.b (1 : Nat) = _
  rw [h.rd (by omega) (by omega), h.rd (by omega) (by omega)]
  rfl
theorem Up.loadM {s : St} {sz : Int} (h : Up s sz) (h2 : 2 ≤ sz) {m : Mf} (hb : HL.pick (HL.pick zM (s.r0 0).b 0) (s.r0 1).b 1 = m) (hg : m.gen ≠ 0) : s.loadM = (m, none) := by
  unfold St.loadM
  rw [if_neg (by rw [h.sz0]; omega), if_neg (by rw [h.go]; simp), h.best h2, hb, if_neg hg]
theorem pick_seal {best m : Mf} (hm : m.Ok) {i : Int} (hi : m.gen % 2 = i) (hb : best.gen < m.gen) : HL.pick best m.sec.b i = m := by
  have h := opM_yes (opM_seal hm)
  have e : opMv m.sec.b = m := h.1
  have e2 : opMe m.sec.b = none := h.2
  rw [pick_yes ⟨e2, by rw [e]; exact hi, by rw [e]; exact hb⟩, e]
theorem zero_byte : ByteL Sec.zero.b := fun x hx => by
  have : x ∈ List.replicate 64 (0 : Int) := hx
  rw [List.mem_replicate] at this
  rw [this.2]; decide
theorem wr_steps {s : St} {sz : Int} (h : Up s sz) {i : Int} (h0 : 0 ≤ i) (h1 : i < sz) (x : Sec) : (s.wr 0 i x).1.steps = IntKind.i64.wrap (s.steps + 1) := by
  have hl := h.len
  have hh : s.has 0 i = true := by
    unfold St.has
    rw [Bool.and_eq_true, decide_eq_true_eq, decide_eq_true_eq]
    exact ⟨⟨Int.le_refl _, by omega⟩, h0, by rw [show (0 : Int).toNat = 0 from rfl, h.sz]; exact h1⟩
  unfold St.wr
  rw [if_pos hh]
  have : s.step = ({ s with left := IntKind.i64.wrap (s.left - 1), steps := IntKind.i64.wrap (s.steps + 1) }, true) := by
    unfold St.step
    rw [if_neg (by rw [h.ar, h.go]; simp)]
  rw [this]
theorem fl_steps {s : St} {sz : Int} (h : Up s sz) : (s.fl 0).1.steps = IntKind.i64.wrap (s.steps + 1) := by
  have hl := h.len
  unfold St.fl
  rw [if_pos ⟨Int.le_refl _, by omega⟩]
  have : s.step = ({ s with left := IntKind.i64.wrap (s.left - 1), steps := IntKind.i64.wrap (s.steps + 1) }, true) := by
    unfold St.step
    rw [if_neg (by rw [h.ar, h.go]; simp)]
  rw [this]
theorem saveM_steps {s : St} {sz : Int} (h : Up s sz) (h2 : 2 ≤ sz) {m : Mf} (hm : m.Ok) : (s.saveM m).1.steps = IntKind.i64.wrap (IntKind.i64.wrap (s.steps + 1) + 1) := by
  have := hm.g
  obtain ⟨a1, a2, a3⟩ := h.wr (i := m.gen % 2) (by omega) (by omega) m.sec
  rw [saveM_all (Mf.good_iff.2 hm) (by rw [h.sz0]; omega) a1, fl_steps a2, wr_steps h (by omega) (by omega)]
def alM (k : Nat) : Mf := ⟨4 + k, 1, 0, 0, 0, [4 + k]⟩
theorem alM_ok {k : Nat} (h : k < 2) : (alM k).Ok := Mf.good_iff.1 (by rcases (show k = 0 ∨ k = 1 by omega) with rfl | rfl <;> decide)
def alS : Nat → St
  | 0 => newSt [2]
  | k + 1 => ((alS k).saveM (alM k)).1
theorem al_up : ∀ k, k ≤ 2 → Up (alS k) 2 ∧ (alS k).steps = 2 * k
  | 0, _ => ⟨⟨rfl, rfl, by decide, rfl⟩, rfl⟩
  | k + 1, h => by
    obtain ⟨h1, h2⟩ := al_up k (by omega)
    have h3 := h1.saveM (by omega) (alM_ok (k := k) (by omega))
    refine ⟨h3.2.1, ?_⟩
    show ((alS k).saveM (alM k)).1.steps = _
    rw [saveM_steps h1 (by omega) (alM_ok (by omega)), h2, wrap_i64 (2 * (k : Int) + 1) (by omega) (by omega), wrap_i64 _ (by omega) (by omega)]
    omega
theorem al_sm : ∀ k, Sm k (alS k)
  | 0 => Sm.new (l := [2]) (by decide)
  | k + 1 => (al_sm k).saveM _
theorem al_none {k : Nat} (h : k < 2) : ((alS k).saveM (alM k)).2 = none := ((al_up k (by omega)).1.saveM (by omega) (alM_ok h)).1
theorem al_r0 : (alS 2).r0 0 = (alM 0).sec ∧ (alS 2).r0 1 = (alM 1).sec := by
  have h0 := (al_up 0 (by omega)).1.saveM (by omega) (alM_ok (k := 0) (by omega))
  have h1 := (al_up 1 (by omega)).1.saveM (by omega) (alM_ok (k := 1) (by omega))
  refine ⟨?_, ?_⟩
  · show ((alS 1).saveM (alM 1)).1.r0 0 = _
    rw [h1.2.2.2, if_neg (by decide)]
    show ((alS 0).saveM (alM 0)).1.r0 0 = _
    rw [h0.2.2.2, if_pos (by decide)]
  · show ((alS 1).saveM (alM 1)).1.r0 1 = _
    rw [h1.2.2.2, if_pos (by decide)]
theorem al_load : (alS 2).loadM = (⟨5, 1, 0, 0, 0, [5]⟩, none) := by
  show _ = (alM 1, none)
  refine (al_up 2 (by omega)).1.loadM (by omega) ?_ (by decide)
  rw [al_r0.1, al_r0.2, pick_seal (best := zM) (m := alM 0) (alM_ok (by omega)) (by decide) (by decide), pick_seal (m := alM 1) (alM_ok (by omega)) (by decide) (by decide)]
theorem al_byte (k : Nat) (h : k < 2) : ByteL ((alS 2).rd 0 k).1.b := by
  rw [(al_up 2 (by omega)).1.rd (by omega) (by omega)]
  rcases (show k = 0 ∨ k = 1 by omega) with rfl | rfl
  · rw [show ((0 : Nat) : Int) = 0 from rfl, al_r0.1]; exact (alM 0).seal_byte
  · rw [show ((1 : Nat) : Int) = 1 from rfl, al_r0.2]; exact (alM 1).seal_byte
end Go.Proofs.Ytigofhhonnbkmaa.HL
end
section
namespace Go.Proofs.Ytigofhhonnbkmaa.HL
open Go Go.Proofs
set_option linter.unusedSimpArgs false
set_option linter.unusedVariables false
attribute [local irreducible] Lt Lq CW OW TW CallH
theorem ybQ {p q : Prop} (h : q) (e : p = q := by simp only [zaF _ bd22, List.map_toArray, List.map_cons, List.map_nil, eX, ↓reduceIte, Nat.reduceEqDiff, Int.reduceToNat]; exact rfl) : p := e.mpr h
theorem ybR {p q : Prop} (h : q) (e : p = q := by simp only [zaF _ bd30, List.map_toArray, List.map_cons, List.map_nil, eX, ↓reduceIte, Nat.reduceEqDiff, Int.reduceToNat]; exact rfl) : p := e.mpr h
set_option maxRecDepth 100000 in
set_option maxHeartbeats 4000000 in
theorem alive_ok (H : Hp) : CallH Try.prog 7 #[] H (fun v H' => v = .bool true ∧ H' = H) := by
 refine zam (l := []) (rl := [.tmp 0]) (n := 53) Try.func7 rfl rfl rfl rfl rfl ?_
 refine yaa ?_
 refine zac (fun K1 hK1 => ?_)
 refine zaa ?_
 refine zaj rfl ?_
 refine zad ?_
 refine yab ?_
 refine hK1 _ _ ?_; try clear hK1 K1
 refine zac (fun K2 hK2 => ?_)
 refine zaa ?_
 refine zab (fun K hK r => ?_)
 refine yaT ?_
 refine zaJ (vs := [_]) Try.underlying22 sz3 zr3 rfl bsA (by first | decide | (simp; done)) ?_
 refine yaU ?_
 intro b6 hb6
 have f6_H : H b6 = none := zag lhA hb6
 refine yaf ?_
 refine hK _ _ ?_; clear hK K
 refine zab (fun K hK r => ?_)
 simp only [zaF _ bd19, List.map_toArray, List.map_cons, List.map_nil, eX, ↓reduceIte, Nat.reduceEqDiff, Int.reduceToNat]
 refine (newL _ _ _ [2] ⟨rfl, .inr ⟨b6, 0, 1, _, _, _, rfl, hbA, by simp, by simp⟩⟩ rfl (by decide)).mono ?_
 rintro v7 H7 ⟨p, F7, rfl, hA7⟩
 have hO7 := hA7.old
 have lH7 : Le H H7 := Le.trans (le_upd _ _ _ hb6) hO7
 have hA7' : Stn H H7 F7 p (alS 0) := hA7.less (le_upd _ _ _ hb6)
 refine yaf ?_
 refine hK _ _ ?_; clear hK K
 refine zah rfl ?_
 refine zab (fun K hK r => ?_)
 refine yah ?_
 refine hK _ _ ?_; clear hK K
 refine zab (fun K hK r => ?_)
 refine yah ?_
 refine hK _ _ ?_; clear hK K
 refine zaj rfl ?_
 refine zaj rfl ?_
 refine zad ?_
 refine yab ?_
 refine hK2 _ _ ?_; try clear hK2 K2
 refine zac (fun K3 hK3 => ?_)
 refine zac (fun K4 hK4 => ?_)
 refine zaa ?_
 refine zah rfl ?_
 refine zab (fun K hK r => ?_)
 refine yae ?_
 first | rw [b_err_neq _ _ Try.underlying32] | (rw [e_neq _ _ _ _ (by simp), zaM]; first | rw [q_iface_nil _ _ _ Try.underlying32] | rw [q_nil_iface _ _ _ Try.underlying32] | rw [q_nil_nil _ _ _ Try.underlying32])
 refine yaf ?_
 refine hK _ _ ?_; clear hK K
 refine zad ?_
 refine yab ?_
 refine hK4 _ _ ?_; try clear hK4 K4
 refine zar (fun r => rfl) (fun c11 => ?_) (fun c11 => ?_)
 ·exfalso; exact cnA c11
 refine zau ?_
 refine yab ?_
 refine hK3 _ _ ?_; try clear hK3 K3
 refine zac (fun K5 hK5 => ?_)
 refine zac (fun K6 hK6 => ?_)
 refine zaa ?_
 refine zaj rfl ?_
 refine zad ?_
 refine yab ?_
 refine hK6 _ _ ?_; try clear hK6 K6
 refine zaB ?_
 refine CW_loop (fun m_ e H_ => ∃ (k : Nat) (F : Hp), k ≤ 2 ∧ m_ = 2 - k ∧ Stn H H_ F p (alS k) ∧ Env.has [(1, .pointer (some ⟨p, 0, none⟩)), (3, .int .i64 (4 + k))] e) (2) ?_ ?_
 ·skip
  exact ⟨0, _, by omega, by omega, hA7', rfl, rfl, trivial⟩
 intro m_ e_ H_ hI_
 obtain ⟨k, F, hk, rfl, hA, he⟩ := hI_
 refine CW_env he.sub ?_; clear he e_
 have hHH := hA.old
 refine zac (fun K7 hK7 => ?_)
 refine zac (fun K8 hK8 => ?_)
 refine zaa ?_
 refine zah rfl ?_
 refine zab (fun K hK r => ?_)
 refine yac ?_
 refine hK _ _ ?_; clear hK K
 refine zad ?_
 refine yab ?_
 refine hK8 _ _ ?_; try clear hK8 K8
 refine zar (fun r => rfl) (fun c13 => ?_) (fun c13 => ?_)
 ·first
  |(exfalso; exact cnA c13; done)
  |skip
   (try replace c13 := yad c13)
   refine zau ?_
   refine yab ?_
   refine hK7 _ _ ?_; try clear hK7 K7
   refine zac (fun K9 hK9 => ?_)
   refine zaB ?_
   refine zac (fun K10 hK10 => ?_)
   refine zaa ?_
   refine zah rfl ?_
   refine zah rfl ?_
   refine zah rfl ?_
   refine zab (fun K hK r => ?_)
   refine yaT ?_
   refine zaJ (vs := [_]) Try.underlying22 sz3 zr3 rfl bsA (by first | decide | (simp; done)) ?_
   refine yaU ?_
   intro b19 hb19
   try have n19_b6 : b6 ≠ b19 := zaf hbA hb19
   have f19_H : H b19 = none := zag lhA hb19
   refine yaf ?_
   refine hK _ _ ?_; clear hK K
   refine zab (fun K hK r => ?_)
   refine ybE ?_
   rw [fill_one rfl clA bdA]
   rw [fill_one rfl clA bdA]
   rw [fill_one rfl clA bdA]
   refine ybe ?_
   refine yaf ?_
   refine hK _ _ ?_; clear hK K
   refine zab (fun K hK r => ?_)
   refine ybQ ?_
   have hA19 := hA.put (hA.fresh hb19) (.cells #[.int .i64 (4 + k)] 3)
   refine (saveL hA19 (al_sm k) (by omega) ⟨4 + k, 1, 0, 0, 0, [4 + k]⟩ (some ⟨b19, 0, none⟩) 1 ⟨rfl, .inr ⟨b19, 0, 1, _, _, _, rfl, zan _ _ _, by simp [alM], by simp [alM]⟩⟩ (by simp [alM])).mono ?_
   rintro v21 H21 ⟨rfl, F21, hS21'⟩
   have hS21 : Stn H H21 F21 p (alS (k + 1)) := hS21'.less (le_upd _ _ _ (zag hA.old hb19))
   rw [show ((alS k).saveM ⟨4 + k, 1, 0, 0, 0, [4 + k]⟩).2 = none from al_none (by omega)]
   refine yaf ?_
   refine hK _ _ ?_; clear hK K
   refine zab (fun K hK r => ?_)
   refine yae ?_
   first | rw [b_err_neq _ _ Try.underlying32] | (rw [e_neq _ _ _ _ (by simp), zaM]; first | rw [q_iface_nil _ _ _ Try.underlying32] | rw [q_nil_iface _ _ _ Try.underlying32] | rw [q_nil_nil _ _ _ Try.underlying32])
   refine yaf ?_
   refine hK _ _ ?_; clear hK K
   refine zad ?_
   refine yab ?_
   refine hK10 _ _ ?_; try clear hK10 K10
   refine zar (fun r => rfl) (fun c22 => ?_) (fun c22 => ?_)
   ·exfalso; exact cnA c22
   refine zau ?_
   refine yab ?_
   refine hK9 _ _ ?_; try clear hK9 K9
   refine zaa ?_
   refine zah rfl ?_
   refine zab (fun K hK r => ?_)
   refine yaq ?_
   refine hK _ _ ?_; clear hK K
   refine zaj rfl ?_
   refine zad ?_
   refine yab ?_
   exact ⟨2 - (k + 1), by omega, k + 1, F21, by omega, rfl, hS21, rfl, by first | rfl | (show some (Value.int _ _) = some (Value.int _ _); congr 2; omega), trivial⟩
 ·first
  |(exfalso; exact cnA c13; done)
  |skip
   (try replace c13 := yad c13)
   obtain rfl : k = 2 := by omega
   refine CW_exit ?_
   refine yab ?_
   refine hK5 _ _ ?_; try clear hK5 K5
   refine zac (fun K11 hK11 => ?_)
   refine zaa ?_
   refine zah rfl ?_
   refine zab (fun K hK r => ?_)
   refine ybR ?_
   refine (loadL hA (al_sm 2) (by omega) (fun k hk => al_byte k hk)).mono ?_
   rintro v25 H25 ⟨l25, x25, rs25, rfl, ho25, hr25⟩
   rw [al_load] at ho25 ⊢
   simp only [List.length_cons, List.length_nil, Nat.zero_add] at ho25
   obtain ⟨xa, xc, rfl⟩ := ho25.holds.form
   have lH25 : Le H H25 := Le.trans hA.old l25
   have hh25 := ho25.holds
   obtain ⟨bw, ow, qw, Tw, Fw, rfl, hbw, hsw, atw⟩ := hh25.at (by decide)
   try have n_bw_b6 : bw ≠ b6 := zaf hbw f6_H
   have e5 : i64s [5] = [.int .i64 5] := rfl
   rw [e5] at atw
   refine yaf ?_
   refine hK _ _ ?_; clear hK K
   refine zah rfl ?_
   refine zab (fun K hK r => ?_)
   refine yah ?_
   refine hK _ _ ?_; clear hK K
   refine zab (fun K hK r => ?_)
   refine yah ?_
   refine hK _ _ ?_; clear hK K
   refine zab (fun K hK r => ?_)
   refine ybD ?_
   intro b4 hb4
   try have n4_b6 : b6 ≠ b4 := zaf hbA hb4
   have f4_H : H b4 = none := zag lhA hb4
   have nw4 : bw ≠ b4 := zaf hbw hb4
   refine yaf ?_
   refine hK _ _ ?_; clear hK K
   refine zaI rfl (zas) (fun K hK r => ?_)
   refine yaD ?_
   first | refine zak sz27 bdA hbA bdA plA (by decide) ?_ | refine zal sz27 bdA hbA bdA plA (by decide) ?_
   refine yaf ?_
   refine hK _ _ ?_; clear hK K
   refine zaj rfl ?_
   refine zad ?_
   refine yab ?_
   refine hK11 _ _ ?_; try clear hK11 K11
   refine zac (fun K12 hK12 => ?_)
   refine zaa ?_
   refine zah rfl ?_
   refine zab (fun K hK r => ?_)
   refine yae ?_
   first | rw [b_err_eql _ _ Try.underlying32] | (rw [e_eql _ _ _ _ (by simp), zaM]; first | rw [q_iface_nil _ _ _ Try.underlying32] | rw [q_nil_iface _ _ _ Try.underlying32] | rw [q_nil_nil _ _ _ Try.underlying32])
   refine yaf ?_
   refine hK _ _ ?_; clear hK K
   refine zah rfl ?_
   (first | refine zaA (d := 30) rfl (fun g30 => ?_) (fun g30 => ?_) | skip)
   all_goals try (exfalso; exact cnA g30)
   all_goals (try replace g30 := yad g30)
   all_goals
    refine yaf ?_
    first
    |refine yGT (fun K hK r => ?_)
     refine ybv ?_
     refine hK _ _ ?_; clear hK K
    |refine yGF ?_
     refine yaj ?_
    first
    |refine yGT (fun K hK r => ?_)
     refine yap ?_
     refine zae Try.underlying3 rfl hbA ldA ?_
     refine yaf ?_
     refine hK _ _ ?_; clear hK K
    |refine yGF ?_
     refine yaj ?_
    first
    |refine yGT (fun K hK r => ?_)
     refine yas ?_
     refine hK _ _ ?_; clear hK K
    |refine yGF ?_
     refine yaj ?_
    refine zab (fun K hK r => ?_)
    refine yal ?_
    refine hK _ _ ?_; clear hK K
    refine zah rfl ?_
    (first | refine zaA (d := 35) rfl (fun g35 => ?_) (fun g35 => ?_) | skip)
    all_goals try (exfalso; exact cnA g35)
    all_goals (try replace g35 := yad g35)
    all_goals
     refine yaf ?_
     first
     |refine yGT (fun K hK r => ?_)
      refine ybA ?_
      refine hK _ _ ?_; clear hK K
     |refine yGF ?_
      refine yaj ?_
     first
     |refine yGT (fun K hK r => ?_)
      refine yap ?_
      refine zae Try.underlying22 rfl hbA ldA ?_
      refine yaf ?_
      refine hK _ _ ?_; clear hK K
     |refine yGF ?_
      refine yaj ?_
     first
     |refine yGT (fun K hK r => ?_)
      refine ybt ?_
      refine hK _ _ ?_; clear hK K
     |refine yGF ?_
      refine yaj ?_
     first
     |refine yGT (fun K hK r => ?_)
      refine yas ?_
      refine hK _ _ ?_; clear hK K
     |refine yGF ?_
      refine yaj ?_
     refine zab (fun K hK r => ?_)
     refine yal ?_
     refine hK _ _ ?_; clear hK K
     refine zah rfl ?_
     (first | refine zaA (d := 41) rfl (fun g41 => ?_) (fun g41 => ?_) | skip)
     all_goals try (exfalso; exact cnA g41)
     all_goals (try replace g41 := yad g41)
     all_goals
      refine yaf ?_
      first
      |refine yGT (fun K hK r => ?_)
       refine ybA ?_
       refine hK _ _ ?_; clear hK K
      |refine yGF ?_
       refine yaj ?_
      first
      |refine yGT (fun K hK r => ?_)
       refine yap ?_
       refine zae Try.underlying22 rfl hbA ldA ?_
       refine yaf ?_
       refine hK _ _ ?_; clear hK K
      |refine yGF ?_
       refine yaj ?_
      first
      |refine yGT (fun K hK r => ?_)
       refine yaw ?_
       refine Lt_indexS Try.underlying22 sz3 ixA ixA ?_
       refine yax ?_
       refine yaf ?_
       refine hK _ _ ?_; clear hK K
      |refine yGF ?_
       refine yaj ?_
      first
      |refine yGT (fun K hK r => ?_)
       refine yap ?_
       refine zae Try.underlying3 rfl hbA (v := .int .i64 5) (by have := atw 0 (by simp); simpa using this) ?_
       refine hK _ _ ?_; clear hK K
      |refine yGF ?_
       refine yaj ?_
      first
      |refine yGT (fun K hK r => ?_)
       refine yas ?_
       refine hK _ _ ?_; clear hK K
      |refine yGF ?_
       refine yaj ?_
      refine zab (fun K hK r => ?_)
      refine yal ?_
      refine hK _ _ ?_; clear hK K
      refine zah rfl ?_
      (first | refine zaA (d := 48) rfl (fun g48 => ?_) (fun g48 => ?_) | skip)
      all_goals try (exfalso; exact cnA g48)
      all_goals (try replace g48 := yad g48)
      all_goals
       refine yaf ?_
       first
       |refine yGT (fun K hK r => ?_)
        refine yai ?_
        refine hK _ _ ?_; clear hK K
       |refine yGF ?_
        refine yaj ?_
       first
       |refine yGT (fun K hK r => ?_)
        simp only [zaF _ bd33, List.map_toArray, List.map_cons, List.map_nil, eX, ↓reduceIte, Nat.reduceEqDiff, Int.reduceToNat]
        refine (stepsL (hA.more (Le.trans l25 (le_upd _ _ _ hb4)))).mono ?_
        rintro v H' ⟨rfl, hq⟩
        have hq := hq.symm
        subst hq
        rw [(al_up 2 (by omega)).2]
        refine yaf ?_
        refine hK _ _ ?_; clear hK K
       |refine yGF ?_
        refine yaj ?_
       first
       |refine yGT (fun K hK r => ?_)
        refine yas ?_
        refine hK _ _ ?_; clear hK K
       |refine yGF ?_
        refine yaj ?_
       refine zab (fun K hK r => ?_)
       refine yal ?_
       refine hK _ _ ?_; clear hK K
       refine zaj rfl ?_
       refine zad ?_
       refine yab ?_
       refine hK12 _ _ ?_; try clear hK12 K12
       refine zaz ?_
       refine yab ?_
       refine ⟨[_], ⟨rfl, trivial⟩, H, lhA, ?_, rfl⟩
       first | rfl | (simp; done)
end Go.Proofs.Ytigofhhonnbkmaa.HL
end
section
namespace Go.Proofs.Ytigofhhonnbkmaa.HL
open Go Go.Proofs
set_option linter.unusedSimpArgs false
set_option linter.unusedVariables false
attribute [local irreducible] Lt Lq CW OW TW CallH
set_option maxRecDepth 100000 in
set_option maxHeartbeats 1000000 in
theorem device_nil (H : Hp) (dev : Int) : CallH Try.prog 55 #[.pointer none, .int .i64 dev] H (fun v H' => v = .pointer none ∧ H' = H) := by
 refine zam (l := [_, _]) (rl := [.tmp 4]) (n := 27) Try.func55 rfl rfl rfl rfl rfl ?_
 refine yaa ?_
 refine zac (fun K1 hK1 => ?_)
 refine zaa ?_
 refine zaj rfl ?_
 refine zad ?_
 refine yab ?_
 refine hK1 _ _ ?_; try clear hK1 K1
 refine zac (fun K2 hK2 => ?_)
 refine zac (fun K3 hK3 => ?_)
 refine zaa ?_
 refine zah rfl ?_
 refine zab (fun K hK r => ?_)
 refine yan ?_
 rw [e_eql _ _ _ _ (by simp)]
 rw [zaM]
 first | rw [q_ptr_nil _ _ _ Try.underlying47] | rw [q_nil_ptr _ _ _ Try.underlying47]
 refine yaf ?_
 refine hK _ _ ?_; clear hK K
 refine zah rfl ?_
 (first | refine zaA (d := 7) rfl (fun g7 => ?_) (fun g7 => ?_) | skip)
 all_goals try (exfalso; exact cnA g7)
 all_goals (try replace g7 := yad g7)
 all_goals
  refine yaf ?_
  first
  |refine yGT (fun K hK r => ?_)
   refine yai ?_
   refine hK _ _ ?_; clear hK K
  |refine yGF ?_
   refine yaj ?_
  first
  |refine yGT (fun K hK r => ?_)
   refine yac ?_
   refine hK _ _ ?_; clear hK K
  |refine yGF ?_
   refine yaj ?_
  refine zab (fun K hK r => ?_)
  refine yal ?_
  refine hK _ _ ?_; clear hK K
  refine zah rfl ?_
  (first | refine zaA (d := 11) rfl (fun g11 => ?_) (fun g11 => ?_) | skip)
  all_goals try (exfalso; exact cnA g11)
  all_goals (try replace g11 := yad g11)
  all_goals
   refine yaf ?_
   first
   |refine yGT (fun K hK r => ?_)
    refine yai ?_
    refine hK _ _ ?_; clear hK K
   |refine yGF ?_
    refine yaj ?_
   first
   |refine yGT (fun K hK r => ?_)
    refine yai ?_
    refine hK _ _ ?_; clear hK K
   |refine yGF ?_
    refine yaj ?_
   first
   |refine yGT (fun K hK r => ?_)
    rw [zav _ _ rfl]
    refine yaj ?_
    refine hK _ _ ?_; clear hK K
   |refine yGF ?_
    refine yaj ?_
   first
   |refine yGT (fun K hK r => ?_)
    refine yat ?_
    refine hK _ _ ?_; clear hK K
   |refine yGF ?_
    refine yaj ?_
   first
   |refine yGT (fun K hK r => ?_)
    refine yap ?_
    refine zae Try.underlying112 rfl hbA ldA ?_
    refine yaf ?_
    refine hK _ _ ?_; clear hK K
   |refine yGF ?_
    refine yaj ?_
   first
   |refine yGT (fun K hK r => ?_)
    refine yau ?_
    refine hK _ _ ?_; clear hK K
   |refine yGF ?_
    refine yaj ?_
   first
   |refine yGT (fun K hK r => ?_)
    refine yav ?_
    refine hK _ _ ?_; clear hK K
   |refine yGF ?_
    refine yaj ?_
   refine zab (fun K hK r => ?_)
   refine yal ?_
   refine hK _ _ ?_; clear hK K
   refine zad ?_
   refine yab ?_
   refine hK3 _ _ ?_; try clear hK3 K3
   refine zar (fun r => rfl) (fun c19 => ?_) (fun c19 => ?_)
   ·first
    |(exfalso; exact cnA c19; done)
    |skip
     (try replace c19 := yad c19)
     refine zac (fun K4 hK4 => ?_)
     refine zaa ?_
     refine zaj rfl ?_
     refine zad ?_
     refine yab ?_
     refine hK4 _ _ ?_; try clear hK4 K4
     refine zaz ?_
     refine yab ?_
     first | refine ⟨[_], ⟨rfl, trivial⟩, H, lhA, ?_, rfl⟩ | refine ⟨[_], ⟨rfl, trivial⟩, _, Le.refl _, ?_, rfl⟩
     first | rfl | (simp; done) | (simp; rfl)
   ·first
    |(exfalso; exact cnA c19; done)
    |skip
     (try replace c19 := yad c19)
     refine zau ?_
     refine yab ?_
     refine hK2 _ _ ?_; try clear hK2 K2
     refine zac (fun K5 hK5 => ?_)
     refine zaa ?_
     refine zah rfl ?_
     refine zab (fun K hK r => ?_)
     rw [zav _ _ rfl]
     refine yaj ?_
     refine hK _ _ ?_; clear hK K
     refine zab (fun K hK r => ?_)
     refine yat ?_
     refine hK _ _ ?_; clear hK K
     refine zab (fun K hK r => ?_)
     refine yap ?_
     refine zae Try.underlying112 rfl hbA ldA ?_
     refine yaf ?_
     refine hK _ _ ?_; clear hK K
     refine zah rfl ?_
     refine zab (fun K hK r => ?_)
     refine yaw ?_
     refine Lt_indexS Try.underlying112 sz115 ixA ixA ?_
     refine yax ?_
     refine yaf ?_
     refine hK _ _ ?_; clear hK K
     refine zab (fun K hK r => ?_)
     refine yap ?_
     refine zae Try.underlying115 rfl hbA ldA ?_
     refine yaf ?_
     refine hK _ _ ?_; clear hK K
     refine zaj rfl ?_
     refine zad ?_
     refine yab ?_
     refine hK5 _ _ ?_; try clear hK5 K5
     refine zaz ?_
     refine yab ?_
     first | refine ⟨[_], ⟨rfl, trivial⟩, H, lhA, ?_, rfl⟩ | refine ⟨[_], ⟨rfl, trivial⟩, _, Le.refl _, ?_, rfl⟩
     first | rfl | (simp; done) | (simp; rfl)
set_option maxRecDepth 100000 in
set_option maxHeartbeats 1000000 in
theorem size_nil (H : Hp) (dev : Int) : CallH Try.prog 52 #[.pointer none, .int .i64 dev] H (fun v H' => v = .int .i64 0 ∧ H' = H) := by
 refine zam (l := [_, _]) (rl := [.tmp 4]) (n := 15) Try.func52 rfl rfl rfl rfl rfl ?_
 refine yaa ?_
 refine zac (fun K1 hK1 => ?_)
 refine zaa ?_
 refine zaj rfl ?_
 refine zad ?_
 refine yab ?_
 refine hK1 _ _ ?_; try clear hK1 K1
 refine zac (fun K2 hK2 => ?_)
 refine zac (fun K3 hK3 => ?_)
 refine zaa ?_
 refine zah rfl ?_
 refine zah rfl ?_
 refine zab (fun K hK r => ?_)
 refine ybH ?_
 refine (device_nil _ dev).mono ?_
 rintro v H' ⟨rfl, rfl⟩
 refine yaf ?_
 refine hK _ _ ?_; clear hK K
 refine zaj rfl ?_
 refine zad ?_
 refine yab ?_
 refine hK3 _ _ ?_; try clear hK3 K3
 refine zac (fun K4 hK4 => ?_)
 refine zaa ?_
 refine zah rfl ?_
 refine zab (fun K hK r => ?_)
 refine yan ?_
 rw [e_neq _ _ _ _ (by simp)]
 rw [zaM]
 first | rw [q_ptr_nil _ _ _ Try.underlying115] | rw [q_nil_ptr _ _ _ Try.underlying115]
 refine yaf ?_
 refine hK _ _ ?_; clear hK K
 refine zad ?_
 refine yab ?_
 refine hK4 _ _ ?_; try clear hK4 K4
 refine zar (fun r => rfl) (fun c10 => ?_) (fun c10 => ?_)
 ·exfalso; exact cnA c10
 refine zau ?_
 refine yab ?_
 refine hK2 _ _ ?_; try clear hK2 K2
 refine zac (fun K5 hK5 => ?_)
 refine zaa ?_
 refine zaj rfl ?_
 refine zad ?_
 refine yab ?_
 refine hK5 _ _ ?_; try clear hK5 K5
 refine zaz ?_
 refine yab ?_
 first | refine ⟨[_], ⟨rfl, trivial⟩, H, lhA, ?_, rfl⟩ | refine ⟨[_], ⟨rfl, trivial⟩, _, Le.refl _, ?_, rfl⟩
 first | rfl | (simp; done) | (simp; rfl)
set_option maxRecDepth 100000 in
set_option maxHeartbeats 1000000 in
theorem save_nil (H : Hp) (m : Mf) (ma : Option Addr) (mc : Nat) (hm : Holds H 1 (.slice ma m.hd.length mc) m.hd.length (i64s m.hd)) (hml : m.hd.length ≤ 1000000) (hgd : m.good = true) : CallH Try.prog 22 #[.pointer none, .agg #[.int .i64 m.gen, .int .i64 m.ep, .int .i64 m.ba, .int .i64 m.ar, .int .i64 m.ln, .slice ma m.hd.length mc]] H (fun v H' => v = errV (some 1) ∧ Le H H') := by
 refine zam (l := [_, _]) (rl := [.tmp 4]) (n := 33) Try.func22 rfl rfl rfl rfl rfl ?_
 refine yaa ?_
 have hsl := m.seal_len
 have hsl2 := m.sec.h
 have hbd : m.bad = none := by unfold Mf.bad; rw [if_pos hgd]
 refine zac (fun K1 hK1 => ?_)
 refine zaa ?_
 refine zab (fun K hK r => ?_)
 refine yaW ?_
 intro b3 hb3
 have f3_H : H b3 = none := zag lhA hb3
 refine yaf ?_
 refine hK _ _ ?_; clear hK K
 refine zaj rfl ?_
 refine zad ?_
 refine yab ?_
 refine hK1 _ _ ?_; try clear hK1 K1
 refine zac (fun K2 hK2 => ?_)
 refine zaa ?_
 refine zab (fun K hK r => ?_)
 refine yap ?_
 first | refine zax Try.underlying27 rfl sz27 hbA bdA ?_ | refine zaq Try.underlying27 rfl sz27 hbA bdA ?_
 refine ybg ?_
 refine yaf ?_
 refine hK _ _ ?_; clear hK K
 refine zab (fun K hK r => ?_)
 refine ybG ?_
 refine (mSeal_ok _ m ma mc (hm.le lhA) hml).mono ?_
 rintro v10 H10 ⟨rfl, l10⟩
 rw [hbd]
 have lH10 : Le H H10 := Le.trans (le_upd _ _ _ hb3) l10
 refine yaf ?_
 refine hK _ _ ?_; clear hK K
 refine zah rfl ?_
 refine zab (fun K hK r => ?_)
 refine yah ?_
 refine hK _ _ ?_; clear hK K
 refine zab (fun K hK r => ?_)
 refine yah ?_
 refine hK _ _ ?_; clear hK K
 refine zab (fun K hK r => ?_)
 refine yaX ?_
 intro b5 hb5
 try have n5_b3 : b3 ≠ b5 := zaf hbA hb5
 have f5_H : H b5 = none := zag lhA hb5
 refine yaf ?_
 refine hK _ _ ?_; clear hK K
 refine zaI rfl (zas) (fun K hK r => ?_)
 refine yaD ?_
 first | refine zak sz30 bdA hbA bdA plA (by decide) ?_ | refine zal sz30 bdA hbA bdA plA (by decide) ?_
 refine yaf ?_
 refine hK _ _ ?_; clear hK K
 refine zaj rfl ?_
 refine zad ?_
 refine yab ?_
 refine hK2 _ _ ?_; try clear hK2 K2
 refine zac (fun K3 hK3 => ?_)
 refine zaB ?_
 refine zac (fun K4 hK4 => ?_)
 refine zaa ?_
 refine zah rfl ?_
 refine zab (fun K hK r => ?_)
 refine yae ?_
 first | rw [b_err_neq _ _ Try.underlying32] | (rw [e_neq _ _ _ _ (by simp), zaM]; first | rw [q_iface_nil _ _ _ Try.underlying32] | rw [q_nil_iface _ _ _ Try.underlying32] | rw [q_nil_nil _ _ _ Try.underlying32])
 refine yaf ?_
 refine hK _ _ ?_; clear hK K
 refine zaj rfl ?_
 refine zad ?_
 refine yab ?_
 refine hK4 _ _ ?_; try clear hK4 K4
 refine zar (fun r => rfl) (fun c13 => ?_) (fun c13 => ?_)
 ·exfalso; exact cnA c13
 refine zac (fun K5 hK5 => ?_)
 refine zaa ?_
 refine zah rfl ?_
 refine zab (fun K hK r => ?_)
 refine ybO ?_
 refine (size_nil _ 0).mono ?_
 rintro v H' ⟨rfl, hq⟩
 have hq := hq.symm
 subst hq
 refine yaf ?_
 refine hK _ _ ?_; clear hK K
 refine zab (fun K hK r => ?_)
 refine yac ?_
 refine hK _ _ ?_; clear hK K
 refine zaj rfl ?_
 refine zad ?_
 refine yab ?_
 refine hK5 _ _ ?_; try clear hK5 K5
 refine zar (fun r => rfl) (fun c17 => ?_) (fun c17 => ?_)
 rotate_left; exfalso; exact cnA c17
 refine zac (fun K6 hK6 => ?_)
 refine zaa ?_
 refine zab (fun K hK r => ?_)
 refine yaF ?_
 refine hK _ _ ?_; clear hK K
 refine zaj rfl ?_
 refine zad ?_
 refine yab ?_
 refine hK6 _ _ ?_; try clear hK6 K6
 refine zaz ?_
 refine yab ?_
 exact ⟨[_], ⟨rfl, trivial⟩, _, Le.refl _, rfl, lhA⟩
set_option maxRecDepth 100000 in
set_option maxHeartbeats 1000000 in
theorem load_nil (H : Hp) : CallH Try.prog 30 #[.pointer none] H (fun v H' => v = .tuple #[.agg #[.int .i64 0, .int .i64 0, .int .i64 0, .int .i64 0, .int .i64 0, .slice none 0 0], errV (some 1)] ∧ H' = H) := by
 refine zam (l := [_]) (rl := [.cell 2 27, .tmp 3]) (n := 63) Try.func30 rfl rfl rfl rfl rfl ?_
 refine yaa ?_
 refine zac (fun K1 hK1 => ?_)
 refine zaa ?_
 refine zab (fun K hK r => ?_)
 refine ybD ?_
 intro b2 hb2
 have f2_H : H b2 = none := zag lhA hb2
 refine yaf ?_
 refine hK _ _ ?_; clear hK K
 refine zaj rfl ?_
 refine zad ?_
 refine yab ?_
 refine hK1 _ _ ?_; try clear hK1 K1
 refine zac (fun K2 hK2 => ?_)
 refine zaB ?_
 refine zac (fun K3 hK3 => ?_)
 refine zaa ?_
 refine zah rfl ?_
 refine zab (fun K hK r => ?_)
 refine ybO ?_
 refine (size_nil _ 0).mono ?_
 rintro v H' ⟨rfl, hq⟩
 have hq := hq.symm
 subst hq
 refine yaf ?_
 refine hK _ _ ?_; clear hK K
 refine zab (fun K hK r => ?_)
 refine yac ?_
 refine hK _ _ ?_; clear hK K
 refine zaj rfl ?_
 refine zad ?_
 refine yab ?_
 refine hK3 _ _ ?_; try clear hK3 K3
 refine zar (fun r => rfl) (fun c10 => ?_) (fun c10 => ?_)
 rotate_left; exfalso; exact cnA c10
 refine zac (fun K4 hK4 => ?_)
 refine zaa ?_
 refine zab (fun K hK r => ?_)
 refine ybE ?_
 refine ybe ?_
 refine yaf ?_
 refine hK _ _ ?_; clear hK K
 refine zab (fun K hK r => ?_)
 refine yaF ?_
 refine hK _ _ ?_; clear hK K
 refine zaI rfl (zas) (fun K hK r => ?_)
 refine yaD ?_
 first | refine zak sz27 bdA hbA bdA plA (by decide) ?_ | refine zal sz27 bdA hbA bdA plA (by decide) ?_
 refine yaf ?_
 refine hK _ _ ?_; clear hK K
 refine zaj rfl ?_
 refine zad ?_
 refine yab ?_
 refine hK4 _ _ ?_; try clear hK4 K4
 refine zaz ?_
 refine yab ?_
 refine ⟨[_, _], ⟨⟨_, rfl, zaC Try.underlying27 rfl sz27 hbA bdA⟩, rfl, trivial⟩, H, lhA, ?_, rfl⟩
 rfl
end Go.Proofs.Ytigofhhonnbkmaa.HL
end
section
namespace Go.Proofs.Ytigofhhonnbkmaa.HL
open Go Go.Proofs
set_option linter.unusedSimpArgs false
set_option linter.unusedVariables false
attribute [local irreducible] Lt Lq CW OW TW CallH
set_option maxRecDepth 100000 in
set_option maxHeartbeats 1000000 in
theorem num_Ints (H : Hp) (va vb : Value) (L M : List Int) (ha : Holds H 1 va L.length (i64s L)) (hb : Holds H 1 vb M.length (i64s M)) (hn : L.length ≤ 1000000) : CallH Try.prog 41 #[va, vb] H (fun v H' => v = .bool (decide (L = M)) ∧ H' = H) := by
 refine zam (l := [_, _]) (rl := [.tmp 4]) (n := 26) Try.func41 rfl rfl rfl rfl rfl ?_
 refine yaa ?_
 obtain ⟨aa, ca, rfl⟩ := ha.form
 obtain ⟨ab, cb, rfl⟩ := hb.form
 refine zac (fun K1 hK1 => ?_)
 refine zaa ?_
 refine zaj rfl ?_
 refine zad ?_
 refine yab ?_
 refine hK1 _ _ ?_; try clear hK1 K1
 refine zac (fun K2 hK2 => ?_)
 refine zac (fun K3 hK3 => ?_)
 refine zaa ?_
 refine zah rfl ?_
 refine zab (fun K hK r => ?_)
 refine ybt ?_
 refine hK _ _ ?_; clear hK K
 refine zah rfl ?_
 refine zab (fun K hK r => ?_)
 refine ybt ?_
 refine hK _ _ ?_; clear hK K
 refine zab (fun K hK r => ?_)
 refine yak ?_
 refine hK _ _ ?_; clear hK K
 refine zad ?_
 refine yab ?_
 refine hK3 _ _ ?_; try clear hK3 K3
 refine zar (fun r => rfl) (fun c10 => ?_) (fun c10 => ?_)
 ·first
  |(exfalso; exact cnA c10; done)
  |skip
   (try replace c10 := yad c10)
   refine zac (fun K4 hK4 => ?_)
   refine zaa ?_
   refine zaj rfl ?_
   refine zad ?_
   refine yab ?_
   refine hK4 _ _ ?_; try clear hK4 K4
   refine zaz ?_
   refine yab ?_
   refine ⟨[_], ⟨rfl, trivial⟩, _, Le.refl _, ?_, rfl⟩
   show Value.bool _ = _
   rw [decide_eq_false (fun h => by subst h; simp at c10)]
 ·first
  |(exfalso; exact cnA c10; done)
  |skip
   (try replace c10 := yad c10)
   have hln : L.length = M.length := by omega
   refine zau ?_
   refine yab ?_
   refine hK2 _ _ ?_; try clear hK2 K2
   refine zac (fun K5 hK5 => ?_)
   refine zac (fun K6 hK6 => ?_)
   refine zaa ?_
   refine zah rfl ?_
   refine zab (fun K hK r => ?_)
   refine ybt ?_
   refine hK _ _ ?_; clear hK K
   refine zah rfl ?_
   refine zad ?_
   refine yab ?_
   refine hK6 _ _ ?_; try clear hK6 K6
   refine zaB ?_
   refine CW_loop (fun m e H_ => ∃ k : Nat, k ≤ L.length ∧ m = L.length - k ∧ L.take k = M.take k ∧ Env.has [(0, .slice aa L.length ca), (1, .slice ab M.length cb), (12, .int .i64 L.length), (13, .int .i64 k)] e ∧ H_ = H) (L.length) ?_ ?_
   ·skip
    exact ⟨0, by omega, by omega, rfl, ⟨rfl, rfl, rfl, rfl, trivial⟩, rfl⟩
   intro m_ e_ H_ hI_
   obtain ⟨k, hk, rfl, htk, he, rfl⟩ := hI_
   refine CW_env he.sub ?_; clear he e_
   refine zac (fun K7 hK7 => ?_)
   refine zaa ?_
   refine zab (fun K hK r => ?_)
   refine yac ?_
   refine hK _ _ ?_; clear hK K
   refine zad ?_
   refine yab ?_
   refine hK7 _ _ ?_; try clear hK7 K7
   refine zac (fun K8 hK8 => ?_)
   refine zar (fun r => rfl) (fun c14 => ?_) (fun c14 => ?_)
   ·first
    |(exfalso; exact cnA c14; done)
    |skip
     (try replace c14 := yad c14)
     obtain ⟨ba, oa, qa, Ta, Fa, rfl, hba, hsa, ata⟩ := ha.at (by omega)
     obtain ⟨bb, ob, qb, Tb, Fb, rfl, hbb, hsb, atb⟩ := hb.at (by omega)
     refine zau ?_
     refine yab ?_
     refine hK8 _ _ ?_; try clear hK8 K8
     refine zac (fun K9 hK9 => ?_)
     refine zaB ?_
     refine zac (fun K10 hK10 => ?_)
     refine zaa ?_
     refine zah rfl ?_
     refine zaj rfl ?_
     refine zad ?_
     refine yab ?_
     refine hK10 _ _ ?_; try clear hK10 K10
     refine zac (fun K11 hK11 => ?_)
     refine CW_drawE [0, 0, 0, 1, 0, 0, 0, 1, 0] [0, 1, 2, 3, 4, 5, 6, 7, 8] (by kernel_rfl) (by kernel_rfl) (fun R6 hR6 => ?_)
     apply zat rfl (zai (by decide)) rfl
     ·intro r
      refine yaI ?_
      exact ⟨rfl, Le.refl _⟩
     refine yaj ?_
     apply zat rfl (zai (by decide)) rfl
     ·intro r
      refine yaI ?_
      exact ⟨rfl, Le.refl _⟩
     refine yaj ?_
     apply zat rfl (zai (by decide)) rfl
     ·intro r
      refine yaL ?_
      refine Lt_indexS Try.underlying22 sz3 ixA ixA ?_
      refine yax ?_
      exact ⟨rfl, Le.refl _⟩
     refine yaj ?_
     apply zaO rfl (zai (by decide)) rfl
     ·intro r
      refine yba ?_
      refine zae Try.underlying3 rfl hbA (v := .int .i64 (L.getD k 0)) (by first | exact ints_at ata rfl _ (by omega) | (simp only [Int.toNat_natCast, Nat.mul_one]; exact ints_at ata rfl _ (by omega))) ?_
      exact ⟨rfl, Le.refl _⟩
     refine yaj ?_
     apply zat rfl (zai (by decide)) rfl
     ·intro r
      refine yaI ?_
      exact ⟨rfl, Le.refl _⟩
     refine yaj ?_
     apply zat rfl (zai (by decide)) rfl
     ·intro r
      refine yaI ?_
      exact ⟨rfl, Le.refl _⟩
     refine yaj ?_
     apply zat rfl (zai (by decide)) rfl
     ·intro r
      refine yaL ?_
      refine Lt_indexS Try.underlying22 sz3 ixA ixA ?_
      refine yax ?_
      exact ⟨rfl, Le.refl _⟩
     refine yaj ?_
     apply zaO rfl (zai (by decide)) rfl
     ·intro r
      refine yba ?_
      refine zae Try.underlying3 rfl hbA (v := .int .i64 (M.getD k 0)) (by first | exact ints_at atb rfl _ (by omega) | (simp only [Int.toNat_natCast, Nat.mul_one]; exact ints_at atb rfl _ (by omega))) ?_
      exact ⟨rfl, Le.refl _⟩
     refine yaj ?_
     apply zat rfl (zai (by decide)) rfl
     ·intro r
      simp (disch := (first | omega | decide)) only [x_bin, g_int, b_neq, dec_lt_t, dec_lt_f, dec_le_t, dec_le_f, dec_eq_t, dec_eq_f, Bool.not_true, Bool.not_false, eX, ↓reduceIte, Nat.reduceEqDiff]
      exact ⟨rfl, Le.refl _⟩
     refine yaj ?_
     refine TW_nil ?_
     refine yab ?_
     refine hK11 _ _ ?_; try clear hK11 K11
     refine zar (fun r => rfl) (fun c24 => ?_) (fun c24 => ?_)
     ·first
      |(exfalso; exact cnA c24; done)
      |skip
       (try replace c24 := yad c24)
       refine zac (fun K12 hK12 => ?_)
       refine zaa ?_
       refine zaj rfl ?_
       refine zad ?_
       refine yab ?_
       refine hK12 _ _ ?_; try clear hK12 K12
       refine zaz ?_
       refine yab ?_
       refine ⟨[_], ⟨rfl, trivial⟩, _, Le.refl _, ?_, rfl⟩
       show Value.bool _ = _
       rw [decide_eq_false (fun h => by subst h; simp at c24)]
     ·first
      |(exfalso; exact cnA c24; done)
      |skip
       (try replace c24 := yad c24)
       refine zau ?_
       refine yab ?_
       refine hK9 _ _ ?_; try clear hK9 K9
       refine zaa ?_
       refine zab (fun K hK r => ?_)
       refine yaq ?_
       refine hK _ _ ?_; clear hK K
       refine zah rfl ?_
       refine zad ?_
       refine yab ?_
       refine ⟨L.length - (k + 1), by omega, k + 1, by omega, rfl, ?_, ⟨rfl, rfl, rfl, rfl, trivial⟩, rfA⟩
       refine take_eq_step htk (by omega) (by omega) ?_
       simpa using c24
   ·first
    |(exfalso; exact cnA c14; done)
    |skip
     (try replace c14 := yad c14)
     refine CW_exit ?_
     refine yab ?_
     refine hK5 _ _ ?_; try clear hK5 K5
     refine zac (fun K13 hK13 => ?_)
     refine zaa ?_
     refine zaj rfl ?_
     refine zad ?_
     refine yab ?_
     refine hK13 _ _ ?_; try clear hK13 K13
     refine zaz ?_
     refine yab ?_
     refine ⟨[_], ⟨rfl, trivial⟩, _, Le.refl _, ?_, rfl⟩
     show Value.bool _ = _
     have ek : k = L.length := by omega
     subst ek
     rw [List.take_length, hln, List.take_length] at htk
     rw [decide_eq_true htk]
theorem ybS {p q : Prop} (h : q) (e : p = q := by simp only [zao, fa24_5, zaH, Nat.reduceAdd, Nat.zero_add, eX, ↓reduceIte, Nat.reduceEqDiff, Int.reduceToNat]; exact rfl) : p := e.mpr h
set_option maxRecDepth 100000 in
set_option maxHeartbeats 1000000 in
theorem large_ok (H : Hp) (m : Mf) (ma : Option Addr) (mc : Nat) (hm : Holds H 1 (.slice ma m.hd.length mc) m.hd.length (i64s m.hd)) (hm0 : m.hd.length ≤ 9223372036854775807) : CallH Try.prog 8 #[.agg #[.int .i64 m.gen, .int .i64 m.ep, .int .i64 m.ba, .int .i64 m.ar, .int .i64 m.ln, .slice ma m.hd.length mc]] H (fun v H' => v = .bool (decide ((m.hd.length : Int) > 20)) ∧ H' = H) := by
 refine zam (l := [_]) (rl := [.tmp 2]) (n := 7) Try.func8 rfl rfl rfl rfl rfl ?_
 refine yaa ?_
 refine zac (fun K1 hK1 => ?_)
 refine zaa ?_
 refine zab (fun K hK r => ?_)
 refine yaW ?_
 intro b1 hb1
 have f1_H : H b1 = none := zag lhA hb1
 refine yaf ?_
 refine hK _ _ ?_; clear hK K
 refine zaj rfl ?_
 refine zad ?_
 refine yab ?_
 refine hK1 _ _ ?_; try clear hK1 K1
 refine zac (fun K2 hK2 => ?_)
 refine zaa ?_
 refine zab (fun K hK r => ?_)
 refine ybS ?_
 refine hK _ _ ?_; clear hK K
 refine zab (fun K hK r => ?_)
 refine yap ?_
 refine zae Try.underlying22 rfl hbA ldA ?_
 refine yaf ?_
 refine hK _ _ ?_; clear hK K
 refine zab (fun K hK r => ?_)
 refine ybt ?_
 refine hK _ _ ?_; clear hK K
 refine zab (fun K hK r => ?_)
 refine yaZ ?_
 refine hK _ _ ?_; clear hK K
 refine zaj rfl ?_
 refine zad ?_
 refine yab ?_
 refine hK2 _ _ ?_; try clear hK2 K2
 refine zaz ?_
 refine yab ?_
 exact ⟨[_], ⟨rfl, trivial⟩, H, lhA, rfl, rfl⟩
set_option maxRecDepth 100000 in
set_option maxHeartbeats 1000000 in
theorem program_ok (H : Hp) (m : Mf) (ma : Option Addr) (mc : Nat) (hm : Holds H 1 (.slice ma m.hd.length mc) m.hd.length (i64s m.hd)) (hml : m.hd.length ≤ 1000000) : CallH Try.prog 9 #[.agg #[.int .i64 m.gen, .int .i64 m.ep, .int .i64 m.ba, .int .i64 m.ar, .int .i64 m.ln, .slice ma m.hd.length mc]] H (fun v H' => Le H H' ∧ ∃ xa xc rs, v = .agg #[.int .i64 m.gen, .int .i64 m.ep, .int .i64 m.ba, .int .i64 m.ar, .int .i64 m.ln, .slice xa m.hd.length xc] ∧ OwnS H' 3 1 (.slice xa m.hd.length xc) m.hd.length (i64s m.hd) rs ∧ ∀ r, rs = some r → H r = none) := by
 refine zam (l := [_]) (rl := [.cell 2 27]) (n := 11) Try.func9 rfl rfl rfl rfl rfl ?_
 refine yaa ?_
 refine zac (fun K1 hK1 => ?_)
 refine zaa ?_
 refine zab (fun K hK r => ?_)
 refine yaW ?_
 intro b1 hb1
 have f1_H : H b1 = none := zag lhA hb1
 refine yaf ?_
 refine hK _ _ ?_; clear hK K
 refine zab (fun K hK r => ?_)
 refine ybD ?_
 intro b2 hb2
 try have n2_b1 : b1 ≠ b2 := zaf hbA hb2
 have f2_H : H b2 = none := zag lhA hb2
 refine yaf ?_
 refine hK _ _ ?_; clear hK K
 refine zad ?_
 refine yab ?_
 refine hK1 _ _ ?_; try clear hK1 K1
 refine zac (fun K2 hK2 => ?_)
 refine zaa ?_
 refine zab (fun K hK r => ?_)
 refine yap ?_
 first | refine zax Try.underlying24 rfl sz24 hbA bdA ?_ | refine zaq Try.underlying24 rfl sz24 hbA bdA ?_
 refine ybg ?_
 refine yaf ?_
 refine hK _ _ ?_; clear hK K
 refine zab (fun K hK r => ?_)
 refine ybD ?_
 intro b3 hb3
 try have n3_b1 : b1 ≠ b3 := zaf hbA hb3
 try have n3_b2 : b2 ≠ b3 := zaf hbA hb3
 have f3_H : H b3 = none := zag lhA hb3
 refine yaf ?_
 refine hK _ _ ?_; clear hK K
 refine zaI rfl (zas) (fun K hK r => ?_)
 refine yaD ?_
 first | refine zak sz27 bdA hbA bdA plA (by decide) ?_ | refine zal sz27 bdA hbA bdA plA (by decide) ?_
 refine yaf ?_
 refine hK _ _ ?_; clear hK K
 refine zad ?_
 refine yab ?_
 refine hK2 _ _ ?_; try clear hK2 K2
 refine zac (fun K3 hK3 => ?_)
 refine zaa ?_
 refine zab (fun K hK r => ?_)
 refine yaT ?_
 refine zaJ (vs := []) Try.underlying22 sz3 zr3 rfl bsA (by first | decide | (simp; done)) ?_
 refine yaU ?_
 intro b5 hb5
 try have n5_b1 : b1 ≠ b5 := zaf hbA hb5
 try have n5_b2 : b2 ≠ b5 := zaf hbA hb5
 try have n5_b3 : b3 ≠ b5 := zaf hbA hb5
 have f5_H : H b5 = none := zag lhA hb5
 refine yaf ?_
 refine hK _ _ ?_; clear hK K
 refine zab (fun K hK r => ?_)
 refine ybS ?_
 refine hK _ _ ?_; clear hK K
 refine zab (fun K hK r => ?_)
 refine yap ?_
 refine zae Try.underlying22 rfl hbA ldA ?_
 refine yaf ?_
 refine hK _ _ ?_; clear hK K
 refine zab (fun K hK r => ?_)
 refine yaV ?_
 refine Lt_appendNew Try.underlying22 sz3 by3 (by decide) zr3 rfl _ hbA (hm.le lhA) (PlainL.ints _ _) (by omega) ?_
 intro v8 H8 rs8 hg8 ho8 hr8
 have lH8_H : Le H H8 := hg8.le (H0 := H) lhA (fun r hr => by cases hr; exact f5_H)
 have hx1 := hg8.known b1 _ hbA (fun e => by cases e; exact absurd rfl n5_b1)
 have hx2 := hg8.known b2 _ hbA (fun e => by cases e; exact absurd rfl n5_b2)
 have hx3 := hg8.known b3 _ hbA (fun e => by cases e; exact absurd rfl n5_b3)
 have ne2 : rs8 ≠ some b2 := fun e => by
  rcases hr8 _ e with h | h
  ·exact n5_b2 h
  ·rw [zap _ _ n5_b2, zap _ _ n3_b2, zan] at h; cases h
 have ne3 : rs8 ≠ some b3 := fun e => by
  rcases hr8 _ e with h | h
  ·exact n5_b3 h
  ·rw [zap _ _ n5_b3, zan] at h; cases h
 obtain ⟨a8, c8, rfl⟩ := ho8.holds.form
 refine hK _ _ ?_; clear hK K
 refine zab (fun K hK r => ?_)
 refine ybA ?_
 refine hK _ _ ?_; clear hK K
 refine zaI rfl (zas) (fun K hK r => ?_)
 refine yaD ?_
 refine zaE sz22 hbA bdA plA fzA ?_
 refine yaE ?_
 refine yaf ?_
 refine hK _ _ ?_; clear hK K
 refine zad ?_
 refine yab ?_
 refine hK3 _ _ ?_; try clear hK3 K3
 refine zac (fun K4 hK4 => ?_)
 refine zaa ?_
 refine zab (fun K hK r => ?_)
 refine yap ?_
 first | refine zax Try.underlying27 rfl sz27 hbA bdA ?_ | refine zaq Try.underlying27 rfl sz27 hbA bdA ?_
 refine ybg ?_
 refine yaf ?_
 refine hK _ _ ?_; clear hK K
 refine zaI rfl (zas) (fun K hK r => ?_)
 refine yaD ?_
 first | refine zak sz27 bdA hbA bdA plA (by decide) ?_ | refine zal sz27 bdA hbA bdA plA (by decide) ?_
 refine yaf ?_
 refine hK _ _ ?_; clear hK K
 refine zad ?_
 refine yab ?_
 refine hK4 _ _ ?_; try clear hK4 K4
 refine zaz ?_
 refine yab ?_
 refine ⟨[_], ⟨⟨_, rfl, zaC Try.underlying27 rfl sz27 hbA bdA⟩, trivial⟩, _, Le.refl _, ?_, a8, c8, rs8, rfl, ?_, ?_⟩
 ·exact lhA
 ·exact (ho8.upd ne3).upd ne2
 ·intro r hr
  rcases hr8 r hr with rfl | h
  ·exact f5_H
  ·exact zag lhA h
theorem Mf.eq_iff (m n : Mf) : decide (m = n) = (decide (m.gen = n.gen) && decide (m.ep = n.ep) && decide (m.ba = n.ba) && decide (m.ar = n.ar) && decide (m.ln = n.ln) && decide (m.hd = n.hd)) := by
  rw [Bool.eq_iff_iff]
  simp only [Bool.and_eq_true, decide_eq_true_eq]
  constructor
  · rintro rfl; simp
  · rintro ⟨⟨⟨⟨⟨h1, h2⟩, h3⟩, h4⟩, h5⟩, h6⟩
    cases m; cases n
    simp only at *
    subst h1 h2 h3 h4 h5 h6; rfl
theorem ybT {p q : Prop} (h : q) (e : p = q := by simp only [zao, fa24_0, zaH, Nat.reduceAdd, Nat.zero_add, eX, ↓reduceIte, Nat.reduceEqDiff, Int.reduceToNat]; exact rfl) : p := e.mpr h
theorem ybU {p q : Prop} (h : q) (e : p = q := by simp only [zao, fa24_1, zaH, Nat.reduceAdd, Nat.zero_add, eX, ↓reduceIte, Nat.reduceEqDiff, Int.reduceToNat]; exact rfl) : p := e.mpr h
theorem ybV {p q : Prop} (h : q) (e : p = q := by simp only [zao, fa24_2, zaH, Nat.reduceAdd, Nat.zero_add, eX, ↓reduceIte, Nat.reduceEqDiff, Int.reduceToNat]; exact rfl) : p := e.mpr h
theorem ybW {p q : Prop} (h : q) (e : p = q := by simp only [zao, fa24_3, zaH, Nat.reduceAdd, Nat.zero_add, eX, ↓reduceIte, Nat.reduceEqDiff, Int.reduceToNat]; exact rfl) : p := e.mpr h
theorem ybX {p q : Prop} (h : q) (e : p = q := by simp only [zao, fa24_4, zaH, Nat.reduceAdd, Nat.zero_add, eX, ↓reduceIte, Nat.reduceEqDiff, Int.reduceToNat]; exact rfl) : p := e.mpr h
set_option maxRecDepth 100000 in
set_option maxHeartbeats 4000000 in
theorem same_ok (H : Hp) (m : Mf) (ma : Option Addr) (mc : Nat) (hm : Holds H 1 (.slice ma m.hd.length mc) m.hd.length (i64s m.hd)) (n : Mf) (na : Option Addr) (nc : Nat) (hn : Holds H 1 (.slice na n.hd.length nc) n.hd.length (i64s n.hd)) (hml : m.hd.length ≤ 1000000) : CallH Try.prog 13 #[.agg #[.int .i64 m.gen, .int .i64 m.ep, .int .i64 m.ba, .int .i64 m.ar, .int .i64 m.ln, .slice ma m.hd.length mc], .agg #[.int .i64 n.gen, .int .i64 n.ep, .int .i64 n.ba, .int .i64 n.ar, .int .i64 n.ln, .slice na n.hd.length nc]] H (fun v H' => v = .bool (decide (m = n)) ∧ H' = H) := by
 refine zam (l := [_, _]) (rl := [.tmp 4]) (n := 45) Try.func13 rfl rfl rfl rfl rfl ?_
 refine yaa ?_
 refine zac (fun K1 hK1 => ?_)
 refine zaa ?_
 refine zab (fun K hK r => ?_)
 refine yaW ?_
 intro b2 hb2
 have f2_H : H b2 = none := zag lhA hb2
 refine yaf ?_
 refine hK _ _ ?_; clear hK K
 refine zab (fun K hK r => ?_)
 refine yaW ?_
 intro b3 hb3
 try have n3_b2 : b2 ≠ b3 := zaf hbA hb3
 have f3_H : H b3 = none := zag lhA hb3
 refine yaf ?_
 refine hK _ _ ?_; clear hK K
 refine zaj rfl ?_
 refine zad ?_
 refine yab ?_
 refine hK1 _ _ ?_; try clear hK1 K1
 refine zac (fun K2 hK2 => ?_)
 refine zaa ?_
 refine zab (fun K hK r => ?_)
 refine ybv ?_
 refine hK _ _ ?_; clear hK K
 refine zab (fun K hK r => ?_)
 refine yap ?_
 refine zae Try.underlying3 rfl hbA ldA ?_
 refine yaf ?_
 refine hK _ _ ?_; clear hK K
 refine zab (fun K hK r => ?_)
 refine ybT ?_
 refine hK _ _ ?_; clear hK K
 refine zab (fun K hK r => ?_)
 refine yap ?_
 refine zae Try.underlying3 rfl hbA ldA ?_
 refine yaf ?_
 refine hK _ _ ?_; clear hK K
 refine zab (fun K hK r => ?_)
 refine yas ?_
 refine hK _ _ ?_; clear hK K
 refine zah rfl ?_
 (first | refine zaA (d := 10) rfl (fun g10 => ?_) (fun g10 => ?_) | skip)
 all_goals try (exfalso; exact cnA g10)
 all_goals (try replace g10 := yad g10)
 all_goals
  refine yaf ?_
  first
  |refine yGT (fun K hK r => ?_)
   refine ybw ?_
   refine hK _ _ ?_; clear hK K
  |refine yGF ?_
   refine yaj ?_
  first
  |refine yGT (fun K hK r => ?_)
   refine yap ?_
   refine zae Try.underlying3 rfl hbA ldA ?_
   refine yaf ?_
   refine hK _ _ ?_; clear hK K
  |refine yGF ?_
   refine yaj ?_
  first
  |refine yGT (fun K hK r => ?_)
   refine ybU ?_
   refine hK _ _ ?_; clear hK K
  |refine yGF ?_
   refine yaj ?_
  first
  |refine yGT (fun K hK r => ?_)
   refine yap ?_
   refine zae Try.underlying3 rfl hbA ldA ?_
   refine yaf ?_
   refine hK _ _ ?_; clear hK K
  |refine yGF ?_
   refine yaj ?_
  first
  |refine yGT (fun K hK r => ?_)
   refine yas ?_
   refine hK _ _ ?_; clear hK K
  |refine yGF ?_
   refine yaj ?_
  refine zab (fun K hK r => ?_)
  refine yal ?_
  refine hK _ _ ?_; clear hK K
  refine zah rfl ?_
  (first | refine zaA (d := 17) rfl (fun g17 => ?_) (fun g17 => ?_) | skip)
  all_goals try (exfalso; exact cnA g17)
  all_goals (try replace g17 := yad g17)
  all_goals
   refine yaf ?_
   first
   |refine yGT (fun K hK r => ?_)
    refine ybx ?_
    refine hK _ _ ?_; clear hK K
   |refine yGF ?_
    refine yaj ?_
   first
   |refine yGT (fun K hK r => ?_)
    refine yap ?_
    refine zae Try.underlying3 rfl hbA ldA ?_
    refine yaf ?_
    refine hK _ _ ?_; clear hK K
   |refine yGF ?_
    refine yaj ?_
   first
   |refine yGT (fun K hK r => ?_)
    refine ybV ?_
    refine hK _ _ ?_; clear hK K
   |refine yGF ?_
    refine yaj ?_
   first
   |refine yGT (fun K hK r => ?_)
    refine yap ?_
    refine zae Try.underlying3 rfl hbA ldA ?_
    refine yaf ?_
    refine hK _ _ ?_; clear hK K
   |refine yGF ?_
    refine yaj ?_
   first
   |refine yGT (fun K hK r => ?_)
    refine yas ?_
    refine hK _ _ ?_; clear hK K
   |refine yGF ?_
    refine yaj ?_
   refine zab (fun K hK r => ?_)
   refine yal ?_
   refine hK _ _ ?_; clear hK K
   refine zah rfl ?_
   (first | refine zaA (d := 24) rfl (fun g24 => ?_) (fun g24 => ?_) | skip)
   all_goals try (exfalso; exact cnA g24)
   all_goals (try replace g24 := yad g24)
   all_goals
    refine yaf ?_
    first
    |refine yGT (fun K hK r => ?_)
     refine yby ?_
     refine hK _ _ ?_; clear hK K
    |refine yGF ?_
     refine yaj ?_
    first
    |refine yGT (fun K hK r => ?_)
     refine yap ?_
     refine zae Try.underlying3 rfl hbA ldA ?_
     refine yaf ?_
     refine hK _ _ ?_; clear hK K
    |refine yGF ?_
     refine yaj ?_
    first
    |refine yGT (fun K hK r => ?_)
     refine ybW ?_
     refine hK _ _ ?_; clear hK K
    |refine yGF ?_
     refine yaj ?_
    first
    |refine yGT (fun K hK r => ?_)
     refine yap ?_
     refine zae Try.underlying3 rfl hbA ldA ?_
     refine yaf ?_
     refine hK _ _ ?_; clear hK K
    |refine yGF ?_
     refine yaj ?_
    first
    |refine yGT (fun K hK r => ?_)
     refine yas ?_
     refine hK _ _ ?_; clear hK K
    |refine yGF ?_
     refine yaj ?_
    refine zab (fun K hK r => ?_)
    refine yal ?_
    refine hK _ _ ?_; clear hK K
    refine zah rfl ?_
    (first | refine zaA (d := 31) rfl (fun g31 => ?_) (fun g31 => ?_) | skip)
    all_goals try (exfalso; exact cnA g31)
    all_goals (try replace g31 := yad g31)
    all_goals
     refine yaf ?_
     first
     |refine yGT (fun K hK r => ?_)
      refine ybz ?_
      refine hK _ _ ?_; clear hK K
     |refine yGF ?_
      refine yaj ?_
     first
     |refine yGT (fun K hK r => ?_)
      refine yap ?_
      refine zae Try.underlying3 rfl hbA ldA ?_
      refine yaf ?_
      refine hK _ _ ?_; clear hK K
     |refine yGF ?_
      refine yaj ?_
     first
     |refine yGT (fun K hK r => ?_)
      refine ybX ?_
      refine hK _ _ ?_; clear hK K
     |refine yGF ?_
      refine yaj ?_
     first
     |refine yGT (fun K hK r => ?_)
      refine yap ?_
      refine zae Try.underlying3 rfl hbA ldA ?_
      refine yaf ?_
      refine hK _ _ ?_; clear hK K
     |refine yGF ?_
      refine yaj ?_
     first
     |refine yGT (fun K hK r => ?_)
      refine yas ?_
      refine hK _ _ ?_; clear hK K
     |refine yGF ?_
      refine yaj ?_
     refine zab (fun K hK r => ?_)
     refine yal ?_
     refine hK _ _ ?_; clear hK K
     refine zah rfl ?_
     (first | refine zaA (d := 38) rfl (fun g38 => ?_) (fun g38 => ?_) | skip)
     all_goals try (exfalso; exact cnA g38)
     all_goals (try replace g38 := yad g38)
     all_goals
      refine yaf ?_
      first
      |refine yGT (fun K hK r => ?_)
       refine ybA ?_
       refine hK _ _ ?_; clear hK K
      |refine yGF ?_
       refine yaj ?_
      first
      |refine yGT (fun K hK r => ?_)
       refine yap ?_
       refine zae Try.underlying22 rfl hbA ldA ?_
       refine yaf ?_
       refine hK _ _ ?_; clear hK K
      |refine yGF ?_
       refine yaj ?_
      first
      |refine yGT (fun K hK r => ?_)
       refine ybS ?_
       refine hK _ _ ?_; clear hK K
      |refine yGF ?_
       refine yaj ?_
      first
      |refine yGT (fun K hK r => ?_)
       refine yap ?_
       refine zae Try.underlying22 rfl hbA ldA ?_
       refine yaf ?_
       refine hK _ _ ?_; clear hK K
      |refine yGF ?_
       refine yaj ?_
      first
      |refine yGT (fun K hK r => ?_)
       simp only [zaF _ bd41, List.map_toArray, List.map_cons, List.map_nil, eX, ↓reduceIte, Nat.reduceEqDiff, Int.reduceToNat]
       refine (num_Ints _ _ _ m.hd n.hd (hm.le lhA) (hn.le lhA) hml).mono ?_
       rintro v H' ⟨rfl, hq⟩
       have hq := hq.symm
       subst hq
       refine yaf ?_
       refine hK _ _ ?_; clear hK K
      |refine yGF ?_
       refine yaj ?_
      refine zab (fun K hK r => ?_)
      refine yal ?_
      refine hK _ _ ?_; clear hK K
      refine zaj rfl ?_
      refine zad ?_
      refine yab ?_
      refine hK2 _ _ ?_; try clear hK2 K2
      refine zaz ?_
      refine yab ?_
      refine ⟨[_], ⟨rfl, trivial⟩, H, lhA, ?_, rfl⟩
      show Value.bool _ = Value.bool _
      rw [Mf.eq_iff]
      simp_all
end Go.Proofs.Ytigofhhonnbkmaa.HL
end
section
namespace Go.Proofs.Ytigofhhonnbkmaa.HL
open Go Go.Proofs
set_option linter.unusedSimpArgs false
set_option linter.unusedVariables false
attribute [local irreducible] Lt Lq CW OW TW CallH
set_option maxRecDepth 100000 in
set_option maxHeartbeats 1000000 in
theorem rfCount_ok (H : Hp) (n : Nat) (hn : n < 18446744073709551616) : CallH Try.prog 46 #[.int .u64 n] H (fun v' H' => Le H H' ∧ ∃ rs, OwnS H' 5 1 v' (cnt n).length (u8s (cnt n)) rs ∧ ∀ r, rs = some r → H r = none) := by
 refine zam (l := [_]) (rl := [.tmp 2]) (n := 20) Try.func46 rfl rfl rfl rfl rfl ?_
 refine yaa ?_
 refine zac (fun K1 hK1 => ?_)
 refine zaa ?_
 refine zaj rfl ?_
 refine zad ?_
 refine yab ?_
 refine hK1 _ _ ?_; try clear hK1 K1
 refine zac (fun K2 hK2 => ?_)
 refine zaa ?_
 refine zaj rfl ?_
 refine zad ?_
 refine yab ?_
 refine hK2 _ _ ?_; try clear hK2 K2
 refine zac (fun K3 hK3 => ?_)
 refine zaB ?_
 refine CW_loop (fun m e H_ => ∃ (k : Nat) (a : List Int) (v : Value) (rs : Option Nat), m = k ∧ k ≤ n ∧ cnt n = a ++ cnt k ∧ a.length ≤ 10 ∧ OwnS H_ 5 1 v a.length (u8s a) rs ∧ (∀ r, rs = some r → H r = none) ∧ Le H H_ ∧ Env.has [(0, .int .u64 k), (3, v)] e) (n) ?_ ?_
 ·skip
  exact ⟨n, [], _, none, rfl, Nat.le_refl _, rfl, by simp, OwnS.nil _ _ _, (fun r hr => by cases hr), Le.refl _, rfl, rfl, trivial⟩
 intro m_ e_ H_ hI_
 obtain ⟨k, a, v, rs, rfl, hk, hc, ha, hox, hrs, hle, he⟩ := hI_
 have hl10 := cnt_len10 hn
 rw [hc, List.length_append] at hl10
 refine CW_env he.sub ?_; clear he e_
 refine zac (fun K4 hK4 => ?_)
 refine zac (fun K5 hK5 => ?_)
 refine zaa ?_
 refine zah rfl ?_
 refine zab (fun K hK r => ?_)
 refine yav ?_
 refine hK _ _ ?_; clear hK K
 refine zad ?_
 refine yab ?_
 refine hK5 _ _ ?_; try clear hK5 K5
 refine zar (fun r => rfl) (fun c5 => ?_) (fun c5 => ?_)
 ·first
  |(exfalso; exact cnA c5; done)
  |skip
   (try replace c5 := yad c5)
   have c5 : ¬ m_ < 128 := by omega
   refine zau ?_
   refine yab ?_
   refine hK4 _ _ ?_; try clear hK4 K4
   refine zaB ?_
   refine zac (fun K6 hK6 => ?_)
   refine zaa ?_
   refine zah rfl ?_
   refine zah rfl ?_
   refine zab (fun K hK r => ?_)
   refine ybP ?_
   rw [Int.tmod_eq_emod_of_nonneg (by omega)]
   refine hK _ _ ?_; clear hK K
   refine zab (fun K hK r => ?_)
   refine yaq ?_
   refine hK _ _ ?_; clear hK K
   refine zab (fun K hK r => ?_)
   refine ybj ?_
   try rw [c8 _ (by omega) (by omega)]
   refine hK _ _ ?_; clear hK K
   refine zab (fun K hK r => ?_)
   refine yaT ?_
   refine zaJ (vs := [_]) Try.underlying80 sz5 zr5 rfl bsA (by first | decide | (simp; done)) ?_
   refine yaU ?_
   intro b11 hb11
   have f11_H : H b11 = none := zag lhA hb11
   refine yaf ?_
   refine hK _ _ ?_; clear hK K
   refine zab (fun K hK r => ?_)
   refine yaV ?_
   refine Lt_append1 Try.underlying80 sz5 by5 (by decide) zr5 rfl _ (n := a.length) (hox.make hb11) hbA rfl (by omega) ?_
   intro v12 H12 rs12 hg12 ho12 hr12
   have lH12_H : Le H H12 := hg12.le (H0 := H) lhA (fun r hr => hrs r hr)
   refine hK _ _ ?_; clear hK K
   refine zaj rfl ?_
   refine zad ?_
   refine yab ?_
   refine hK6 _ _ ?_; try clear hK6 K6
   refine zaa ?_
   refine zah rfl ?_
   refine zab (fun K hK r => ?_)
   simp (disch := (first | omega | decide)) only [x_bin, g_int, b_quo, wrap_i64, wrap_u64, wrap_u32, wrap_u8, eX, ↓reduceIte, Nat.reduceEqDiff, Int.reduceToNat]
   rw [quo_u64 (by omega) (by omega) (by omega)]
   refine hK _ _ ?_; clear hK K
   refine zaj rfl ?_
   refine zad ?_
   refine yab ?_
   refine ⟨m_ / 128, by omega, m_ / 128, a ++ [((m_ % 128 + 128 : Nat) : Int)], v12, rs12, rfl, by omega, ?_, ?_, ?_, ?_, lH12_H, ?_, rfl, trivial⟩
   ·rw [hc, cnt_ge c5]; simp
   ·rw [cnt_ge c5] at hl10; simp at hl10 ⊢; omega
   ·have := ho12; rw [List.length_append, u8s, List.map_append]; exact this
   ·intro r hr
    rcases hr12 r hr with h | h
    ·exact hrs r h
    ·exact zag lhA h
   ·show some (Value.int _ _) = some (Value.int _ _)
    congr 2
 ·first
  |(exfalso; exact cnA c5; done)
  |skip
   (try replace c5 := yad c5)
   have c5 : m_ < 128 := by omega
   refine CW_exit ?_
   refine yab ?_
   refine hK3 _ _ ?_; try clear hK3 K3
   refine zac (fun K7 hK7 => ?_)
   refine zaa ?_
   refine zah rfl ?_
   refine zah rfl ?_
   refine zab (fun K hK r => ?_)
   refine ybj ?_
   try rw [c8 _ (by omega) (by omega)]
   refine hK _ _ ?_; clear hK K
   refine zab (fun K hK r => ?_)
   refine yaT ?_
   refine zaJ (vs := [_]) Try.underlying80 sz5 zr5 rfl bsA (by first | decide | (simp; done)) ?_
   refine yaU ?_
   intro b18 hb18
   have f18_H : H b18 = none := zag lhA hb18
   refine yaf ?_
   refine hK _ _ ?_; clear hK K
   refine zab (fun K hK r => ?_)
   refine yaV ?_
   refine Lt_append1 Try.underlying80 sz5 by5 (by decide) zr5 rfl _ (n := a.length) (hox.make hb18) hbA rfl (by omega) ?_
   intro v19 H19 rs19 hg19 ho19 hr19
   have lH19_H : Le H H19 := hg19.le (H0 := H) lhA (fun r hr => hrs r hr)
   refine hK _ _ ?_; clear hK K
   refine zaj rfl ?_
   refine zad ?_
   refine yab ?_
   refine hK7 _ _ ?_; try clear hK7 K7
   refine zaz ?_
   refine yab ?_
   refine ⟨[_], ⟨rfl, trivial⟩, _, Le.refl _, lH19_H, rs19, ?_, ?_⟩
   ·rw [hc, cnt_lt c5, List.length_append, u8s, List.map_append]; exact ho19
   ·intro r hr
    rcases hr19 r hr with h | h
    ·exact hrs r h
    ·exact zag lhA h
end Go.Proofs.Ytigofhhonnbkmaa.HL
end
