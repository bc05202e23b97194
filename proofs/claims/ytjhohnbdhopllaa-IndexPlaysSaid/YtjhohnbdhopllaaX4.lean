/- Parts of the proof, one behind the other: U19, U17, U20, U21, HLStY, U25, U22, U26, Md29d, U27, Md29e, U29, U30. -/
import Derived.Test.YtjhohnbdhopllaaX3
set_option linter.unusedSimpArgs false
set_option linter.unusedVariables false
section
namespace Go.Proofs.Ytjhohnbdhopllaa.HL
open Go Go.Proofs
set_option linter.unusedSimpArgs false
set_option linter.unusedVariables false
attribute [local irreducible] Lt Lq CW OW TW CallH
def farW (w : Wr) : Bool := !decide (0 ≤ w.t ∧ w.t < 4)
def stepE (E : Nat → List En) (w : Wr) : Nat → List En := if w.dead then setL E w.t.toNat (outK (E w.t.toNat) w.k) else setL E w.t.toNat (putE (outK (E w.t.toNat) w.k) ⟨w.v, w.k⟩)
def tellE (E : Nat → List En) (L : List Wr) : Nat → List En := if L.any farW then E else L.foldl stepE E
def SzE (E : Nat → List En) (n : Nat) : Prop := ∀ t, t < 4 → (E t).length ≤ n
theorem outK_len (l : List En) (k : Int) : (outK l k).length ≤ l.length := List.length_filter_le _ _
theorem SzE.step {E : Nat → List En} {n : Nat} (h : SzE E n) (w : Wr) (hw : farW w = false) : SzE (stepE E w) (n + 1) := by
  have hw' : 0 ≤ w.t ∧ w.t < 4 := by simpa [farW] using hw
  intro t ht
  have h1 := h t ht
  have h2 := h w.t.toNat (by omega)
  have h3 := outK_len (E w.t.toNat) w.k
  unfold stepE
  split
  · unfold setL; split <;> omega
  · unfold setL; split
    · rw [putE_len]; omega
    · omega
theorem SzE.up {E : Nat → List En} {n m : Nat} (h : SzE E n) (hm : n ≤ m) : SzE E m := fun t ht => Nat.le_trans (h t ht) hm
theorem SzE.fold {L : List Wr} : ∀ {E : Nat → List En} {n : Nat}, SzE E n → L.any farW = false → SzE (L.foldl stepE E) (n + L.length) := by
  induction L with
  | nil => intro E n h _; exact h
  | cons w r ih =>
    intro E n h hf
    rw [List.any_cons, Bool.or_eq_false_iff] at hf
    have := ih (h.step w hf.1) hf.2
    rw [List.foldl_cons]
    exact this.up (by simp; omega)
theorem any_take {L : List Wr} (h : L.any farW = false) (k : Nat) : (L.take k).any farW = false := by
  rw [List.any_eq_false] at h ⊢
  exact fun x hx => h x (List.mem_of_mem_take hx)
theorem SzE.tell {E : Nat → List En} {n : Nat} (h : SzE E n) (L : List Wr) : SzE (tellE E L) (n + L.length) := by
  unfold tellE
  split
  · exact h.up (by omega)
  · rename_i hf
    exact h.fold (by simpa using hf)
theorem foldl_take {α β : Type} [Inhabited α] (f : β → α → β) (z : β) {L : List α} {k : Nat} (h : k < L.length) : (L.take (k + 1)).foldl f z = f ((L.take k).foldl f z) (L.getD k default) := by
  rw [List.take_add_one, List.getElem?_eq_getElem h, List.getD_eq_getElem?_getD, List.getElem?_eq_getElem h, List.foldl_append]; rfl
set_option maxRecDepth 100000 in
set_option maxHeartbeats 1000000 in
theorem tell1i_ok (G : Hp) (b bx : Nat) (hbx : G bx = some (.cells #[.pointer (some ⟨b, 0, none⟩)] 27)) (w : Wr) (hin : 0 ≤ w.t ∧ w.t < 4) : CallH Try.prog 29 #[.agg w.c.toArray, .pointer (some ⟨bx, 0, none⟩)] G (fun v G' => v = .bool (farW w) ∧ G' = G) := by
 refine zaB (l := [_, _]) (rl := [.tmp 3]) (n := 16) Try.func29 rfl rfl rfl rfl rfl ?_
 simp only [envOf, Nat.reduceAdd]
 refine zad (fun K1 hK1 => ?_)
 refine zab ?_
 refine zac (fun K hK r => ?_)
 simp only [x_box, Value.cells, eX, ↓reduceIte, Nat.reduceEqDiff, Int.reduceToNat]
 intro b2 hb2
 try have n2_bx : bx ≠ b2 := zaz hbA hb2
 have f2_G : G b2 = none := zaj lhA hb2
 try simp only [eX, ↓reduceIte, Nat.reduceEqDiff, Int.reduceToNat]
 refine hK _ _ ?_; clear hK K
 refine zao rfl ?_
 refine zae ?_
 try simp only [Ex.thnH, Ex.inBlockH, ↓reduceIte, Nat.reduceEqDiff]
 refine hK1 _ _ ?_; try clear hK1 K1
 refine zad (fun K2 hK2 => ?_)
 refine zab ?_
 refine zac (fun K hK r => ?_)
 simp only [zar, eX, ↓reduceIte, Nat.reduceEqDiff, Int.reduceToNat]
 refine zak Try.underlying27 rfl hbA ldA ?_
 try simp only [eX, ↓reduceIte, Nat.reduceEqDiff, Int.reduceToNat]
 refine hK _ _ ?_; clear hK K
 refine zac (fun K hK r => ?_)
 simp only [zah, fa46_0, zaA, Nat.reduceAdd, Nat.zero_add, eX, ↓reduceIte, Nat.reduceEqDiff, Int.reduceToNat]
 refine hK _ _ ?_; clear hK K
 refine zac (fun K hK r => ?_)
 simp only [zah, fa44_0, zaA, Nat.reduceAdd, Nat.zero_add, eX, ↓reduceIte, Nat.reduceEqDiff, Int.reduceToNat]
 refine hK _ _ ?_; clear hK K
 refine zac (fun K hK r => ?_)
 simp only [zar, eX, ↓reduceIte, Nat.reduceEqDiff, Int.reduceToNat]
 refine zak Try.underlying3 rfl hbA ldA ?_
 try simp only [eX, ↓reduceIte, Nat.reduceEqDiff, Int.reduceToNat]
 refine hK _ _ ?_; clear hK K
 refine zac (fun K hK r => ?_)
 simp only [zaQ _ bd30, List.map_toArray, List.map_cons, List.map_nil, eX, ↓reduceIte, Nat.reduceEqDiff, Int.reduceToNat]
 refine (part_in _ b w.t hin).mono ?_
 rintro v H' ⟨rfl, hq⟩
 have hq := hq.symm
 subst hq
 try simp only [eX, ↓reduceIte, Nat.reduceEqDiff, Int.reduceToNat]
 refine hK _ _ ?_; clear hK K
 refine zag rfl ?_
 refine zac (fun K hK r => ?_)
 simp only [x_extract, i_extract, List.getElem?_toArray, List.getElem?_cons_zero, List.getElem?_cons_succ, zai, eX, ↓reduceIte, Nat.reduceEqDiff, Int.reduceToNat]
 refine hK _ _ ?_; clear hK K
 refine zac (fun K hK r => ?_)
 simp only [x_extract, i_extract, List.getElem?_toArray, List.getElem?_cons_zero, List.getElem?_cons_succ, zai, eX, ↓reduceIte, Nat.reduceEqDiff, Int.reduceToNat]
 refine hK _ _ ?_; clear hK K
 refine zao rfl ?_
 refine zao rfl ?_
 refine zae ?_
 try simp only [Ex.thnH, Ex.inBlockH, ↓reduceIte, Nat.reduceEqDiff]
 refine hK2 _ _ ?_; try clear hK2 K2
 refine zad (fun K3 hK3 => ?_)
 refine zab ?_
 refine zag rfl ?_
 refine zac (fun K hK r => ?_)
 simp only [x_un, u_not, eX, ↓reduceIte, Nat.reduceEqDiff, Int.reduceToNat]
 refine hK _ _ ?_; clear hK K
 refine zao rfl ?_
 refine zae ?_
 try simp only [Ex.thnH, Ex.inBlockH, ↓reduceIte, Nat.reduceEqDiff]
 refine hK3 _ _ ?_; try clear hK3 K3
 refine zaV ?_
 try simp only [Ex.thnH, Ex.inBlockH, ↓reduceIte, Nat.reduceEqDiff]
 refine ⟨[_], ⟨rfl, trivial⟩, G, lhA, ?_, rfl⟩
 show Value.bool _ = Value.bool _
 congr 1
 unfold farW
 rw [decide_eq_true hin]
set_option maxRecDepth 100000 in
set_option maxHeartbeats 1000000 in
theorem tell1o_ok (G : Hp) (b bx : Nat) (hbx : G bx = some (.cells #[.pointer (some ⟨b, 0, none⟩)] 27)) (w : Wr) (hin : ¬ (0 ≤ w.t ∧ w.t < 4)) : CallH Try.prog 29 #[.agg w.c.toArray, .pointer (some ⟨bx, 0, none⟩)] G (fun v G' => v = .bool (farW w) ∧ G' = G) := by
 refine zaB (l := [_, _]) (rl := [.tmp 3]) (n := 16) Try.func29 rfl rfl rfl rfl rfl ?_
 simp only [envOf, Nat.reduceAdd]
 refine zad (fun K1 hK1 => ?_)
 refine zab ?_
 refine zac (fun K hK r => ?_)
 simp only [x_box, Value.cells, eX, ↓reduceIte, Nat.reduceEqDiff, Int.reduceToNat]
 intro b2 hb2
 try have n2_bx : bx ≠ b2 := zaz hbA hb2
 have f2_G : G b2 = none := zaj lhA hb2
 try simp only [eX, ↓reduceIte, Nat.reduceEqDiff, Int.reduceToNat]
 refine hK _ _ ?_; clear hK K
 refine zao rfl ?_
 refine zae ?_
 try simp only [Ex.thnH, Ex.inBlockH, ↓reduceIte, Nat.reduceEqDiff]
 refine hK1 _ _ ?_; try clear hK1 K1
 refine zad (fun K2 hK2 => ?_)
 refine zab ?_
 refine zac (fun K hK r => ?_)
 simp only [zar, eX, ↓reduceIte, Nat.reduceEqDiff, Int.reduceToNat]
 refine zak Try.underlying27 rfl hbA ldA ?_
 try simp only [eX, ↓reduceIte, Nat.reduceEqDiff, Int.reduceToNat]
 refine hK _ _ ?_; clear hK K
 refine zac (fun K hK r => ?_)
 simp only [zah, fa46_0, zaA, Nat.reduceAdd, Nat.zero_add, eX, ↓reduceIte, Nat.reduceEqDiff, Int.reduceToNat]
 refine hK _ _ ?_; clear hK K
 refine zac (fun K hK r => ?_)
 simp only [zah, fa44_0, zaA, Nat.reduceAdd, Nat.zero_add, eX, ↓reduceIte, Nat.reduceEqDiff, Int.reduceToNat]
 refine hK _ _ ?_; clear hK K
 refine zac (fun K hK r => ?_)
 simp only [zar, eX, ↓reduceIte, Nat.reduceEqDiff, Int.reduceToNat]
 refine zak Try.underlying3 rfl hbA ldA ?_
 try simp only [eX, ↓reduceIte, Nat.reduceEqDiff, Int.reduceToNat]
 refine hK _ _ ?_; clear hK K
 refine zac (fun K hK r => ?_)
 simp only [zaQ _ bd30, List.map_toArray, List.map_cons, List.map_nil, eX, ↓reduceIte, Nat.reduceEqDiff, Int.reduceToNat]
 refine (part_out _ b w.t hin).mono ?_
 rintro v11 H11 ⟨hl11, pb, _, rfl, _⟩
 try simp only [eX, ↓reduceIte, Nat.reduceEqDiff, Int.reduceToNat]
 refine hK _ _ ?_; clear hK K
 refine zag rfl ?_
 refine zac (fun K hK r => ?_)
 simp only [x_extract, i_extract, List.getElem?_toArray, List.getElem?_cons_zero, List.getElem?_cons_succ, zai, eX, ↓reduceIte, Nat.reduceEqDiff, Int.reduceToNat]
 refine hK _ _ ?_; clear hK K
 refine zac (fun K hK r => ?_)
 simp only [x_extract, i_extract, List.getElem?_toArray, List.getElem?_cons_zero, List.getElem?_cons_succ, zai, eX, ↓reduceIte, Nat.reduceEqDiff, Int.reduceToNat]
 refine hK _ _ ?_; clear hK K
 refine zao rfl ?_
 refine zao rfl ?_
 refine zae ?_
 try simp only [Ex.thnH, Ex.inBlockH, ↓reduceIte, Nat.reduceEqDiff]
 refine hK2 _ _ ?_; try clear hK2 K2
 refine zad (fun K3 hK3 => ?_)
 refine zab ?_
 refine zag rfl ?_
 refine zac (fun K hK r => ?_)
 simp only [x_un, u_not, eX, ↓reduceIte, Nat.reduceEqDiff, Int.reduceToNat]
 refine hK _ _ ?_; clear hK K
 refine zao rfl ?_
 refine zae ?_
 try simp only [Ex.thnH, Ex.inBlockH, ↓reduceIte, Nat.reduceEqDiff]
 refine hK3 _ _ ?_; try clear hK3 K3
 refine zaV ?_
 try simp only [Ex.thnH, Ex.inBlockH, ↓reduceIte, Nat.reduceEqDiff]
 refine ⟨[_], ⟨rfl, trivial⟩, G, Le.trans lhA hl11, ?_, rfl⟩
 show Value.bool _ = Value.bool _
 congr 1
 unfold farW
 rw [decide_eq_false hin]
theorem tell1_ok (G : Hp) (b bx : Nat) (hbx : G bx = some (.cells #[.pointer (some ⟨b, 0, none⟩)] 27)) (w : Wr) : CallH Try.prog 29 #[.agg w.c.toArray, .pointer (some ⟨bx, 0, none⟩)] G (fun v G' => v = .bool (farW w) ∧ G' = G) := by
  by_cases hin : 0 ≤ w.t ∧ w.t < 4
  · exact tell1i_ok G b bx hbx w hin
  · exact tell1o_ok G b bx hbx w hin
theorem take_snocA {α : Type} [Inhabited α] {l : List α} {k : Nat} (h : k < l.length) : l.take (k + 1) = l.take k ++ [l.getD k default] := by
  rw [List.take_add_one, List.getElem?_eq_getElem h, List.getD_eq_getElem?_getD, List.getElem?_eq_getElem h]; rfl
set_option maxRecDepth 100000 in
set_option maxHeartbeats 1000000 in
theorem indexW_ok (H : Hp) (a : Option Addr) (cap : Nat) (l : List Wr) (hv : Holds H 4 (.slice a l.length cap) l.length (wrs l)) (gf : Fn) (ga gb : Array Value) (P : Wr → Bool) (hP : ∀ k, ValH Try.prog (.func gf ga gb) #[.agg k.c.toArray] H (fun v H' => v = .bool (P k) ∧ H' = H)) (hl : l.length ≤ 1000000) :
 CallH Try.prog 47 #[.slice a l.length cap, .func gf ga gb] H (fun v H' => H' = H ∧ ∃ ix : Int, v = .int .i64 ix ∧ ((0 ≤ ix ∧ l.any P = true) ∨ (ix = -1 ∧ l.any P = false))) := by
 refine zaB (l := [_, _]) (rl := [.tmp 4]) (n := 19) Try.func47 rfl rfl rfl rfl rfl ?_
 simp only [envOf, Nat.reduceAdd]
 refine zad (fun K1 hK1 => ?_)
 refine zab ?_
 refine zao rfl ?_
 refine zae ?_
 try simp only [Ex.thnH, Ex.inBlockH, ↓reduceIte, Nat.reduceEqDiff]
 refine hK1 _ _ ?_; try clear hK1 K1
 refine zad (fun K2 hK2 => ?_)
 refine zad (fun K3 hK3 => ?_)
 refine zab ?_
 refine zag rfl ?_
 refine zac (fun K hK r => ?_)
 simp only [zaC, l_len, List.map_toArray, List.map_cons, List.map_nil, zaF _ _ Try.underlying29, eX, ↓reduceIte, Nat.reduceEqDiff, Int.reduceToNat]
 refine hK _ _ ?_; clear hK K
 refine zag rfl ?_
 refine zae ?_
 try simp only [Ex.thnH, Ex.inBlockH, ↓reduceIte, Nat.reduceEqDiff]
 refine hK3 _ _ ?_; try clear hK3 K3
 refine zaP ?_
 refine CW_loop (fun m e H_ => ∃ k : Nat, k ≤ l.length ∧ m = l.length - k ∧ (l.take k).any P = false ∧ H_ = H ∧ Env.has [(0, .slice a l.length cap), (1, .func gf ga gb), (7, .int .i64 l.length), (8, .int .i64 k)] e) (l.length) ?_ ?_
 ·skip
  exact ⟨0, by omega, by omega, by simp, rfl, rfl, rfl, rfl, rfl, trivial⟩
 intro m_ e_ H_ hI_
 obtain ⟨k, hk, rfl, hno, hH_, he⟩ := hI_
 have hH_ := hH_.symm; subst hH_
 refine CW_env he.sub ?_; clear he e_
 refine zad (fun K4 hK4 => ?_)
 refine zab ?_
 refine zac (fun K hK r => ?_)
 simp (disch := (first | omega | decide)) only [zaI, zaM, b_lss, zau, zaw, zat, zax, zas, zay, Bool.not_true, Bool.not_false, eX, ↓reduceIte, Nat.reduceEqDiff, Int.reduceToNat]
 refine hK _ _ ?_; clear hK K
 refine zae ?_
 try simp only [Ex.thnH, Ex.inBlockH, ↓reduceIte, Nat.reduceEqDiff]
 refine hK4 _ _ ?_; try clear hK4 K4
 refine zad (fun K5 hK5 => ?_)
 refine zaH (fun r => rfl) (fun c9 => ?_) (fun c9 => ?_)
 ·first
  |(exfalso; exact cnA c9; done)
  |skip
   (try simp only [decide_eq_true_eq, decide_eq_false_iff_not, Bool.not_eq_true, Bool.not_eq_false, Bool.and_eq_true, Bool.or_eq_true, Bool.or_eq_false_iff, Bool.not_eq_eq_eq_not, Bool.not_true, Bool.not_false] at c9)
   obtain ⟨bw, ow, cw, Tw, Fw, ew, hbw, hsw, atw⟩ := hv.at (by omega)
   refine zaL ?_
   try simp only [Ex.thnH, Ex.inBlockH, ↓reduceIte, Nat.reduceEqDiff]
   refine hK5 _ _ ?_; try clear hK5 K5
   refine zad (fun K6 hK6 => ?_)
   refine zaP ?_
   refine zad (fun K7 hK7 => ?_)
   refine zab ?_
   refine zag rfl ?_
   refine zao rfl ?_
   refine zae ?_
   try simp only [Ex.thnH, Ex.inBlockH, ↓reduceIte, Nat.reduceEqDiff]
   refine hK7 _ _ ?_; try clear hK7 K7
   refine zad (fun K8 hK8 => ?_)
   refine zab ?_
   refine zag rfl ?_
   refine zag rfl ?_
   refine zag rfl ?_
   refine zac (fun K hK r => ?_)
   simp only [zav, eX, ↓reduceIte, Nat.reduceEqDiff, Int.reduceToNat]
   refine zaN Try.underlying29 sz46 ew ixA ixA ?_
   try simp only [Int.toNat_natCast]
   refine hK _ _ ?_; clear hK K
   refine zac (fun K hK r => ?_)
   simp only [zar, eX, ↓reduceIte, Nat.reduceEqDiff, Int.reduceToNat]
   refine zaS Try.underlying46 rfl sz46 hbw (by omega) ?_
   rw [ext_at Wr.len atw rfl k (by omega) hsw]
   refine hK _ _ ?_; clear hK K
   refine zac (fun K hK r => ?_)
   simp only [x_call, List.map_toArray, List.map_cons, List.map_nil, eX, ↓reduceIte, Nat.reduceEqDiff, Int.reduceToNat]
   show ValH _ _ _ _ _
   refine (hP (l.getD k default)).mono ?_
   rintro v H' ⟨rfl, hq⟩
   have hq := hq.symm
   subst hq
   try simp only [eX, ↓reduceIte, Nat.reduceEqDiff, Int.reduceToNat]
   refine hK _ _ ?_; clear hK K
   refine zae ?_
   try simp only [Ex.thnH, Ex.inBlockH, ↓reduceIte, Nat.reduceEqDiff]
   refine hK8 _ _ ?_; try clear hK8 K8
   refine zaH (fun r => rfl) (fun c16 => ?_) (fun c16 => ?_)
   ·first
    |(exfalso; exact cnA c16; done)
    |skip
     (try simp only [decide_eq_true_eq, decide_eq_false_iff_not, Bool.not_eq_true, Bool.not_eq_false, Bool.and_eq_true, Bool.or_eq_true, Bool.or_eq_false_iff, Bool.not_eq_eq_eq_not, Bool.not_true, Bool.not_false] at c16)
     refine zad (fun K9 hK9 => ?_)
     refine zab ?_
     refine zag rfl ?_
     refine zao rfl ?_
     refine zae ?_
     try simp only [Ex.thnH, Ex.inBlockH, ↓reduceIte, Nat.reduceEqDiff]
     refine hK9 _ _ ?_; try clear hK9 K9
     refine zaV ?_
     try simp only [Ex.thnH, Ex.inBlockH, ↓reduceIte, Nat.reduceEqDiff]
     refine ⟨[_], ⟨rfl, trivial⟩, _, Le.refl _, rfl, _, rfl, .inl ⟨by omega, ?_⟩⟩
     rw [List.any_eq_true]
     refine ⟨l.getD k default, ?_, c16⟩
     rw [List.getD_eq_getElem?_getD, List.getElem?_eq_getElem (by omega)]
     exact List.getElem_mem (by omega)
   ·first
    |(exfalso; exact cnA c16; done)
    |skip
     (try simp only [decide_eq_true_eq, decide_eq_false_iff_not, Bool.not_eq_true, Bool.not_eq_false, Bool.and_eq_true, Bool.or_eq_true, Bool.or_eq_false_iff, Bool.not_eq_eq_eq_not, Bool.not_true, Bool.not_false] at c16)
     refine zaL ?_
     try simp only [Ex.thnH, Ex.inBlockH, ↓reduceIte, Nat.reduceEqDiff]
     refine hK6 _ _ ?_; try clear hK6 K6
     refine zab ?_
     refine zac (fun K hK r => ?_)
     simp (disch := (first | omega | decide)) only [zaI, zaM, b_add, zaG, zaK, zaJ, zaR, eX, ↓reduceIte, Nat.reduceEqDiff, Int.reduceToNat]
     refine hK _ _ ?_; clear hK K
     refine zag rfl ?_
     refine zae ?_
     try simp only [Ex.thnH, Ex.inBlockH, ↓reduceIte, Nat.reduceEqDiff]
     refine ⟨l.length - (k + 1), by omega, k + 1, by omega, rfl, ?_, rfA, rfl, rfl, rfl, rfl, trivial⟩
     rw [take_snocA (by omega), List.any_append, hno]
     simp only [List.any_cons, List.any_nil, Bool.or_false, Bool.false_or]
     exact c16
 ·first
  |(exfalso; exact cnA c9; done)
  |skip
   (try simp only [decide_eq_true_eq, decide_eq_false_iff_not, Bool.not_eq_true, Bool.not_eq_false, Bool.and_eq_true, Bool.or_eq_true, Bool.or_eq_false_iff, Bool.not_eq_eq_eq_not, Bool.not_true, Bool.not_false] at c9)
   have hkn : k = l.length := by omega
   refine CW_exit ?_
   try simp only [Ex.thnH, Ex.inBlockH, ↓reduceIte, Nat.reduceEqDiff]
   refine hK2 _ _ ?_; try clear hK2 K2
   refine zad (fun K10 hK10 => ?_)
   refine zab ?_
   refine zao rfl ?_
   refine zae ?_
   try simp only [Ex.thnH, Ex.inBlockH, ↓reduceIte, Nat.reduceEqDiff]
   refine hK10 _ _ ?_; try clear hK10 K10
   refine zaV ?_
   try simp only [Ex.thnH, Ex.inBlockH, ↓reduceIte, Nat.reduceEqDiff]
   subst hkn
   rw [List.take_length] at hno
   exact ⟨[_], ⟨rfl, trivial⟩, _, Le.refl _, rfl, _, rfl, .inr ⟨rfl, hno⟩⟩
set_option maxRecDepth 100000 in
set_option maxHeartbeats 1000000 in
theorem containsW_ok (H : Hp) (a : Option Addr) (cap : Nat) (l : List Wr) (hv : Holds H 4 (.slice a l.length cap) l.length (wrs l)) (gf : Fn) (ga gb : Array Value) (P : Wr → Bool) (hP : ∀ k, ValH Try.prog (.func gf ga gb) #[.agg k.c.toArray] H (fun v H' => v = .bool (P k) ∧ H' = H)) (hl : l.length ≤ 1000000) :
 CallH Try.prog 31 #[.slice a l.length cap, .func gf ga gb] H (fun v H' => v = .bool (l.any P) ∧ H' = H) := by
 refine zaB (l := [_, _]) (rl := [.tmp 4]) (n := 9) Try.func31 rfl rfl rfl rfl rfl ?_
 simp only [envOf, Nat.reduceAdd]
 refine zad (fun K1 hK1 => ?_)
 refine zab ?_
 refine zao rfl ?_
 refine zae ?_
 try simp only [Ex.thnH, Ex.inBlockH, ↓reduceIte, Nat.reduceEqDiff]
 refine hK1 _ _ ?_; try clear hK1 K1
 refine zad (fun K2 hK2 => ?_)
 refine zab ?_
 refine zag rfl ?_
 refine zag rfl ?_
 refine zac (fun K hK r => ?_)
 simp only [zaQ _ bd47, List.map_toArray, List.map_cons, List.map_nil, eX, ↓reduceIte, Nat.reduceEqDiff, Int.reduceToNat]
 refine (indexW_ok _ a cap l hv gf ga gb P hP hl).mono ?_
 rintro v H' ⟨hq, ix, rfl, hix⟩
 have hq := hq.symm
 subst hq
 try simp only [eX, ↓reduceIte, Nat.reduceEqDiff, Int.reduceToNat]
 refine hK _ _ ?_; clear hK K
 refine zac (fun K hK r => ?_)
 simp (disch := (first | omega | decide)) only [zaI, zaM, b_geq, zau, zaw, zat, zax, zas, zay, Bool.not_true, Bool.not_false, eX, ↓reduceIte, Nat.reduceEqDiff, Int.reduceToNat]
 refine hK _ _ ?_; clear hK K
 refine zao rfl ?_
 refine zae ?_
 try simp only [Ex.thnH, Ex.inBlockH, ↓reduceIte, Nat.reduceEqDiff]
 refine hK2 _ _ ?_; try clear hK2 K2
 refine zaV ?_
 try simp only [Ex.thnH, Ex.inBlockH, ↓reduceIte, Nat.reduceEqDiff]
 refine ⟨[_], ⟨rfl, trivial⟩, _, Le.refl _, ?_, rfl⟩
 show Value.bool _ = Value.bool _
 congr 1
 rcases hix with ⟨h1, h2⟩ | ⟨h1, h2⟩
 ·rw [h2]; simp; omega
 ·rw [h2]; simp; omega
set_option maxRecDepth 100000 in
set_option maxHeartbeats 1000000 in
theorem tell_ok (G Q : Hp) (b : Nat) (E : Nat → List En) (h : StX (IX b E) G Q) (a : Option Addr) (cap : Nat) (L : List Wr) (hv : Holds G 4 (.slice a L.length cap) L.length (wrs L)) (n : Nat) (hE : SzE E n) (hn : n + L.length ≤ 100000) : CallH Try.prog 10 #[.pointer (some ⟨b, 0, none⟩), .slice a L.length cap] Q (fun v Q' => v = errV (if L.any farW then some 1 else none) ∧ StX (IX b (tellE E L)) G Q') := by
 refine zaB (l := [_, _]) (rl := [.tmp 4]) (n := 48) Try.func10 rfl rfl rfl rfl rfl ?_
 simp only [envOf, Nat.reduceAdd]
 have hGQ := h.old
 refine zad (fun K1 hK1 => ?_)
 refine zab ?_
 refine zac (fun K hK r => ?_)
 simp only [x_box, Value.cells, eX, ↓reduceIte, Nat.reduceEqDiff, Int.reduceToNat]
 intro b2 hb2
 have f2_G : G b2 = none := zaj lhA hb2
 have f2_Q : Q b2 = none := zaj lhA hb2
 have hS2 := h.put (b := b2) (.inl f2_Q) (.cells #[.pointer (some ⟨b, 0, none⟩)] 27)
 have l2G : Le G (G.upd b2 (.cells #[.pointer (some ⟨b, 0, none⟩)] 27)) := zal (Le.refl _) f2_G
 try simp only [eX, ↓reduceIte, Nat.reduceEqDiff, Int.reduceToNat]
 refine hK _ _ ?_; clear hK K
 refine zao rfl ?_
 refine zae ?_
 try simp only [Ex.thnH, Ex.inBlockH, ↓reduceIte, Nat.reduceEqDiff]
 refine hK1 _ _ ?_; try clear hK1 K1
 refine zad (fun K2 hK2 => ?_)
 refine zab ?_
 refine zac (fun K hK r => ?_)
 simp only [x_makeFunc, List.map_toArray, List.map_cons, List.map_nil, eX, ↓reduceIte, Nat.reduceEqDiff, Int.reduceToNat]
 refine hK _ _ ?_; clear hK K
 refine zao rfl ?_
 refine zae ?_
 try simp only [Ex.thnH, Ex.inBlockH, ↓reduceIte, Nat.reduceEqDiff]
 refine hK2 _ _ ?_; try clear hK2 K2
 refine zad (fun K3 hK3 => ?_)
 refine zad (fun K4 hK4 => ?_)
 refine zab ?_
 refine zac (fun K hK r => ?_)
 simp only [zar, eX, ↓reduceIte, Nat.reduceEqDiff, Int.reduceToNat]
 refine zak Try.underlying27 rfl hbA ldA ?_
 try simp only [eX, ↓reduceIte, Nat.reduceEqDiff, Int.reduceToNat]
 refine hK _ _ ?_; clear hK K
 refine zac (fun K hK r => ?_)
 simp only [zaI, zaM, g_bool, g_string, g_pointer, g_slice, g_map, g_func, g_nilFunc, g_iface, g_nil_iface, g_nil_r, g_nil_l, eX, ↓reduceIte, Nat.reduceEqDiff, Int.reduceToNat]
 rw [e_eql _ _ _ _ (by simp)]
 rw [q_equal]
 first | rw [q_ptr_nil _ _ _ Try.underlying27] | rw [q_nil_ptr _ _ _ Try.underlying27]
 try simp only [eX, ↓reduceIte, Nat.reduceEqDiff, Int.reduceToNat]
 refine hK _ _ ?_; clear hK K
 refine zag rfl ?_
 (first | refine OW_split (d := 12) rfl (fun g12 => ?_) (fun g12 => ?_) | skip)
 all_goals try (exfalso; exact cnA g12)
 all_goals (try simp only [decide_eq_true_eq, decide_eq_false_iff_not, Bool.not_eq_true, Bool.not_eq_false, Bool.and_eq_true, Bool.or_eq_true, Bool.or_eq_false_iff, Bool.not_eq_eq_eq_not, Bool.not_true, Bool.not_false] at g12)
 all_goals
  try simp only [eX, ↓reduceIte, Nat.reduceEqDiff, Int.reduceToNat]
  first
  |refine zam rfl (zaa (by decide)) rfl (fun K hK r => ?_)
   simp only [zaq, eX, ↓reduceIte, Nat.reduceEqDiff, Int.reduceToNat]
   refine hK _ _ ?_; clear hK K
  |refine zan rfl (zaa (by decide)) rfl ?_
   simp only [eX, ↓reduceIte, Nat.reduceEqDiff, Int.reduceToNat]
  first
  |refine zam rfl (zaa (by decide)) rfl (fun K hK r => ?_)
   simp only [zaq, eX, ↓reduceIte, Nat.reduceEqDiff, Int.reduceToNat]
   refine hK _ _ ?_; clear hK K
  |refine zan rfl (zaa (by decide)) rfl ?_
   simp only [eX, ↓reduceIte, Nat.reduceEqDiff, Int.reduceToNat]
  first
  |refine zam rfl (zaa (by decide)) rfl (fun K hK r => ?_)
   simp only [zaQ _ bd31, List.map_toArray, List.map_cons, List.map_nil, eX, ↓reduceIte, Nat.reduceEqDiff, Int.reduceToNat]
   refine (containsW_ok _ a cap L (hv.le (Le.trans h.old lhA)) (.func 29) #[] #[.pointer (some ⟨b2, 0, none⟩)] farW (fun w => ValH_func bd29 (tell1_ok _ b b2 hbA w)) (by omega)).mono ?_
   rintro v H' ⟨rfl, hq⟩
   have hq := hq.symm
   subst hq
   try simp only [eX, ↓reduceIte, Nat.reduceEqDiff, Int.reduceToNat]
   refine hK _ _ ?_; clear hK K
  |refine zan rfl (zaa (by decide)) rfl ?_
   simp only [eX, ↓reduceIte, Nat.reduceEqDiff, Int.reduceToNat]
  refine zac (fun K hK r => ?_)
  simp only [x_pick, l_asBool, HL.ite_bool, if_true, if_false, Bool.false_eq_true, eX, ↓reduceIte, Nat.reduceEqDiff, Int.reduceToNat]
  refine hK _ _ ?_; clear hK K
  refine zae ?_
  try simp only [Ex.thnH, Ex.inBlockH, ↓reduceIte, Nat.reduceEqDiff]
  refine hK4 _ _ ?_; try clear hK4 K4
  refine zaH (fun r => rfl) (fun c16 => ?_) (fun c16 => ?_)
  ·first
   |(exfalso; exact cnA c16; done)
   |skip
    have hany : L.any farW = true := by simpa using c16
    refine zad (fun K5 hK5 => ?_)
    refine zab ?_
    refine zac (fun K hK r => ?_)
    simp only [x_makeInterface, i_makeInterface, Try.underlying61, zai, eX, ↓reduceIte, Nat.reduceEqDiff, Int.reduceToNat]
    refine hK _ _ ?_; clear hK K
    refine zao rfl ?_
    refine zae ?_
    try simp only [Ex.thnH, Ex.inBlockH, ↓reduceIte, Nat.reduceEqDiff]
    refine hK5 _ _ ?_; try clear hK5 K5
    refine zaV ?_
    try simp only [Ex.thnH, Ex.inBlockH, ↓reduceIte, Nat.reduceEqDiff]
    refine ⟨[_], ⟨rfl, trivial⟩, _, Le.refl _, ?_, ?_⟩
    ·rw [hany]; rfl
    ·unfold tellE
     rw [if_pos hany]
     exact hS2.less (zal (Le.refl _) f2_G)
  ·first
   |(exfalso; exact cnA c16; done)
   |skip
    have hany : L.any farW = false := by simpa using c16
    obtain ⟨G2, hG2⟩ : ∃ G2 : Hp, G2 = G.upd b2 (.cells #[.pointer (some ⟨b, 0, none⟩)] 27) := ⟨_, rfl⟩
    rw [← hG2] at hS2 l2G
    have hv2 := hv.le l2G
    have hg2 : G2 b2 = some (.cells #[.pointer (some ⟨b, 0, none⟩)] 27) := by rw [hG2]; exact zap _ _ _
    refine zaL ?_
    try simp only [Ex.thnH, Ex.inBlockH, ↓reduceIte, Nat.reduceEqDiff]
    refine hK3 _ _ ?_; try clear hK3 K3
    refine zad (fun K6 hK6 => ?_)
    refine zad (fun K7 hK7 => ?_)
    refine zab ?_
    refine zag rfl ?_
    refine zac (fun K hK r => ?_)
    simp only [zaC, l_len, List.map_toArray, List.map_cons, List.map_nil, zaF _ _ Try.underlying29, eX, ↓reduceIte, Nat.reduceEqDiff, Int.reduceToNat]
    refine hK _ _ ?_; clear hK K
    refine zag rfl ?_
    refine zae ?_
    try simp only [Ex.thnH, Ex.inBlockH, ↓reduceIte, Nat.reduceEqDiff]
    refine hK7 _ _ ?_; try clear hK7 K7
    refine zaP ?_
    refine CW_loop (fun m e H_ => ∃ k : Nat, k ≤ L.length ∧ m = L.length - k ∧ StX (IX b ((L.take k).foldl stepE E)) G2 H_ ∧ Env.has [(2, .pointer (some ⟨b2, 0, none⟩)), (18, .slice a L.length cap), (19, .int .i64 L.length), (20, .int .i64 k)] e) (L.length) ?_ ?_
    ·skip
     exact ⟨0, by omega, by omega, hS2, rfl, rfl, rfl, rfl, trivial⟩
    intro m_ e_ H_ hI_
    obtain ⟨k, hk, rfl, hS_, he⟩ := hI_
    have hk2 := hS_.old _ _ hg2
    refine CW_env he.sub ?_; clear he e_
    refine zad (fun K8 hK8 => ?_)
    refine zab ?_
    refine zac (fun K hK r => ?_)
    simp (disch := (first | omega | decide)) only [zaI, zaM, b_lss, zau, zaw, zat, zax, zas, zay, Bool.not_true, Bool.not_false, eX, ↓reduceIte, Nat.reduceEqDiff, Int.reduceToNat]
    refine hK _ _ ?_; clear hK K
    refine zae ?_
    try simp only [Ex.thnH, Ex.inBlockH, ↓reduceIte, Nat.reduceEqDiff]
    refine hK8 _ _ ?_; try clear hK8 K8
    refine zad (fun K9 hK9 => ?_)
    refine zaH (fun r => rfl) (fun c21 => ?_) (fun c21 => ?_)
    ·first
     |(exfalso; exact cnA c21; done)
     |skip
      (try simp only [decide_eq_true_eq, decide_eq_false_iff_not, Bool.not_eq_true, Bool.not_eq_false, Bool.and_eq_true, Bool.or_eq_true, Bool.or_eq_false_iff, Bool.not_eq_eq_eq_not, Bool.not_true, Bool.not_false] at c21)
      obtain ⟨bw, ow, cw, Tw, Fw, ew, hbw, hsw, atw⟩ := (hv2.le hS_.old).at (by omega)
      obtain ⟨w, hw⟩ : ∃ w, w = L.getD k default := ⟨_, rfl⟩
      have hwm : w ∈ L := by rw [hw, List.getD_eq_getElem?_getD, List.getElem?_eq_getElem (by omega)]; exact List.getElem_mem (by omega)
      have hwf : farW w = false := by have := List.any_eq_false.1 hany w hwm; simpa using this
      have hwt : 0 ≤ w.t ∧ w.t < 4 := by simpa [farW] using hwf
      have htt : w.t.toNat < 4 := by omega
      have hsz := (SzE.fold hE (any_take hany k)).up (m := 100000) (by rw [List.length_take]; omega)
      have hll := hsz w.t.toNat htt
      refine zaL ?_
      try simp only [Ex.thnH, Ex.inBlockH, ↓reduceIte, Nat.reduceEqDiff]
      refine hK9 _ _ ?_; try clear hK9 K9
      refine zad (fun K10 hK10 => ?_)
      refine zaP ?_
      refine zad (fun K11 hK11 => ?_)
      refine zab ?_
      refine zac (fun K hK r => ?_)
      simp only [zav, eX, ↓reduceIte, Nat.reduceEqDiff, Int.reduceToNat]
      refine zaN Try.underlying29 sz46 ew ixA ixA ?_
      try simp only [Int.toNat_natCast]
      refine hK _ _ ?_; clear hK K
      refine zac (fun K hK r => ?_)
      simp only [zar, eX, ↓reduceIte, Nat.reduceEqDiff, Int.reduceToNat]
      refine zaS Try.underlying46 rfl sz46 hbw (by omega) ?_
      rw [ext_at Wr.len atw rfl k (by omega) hsw, ← hw]
      refine hK _ _ ?_; clear hK K
      refine zac (fun K hK r => ?_)
      simp only [x_alloc, zr46, zai, Value.cells, eX, ↓reduceIte, Nat.reduceEqDiff, Int.reduceToNat]
      intro b7 hb7
      try have n7_b2 : b2 ≠ b7 := zaz hbA hb7
      try simp only [eX, ↓reduceIte, Nat.reduceEqDiff, Int.reduceToNat]
      refine hK _ _ ?_; clear hK K
      refine OW_op rfl (lt_none) (fun K hK r => ?_)
      simp only [x_store, eX, ↓reduceIte, Nat.reduceEqDiff, Int.reduceToNat]
      first | refine Lt_storeAll sz46 bdA hbA bdA plA (by decide) ?_ | refine Lt_storeAtA sz46 bdA hbA bdA plA (by decide) ?_
      try simp only [eX, ↓reduceIte, Nat.reduceEqDiff, Int.reduceToNat]
      refine hK _ _ ?_; clear hK K
      refine zae ?_
      try simp only [Ex.thnH, Ex.inBlockH, ↓reduceIte, Nat.reduceEqDiff]
      refine hK11 _ _ ?_; try clear hK11 K11
      refine zad (fun K12 hK12 => ?_)
      refine CW_drawE [1, 0, 0, 1, 0, 0, 0, 0] [0, 1, 2, 3, 4, 5, 6, 7] (by kernel_rfl) (by kernel_rfl) (fun R7 hR7 => ?_)
      apply zaW rfl (zaa (by decide)) rfl
      ·intro r
       simp only [zar, eX, ↓reduceIte, Nat.reduceEqDiff]
       refine zak Try.underlying27 rfl hbA ldA ?_
       exact ⟨rfl, Le.refl _⟩
      simp only [eX, ↓reduceIte, Nat.reduceEqDiff, Int.reduceToNat]
      apply zaf rfl (zaa (by decide)) rfl
      ·intro r
       simp only [zah, fa46_0, zaA, Nat.reduceAdd, Nat.zero_add, eX, ↓reduceIte, Nat.reduceEqDiff]
       exact ⟨rfl, Le.refl _⟩
      simp only [eX, ↓reduceIte, Nat.reduceEqDiff, Int.reduceToNat]
      apply zaf rfl (zaa (by decide)) rfl
      ·intro r
       simp only [zah, fa44_0, zaA, Nat.reduceAdd, Nat.zero_add, eX, ↓reduceIte, Nat.reduceEqDiff]
       exact ⟨rfl, Le.refl _⟩
      simp only [eX, ↓reduceIte, Nat.reduceEqDiff, Int.reduceToNat]
      apply zaW rfl (zaa (by decide)) rfl
      ·intro r
       simp only [zar, eX, ↓reduceIte, Nat.reduceEqDiff]
       refine zak Try.underlying3 rfl hbA ldA ?_
       exact ⟨rfl, Le.refl _⟩
      simp only [eX, ↓reduceIte, Nat.reduceEqDiff, Int.reduceToNat]
      apply zaf rfl (zaa (by decide)) rfl
      ·intro r
       rw [zaT _ _ rfl]
       exact ⟨rfl, Le.refl _⟩
      simp only [eX, ↓reduceIte, Nat.reduceEqDiff, Int.reduceToNat]
      apply zaf rfl (zaa (by decide)) rfl
      ·intro r
       simp only [zah, fa74_0, zaA, Nat.reduceAdd, Nat.zero_add, eX, ↓reduceIte, Nat.reduceEqDiff]
       exact ⟨rfl, Le.refl _⟩
      simp only [eX, ↓reduceIte, Nat.reduceEqDiff, Int.reduceToNat]
      apply zaf rfl (zaa (by decide)) rfl
      ·intro r
       simp only [zav, eX, ↓reduceIte, Nat.reduceEqDiff]
       refine Lt_indexA Try.underlying72 sz71 ixA ixA ?_
       try simp only [zaA, Nat.mul_one, Nat.zero_add, Int.reduceToNat]
       exact ⟨rfl, Le.refl _⟩
      simp only [eX, ↓reduceIte, Nat.reduceEqDiff, Int.reduceToNat]
      apply zaf rfl (zaa (by decide)) rfl
      ·intro r
       simp only [x_assign, eX, ↓reduceIte, Nat.reduceEqDiff]
       exact ⟨rfl, Le.refl _⟩
      simp only [eX, ↓reduceIte, Nat.reduceEqDiff, Int.reduceToNat]
      refine TW_nil ?_
      try simp only [Ex.thnH, Ex.inBlockH, ↓reduceIte, Nat.reduceEqDiff]
      refine hK12 _ _ ?_; try clear hK12 K12
      refine zad (fun K13 hK13 => ?_)
      refine zab ?_
      refine zag rfl ?_
      refine zac (fun K hK r => ?_)
      simp only [zah, fa46_0, zaA, Nat.reduceAdd, Nat.zero_add, eX, ↓reduceIte, Nat.reduceEqDiff, Int.reduceToNat]
      refine hK _ _ ?_; clear hK K
      refine zac (fun K hK r => ?_)
      simp only [zah, fa44_1, zaA, Nat.reduceAdd, Nat.zero_add, eX, ↓reduceIte, Nat.reduceEqDiff, Int.reduceToNat]
      refine hK _ _ ?_; clear hK K
      refine zac (fun K hK r => ?_)
      simp only [zar, eX, ↓reduceIte, Nat.reduceEqDiff, Int.reduceToNat]
      refine zak Try.underlying3 rfl hbA ldA ?_
      try simp only [eX, ↓reduceIte, Nat.reduceEqDiff, Int.reduceToNat]
      refine hK _ _ ?_; clear hK K
      refine zac (fun K hK r => ?_)
      simp only [zaQ _ bd32, List.map_toArray, List.map_cons, List.map_nil, eX, ↓reduceIte, Nat.reduceEqDiff, Int.reduceToNat]
      have hS7 := hS_.put (b := b7) (.inl hb7) (.cells w.c.toArray 46)
      have f7_G2 := zaj hS_.old hb7
      refine (hS7.call1 (V := fun v => v = .tuple #[]) (fun F hF => ixdrop hF htt hll w.k)).mono ?_
      rintro v35 H35 ⟨rfl, hS35⟩
      have k35_b7 := hS35.old b7 _ (zap _ _ _)
      have k35_b2 := hS35.old b2 _ (by rw [zaE _ _ n7_b2]; exact hg2)
      try simp only [eX, ↓reduceIte, Nat.reduceEqDiff, Int.reduceToNat]
      refine hK _ _ ?_; clear hK K
      refine zae ?_
      try simp only [Ex.thnH, Ex.inBlockH, ↓reduceIte, Nat.reduceEqDiff]
      refine hK13 _ _ ?_; try clear hK13 K13
      refine zad (fun K14 hK14 => ?_)
      refine zab ?_
      refine zac (fun K hK r => ?_)
      simp only [zah, fa46_2, zaA, Nat.reduceAdd, Nat.zero_add, eX, ↓reduceIte, Nat.reduceEqDiff, Int.reduceToNat]
      refine hK _ _ ?_; clear hK K
      refine zac (fun K hK r => ?_)
      simp only [zar, eX, ↓reduceIte, Nat.reduceEqDiff, Int.reduceToNat]
      refine zak Try.underlying4 rfl hbA ldA ?_
      try simp only [eX, ↓reduceIte, Nat.reduceEqDiff, Int.reduceToNat]
      refine hK _ _ ?_; clear hK K
      refine zac (fun K hK r => ?_)
      simp only [x_un, u_not, eX, ↓reduceIte, Nat.reduceEqDiff, Int.reduceToNat]
      refine hK _ _ ?_; clear hK K
      refine zae ?_
      try simp only [Ex.thnH, Ex.inBlockH, ↓reduceIte, Nat.reduceEqDiff]
      refine hK14 _ _ ?_; try clear hK14 K14
      refine zaH (fun r => rfl) (fun c38 => ?_) (fun c38 => ?_)
      ·first
       |(exfalso; exact cnA c38; done)
       |skip
        have hd : w.dead = false := by simpa using c38
        have hll2 : ((setL (List.foldl stepE E (List.take k L)) w.t.toNat (outK ((List.foldl stepE E (List.take k L)) w.t.toNat) w.k)) w.t.toNat).length ≤ 100000 := by unfold setL; rw [if_pos rfl]; exact Nat.le_trans (outK_len _ _) hll
        have hno : ∀ x ∈ (setL (List.foldl stepE E (List.take k L)) w.t.toNat (outK ((List.foldl stepE E (List.take k L)) w.t.toNat) w.k)) w.t.toNat, x.k ≠ w.k := by unfold setL; rw [if_pos rfl]; exact fun x hx => outK_no x hx
        refine zab ?_
        refine zag rfl ?_
        refine zac (fun K hK r => ?_)
        simp only [zah, fa46_1, zaA, Nat.reduceAdd, Nat.zero_add, eX, ↓reduceIte, Nat.reduceEqDiff, Int.reduceToNat]
        refine hK _ _ ?_; clear hK K
        refine zac (fun K hK r => ?_)
        simp only [zar, eX, ↓reduceIte, Nat.reduceEqDiff, Int.reduceToNat]
        refine zak Try.underlying3 rfl hbA ldA ?_
        try simp only [eX, ↓reduceIte, Nat.reduceEqDiff, Int.reduceToNat]
        refine hK _ _ ?_; clear hK K
        refine zac (fun K hK r => ?_)
        simp only [zah, fa46_0, zaA, Nat.reduceAdd, Nat.zero_add, eX, ↓reduceIte, Nat.reduceEqDiff, Int.reduceToNat]
        refine hK _ _ ?_; clear hK K
        refine zac (fun K hK r => ?_)
        simp only [zah, fa44_1, zaA, Nat.reduceAdd, Nat.zero_add, eX, ↓reduceIte, Nat.reduceEqDiff, Int.reduceToNat]
        refine hK _ _ ?_; clear hK K
        refine zac (fun K hK r => ?_)
        simp only [zar, eX, ↓reduceIte, Nat.reduceEqDiff, Int.reduceToNat]
        refine zak Try.underlying3 rfl hbA ldA ?_
        try simp only [eX, ↓reduceIte, Nat.reduceEqDiff, Int.reduceToNat]
        refine hK _ _ ?_; clear hK K
        refine zac (fun K hK r => ?_)
        simp only [x_build, bp38, List.map_toArray, List.map_cons, List.map_nil, eX, ↓reduceIte, Nat.reduceEqDiff, Int.reduceToNat]
        rw [fill_one rfl clA bdA]
        rw [fill_one rfl clA bdA]
        simp only [fill_nil, zai, List.setIfInBounds_toArray, List.set_cons_zero, List.set_cons_succ]
        try simp only [eX, ↓reduceIte, Nat.reduceEqDiff, Int.reduceToNat]
        refine hK _ _ ?_; clear hK K
        refine zac (fun K hK r => ?_)
        simp only [zaQ _ bd33, List.map_toArray, List.map_cons, List.map_nil, eX, ↓reduceIte, Nat.reduceEqDiff, Int.reduceToNat]
        refine (hS35.call1 (V := fun v => v = .tuple #[]) (fun F hF => ixput hF htt hll2 ⟨w.v, w.k⟩ hno)).mono ?_
        rintro v46 H46 ⟨rfl, hS46⟩
        try simp only [eX, ↓reduceIte, Nat.reduceEqDiff, Int.reduceToNat]
        refine hK _ _ ?_; clear hK K
        refine zae ?_
        try simp only [Ex.thnH, Ex.inBlockH, ↓reduceIte, Nat.reduceEqDiff]
        refine hK10 _ _ ?_; try clear hK10 K10
        refine zab ?_
        refine zac (fun K hK r => ?_)
        simp (disch := (first | omega | decide)) only [zaI, zaM, b_add, zaG, zaK, zaJ, zaR, eX, ↓reduceIte, Nat.reduceEqDiff, Int.reduceToNat]
        refine hK _ _ ?_; clear hK K
        refine zag rfl ?_
        refine zae ?_
        try simp only [Ex.thnH, Ex.inBlockH, ↓reduceIte, Nat.reduceEqDiff]
        first
        |refine ⟨L.length - (k + 1), by omega, k + 1, by omega, rfl, ?_, rfl, rfl, rfl, rfl, trivial⟩
        rw [foldl_take _ _ (by omega), ← hw]
        unfold stepE
        rw [hd]
        first
        |(simp only [Bool.false_eq_true, if_false]
          have h9 := hS46.less (H' := G2) (zal (Le.refl _) f7_G2)
          refine h9.imp (fun F hF => ?_)
          have e : setL (setL (List.foldl stepE E (List.take k L)) w.t.toNat (outK ((List.foldl stepE E (List.take k L)) w.t.toNat) w.k)) w.t.toNat (putE ((setL (List.foldl stepE E (List.take k L)) w.t.toNat (outK ((List.foldl stepE E (List.take k L)) w.t.toNat) w.k)) w.t.toNat) ⟨w.v, w.k⟩) = setL (List.foldl stepE E (List.take k L)) w.t.toNat (putE (outK ((List.foldl stepE E (List.take k L)) w.t.toNat) w.k) ⟨w.v, w.k⟩) := by
           funext u
           unfold setL
           split
           ·simp
           ·rfl
          rw [e] at hF
          exact hF)
        |(simp only [if_true]; exact hS35.less (H' := G2) (zal (Le.refl _) f7_G2))
      ·first
       |(exfalso; exact cnA c38; done)
       |skip
        have hd : w.dead = true := by simpa using c38
        refine zaL ?_
        try simp only [Ex.thnH, Ex.inBlockH, ↓reduceIte, Nat.reduceEqDiff]
        refine hK10 _ _ ?_; try clear hK10 K10
        refine zab ?_
        refine zac (fun K hK r => ?_)
        simp (disch := (first | omega | decide)) only [zaI, zaM, b_add, zaG, zaK, zaJ, zaR, eX, ↓reduceIte, Nat.reduceEqDiff, Int.reduceToNat]
        refine hK _ _ ?_; clear hK K
        refine zag rfl ?_
        refine zae ?_
        try simp only [Ex.thnH, Ex.inBlockH, ↓reduceIte, Nat.reduceEqDiff]
        first
        |refine ⟨L.length - (k + 1), by omega, k + 1, by omega, rfl, ?_, rfl, rfl, rfl, rfl, trivial⟩
        rw [foldl_take _ _ (by omega), ← hw]
        unfold stepE
        rw [hd]
        first
        |(simp only [Bool.false_eq_true, if_false]
          have h9 := hS46.less (H' := G2) (zal (Le.refl _) f7_G2)
          refine h9.imp (fun F hF => ?_)
          have e : setL (setL (List.foldl stepE E (List.take k L)) w.t.toNat (outK ((List.foldl stepE E (List.take k L)) w.t.toNat) w.k)) w.t.toNat (putE ((setL (List.foldl stepE E (List.take k L)) w.t.toNat (outK ((List.foldl stepE E (List.take k L)) w.t.toNat) w.k)) w.t.toNat) ⟨w.v, w.k⟩) = setL (List.foldl stepE E (List.take k L)) w.t.toNat (putE (outK ((List.foldl stepE E (List.take k L)) w.t.toNat) w.k) ⟨w.v, w.k⟩) := by
           funext u
           unfold setL
           split
           ·simp
           ·rfl
          rw [e] at hF
          exact hF)
        |(simp only [if_true]; exact hS35.less (H' := G2) (zal (Le.refl _) f7_G2))
    ·first
     |(exfalso; exact cnA c21; done)
     |skip
      (try simp only [decide_eq_true_eq, decide_eq_false_iff_not, Bool.not_eq_true, Bool.not_eq_false, Bool.and_eq_true, Bool.or_eq_true, Bool.or_eq_false_iff, Bool.not_eq_eq_eq_not, Bool.not_true, Bool.not_false] at c21)
      obtain rfl : k = L.length := by omega
      refine CW_exit ?_
      try simp only [Ex.thnH, Ex.inBlockH, ↓reduceIte, Nat.reduceEqDiff]
      refine hK6 _ _ ?_; try clear hK6 K6
      refine zad (fun K15 hK15 => ?_)
      refine zab ?_
      refine zao rfl ?_
      refine zae ?_
      try simp only [Ex.thnH, Ex.inBlockH, ↓reduceIte, Nat.reduceEqDiff]
      refine hK15 _ _ ?_; try clear hK15 K15
      refine zaV ?_
      try simp only [Ex.thnH, Ex.inBlockH, ↓reduceIte, Nat.reduceEqDiff]
      refine ⟨[_], ⟨rfl, trivial⟩, _, Le.refl _, ?_, ?_⟩
      ·rw [hany]; rfl
      ·unfold tellE
       rw [if_neg (by rw [hany]; simp)]
       rw [List.take_length] at hS_
       exact hS_.less l2G
end Go.Proofs.Ytjhohnbdhopllaa.HL
end
section
namespace Go.Proofs.Ytjhohnbdhopllaa.HL
open Go Go.Proofs
set_option linter.unusedSimpArgs false
set_option linter.unusedVariables false
attribute [local irreducible] Lt Lq CW OW TW CallH
set_option maxRecDepth 100000 in
set_option maxHeartbeats 1000000 in
theorem clnE_ok (H : Hp) (v : Value) (n : Nat) (cs : List Value) (hv : Holds H 2 v n cs) (hp : PlainL cs) (hn : n ≤ 1000000) : CallH Try.prog 34 #[v] H (fun v' H' => Le H H' ∧ ∃ rs, OwnS H' 38 2 v' n cs rs ∧ ∀ r, rs = some r → H r = none) := by
 refine zaB (l := [_]) (rl := [.tmp 2]) (n := 8) Try.func34 rfl rfl rfl rfl rfl ?_
 simp only [envOf, Nat.reduceAdd]
 obtain ⟨a, cap, rfl⟩ := hv.form
 refine zad (fun K1 hK1 => ?_)
 refine zab ?_
 refine zao rfl ?_
 refine zae ?_
 try simp only [Ex.thnH, Ex.inBlockH, ↓reduceIte, Nat.reduceEqDiff]
 refine hK1 _ _ ?_; try clear hK1 K1
 refine zad (fun K2 hK2 => ?_)
 refine zad (fun K3 hK3 => ?_)
 refine zab ?_
 refine zag rfl ?_
 refine zac (fun K hK r => ?_)
 simp only [zaI, zaM, g_bool, g_string, g_pointer, g_slice, g_map, g_func, g_nilFunc, g_iface, g_nil_iface, g_nil_r, g_nil_l, eX, ↓reduceIte, Nat.reduceEqDiff, Int.reduceToNat]
 rw [e_eql _ _ _ _ (by simp)]
 rw [q_equal, q_slice_nil _ _ _ Try.underlying33]
 try simp only [eX, ↓reduceIte, Nat.reduceEqDiff, Int.reduceToNat]
 refine hK _ _ ?_; clear hK K
 refine zae ?_
 try simp only [Ex.thnH, Ex.inBlockH, ↓reduceIte, Nat.reduceEqDiff]
 refine hK3 _ _ ?_; try clear hK3 K3
 refine zaH (fun r => rfl) (fun c4 => ?_) (fun c4 => ?_)
 ·first
  |(exfalso; exact cnA c4; done)
  |skip
   (try simp only [decide_eq_true_eq, decide_eq_false_iff_not, Bool.not_eq_true, Bool.not_eq_false, Bool.and_eq_true, Bool.or_eq_true, Bool.or_eq_false_iff, Bool.not_eq_eq_eq_not, Bool.not_true, Bool.not_false] at c4)
   refine zad (fun K4 hK4 => ?_)
   refine zab ?_
   refine zao rfl ?_
   refine zae ?_
   try simp only [Ex.thnH, Ex.inBlockH, ↓reduceIte, Nat.reduceEqDiff]
   refine hK4 _ _ ?_; try clear hK4 K4
   refine zaV ?_
   try simp only [Ex.thnH, Ex.inBlockH, ↓reduceIte, Nat.reduceEqDiff]
   have ha : a = none := by cases a with
    |none => rfl
    |some A => simp at c4
   subst ha
   have h0 : cs = [] ∧ n = 0 := by
    obtain ⟨h1, ⟨_, _, h2, h3⟩ | ⟨b, o, c, _, _, _, h2, _⟩⟩ := hv
    ·subst h3; exact ⟨List.eq_nil_of_length_eq_zero (by omega), rfl⟩
    ·cases h2
   obtain ⟨rfl, rfl⟩ := h0
   exact ⟨[_], ⟨rfl, trivial⟩, _, Le.refl _, Le.refl _, none, OwnS.nil _ _ _, fun r hr => by cases hr⟩
 ·first
  |(exfalso; exact cnA c4; done)
  |skip
   (try simp only [decide_eq_true_eq, decide_eq_false_iff_not, Bool.not_eq_true, Bool.not_eq_false, Bool.and_eq_true, Bool.or_eq_true, Bool.or_eq_false_iff, Bool.not_eq_eq_eq_not, Bool.not_true, Bool.not_false] at c4)
   refine zaL ?_
   try simp only [Ex.thnH, Ex.inBlockH, ↓reduceIte, Nat.reduceEqDiff]
   refine hK2 _ _ ?_; try clear hK2 K2
   refine zad (fun K5 hK5 => ?_)
   refine zab ?_
   refine zac (fun K hK r => ?_)
   simp only [x_buildSlice, List.map_toArray, List.map_cons, List.map_nil, eX, ↓reduceIte, Nat.reduceEqDiff, Int.reduceToNat]
   refine Lt_buildSlice (vs := []) Try.underlying33 sz38 zr38 rfl bsA (by first | decide | (simp; done)) ?_
   simp only [List.flatMap_cons, List.flatMap_nil, Value.cells, List.append_nil, List.cons_append, List.nil_append, List.length_cons, List.length_nil, Nat.zero_add, Nat.reduceAdd]
   intro b5 hb5
   have f5_H : H b5 = none := zaj lhA hb5
   try simp only [eX, ↓reduceIte, Nat.reduceEqDiff, Int.reduceToNat]
   refine hK _ _ ?_; clear hK K
   refine zag rfl ?_
   refine zac (fun K hK r => ?_)
   simp only [zaC, l_append, List.map_toArray, List.map_cons, List.map_nil, eX, ↓reduceIte, Nat.reduceEqDiff, Int.reduceToNat]
   refine Lt_appendNew Try.underlying33 sz38 by38 (by decide) zr38 rfl _ hbA (hv.le lhA) (hp) (by omega) ?_
   intro v7 H7 rs7 hg7 ho7 hr7
   have lH7_H : Le H H7 := hg7.le (H0 := H) lhA (fun r hr => by cases hr; exact f5_H)
   refine hK _ _ ?_; clear hK K
   refine zao rfl ?_
   refine zae ?_
   try simp only [Ex.thnH, Ex.inBlockH, ↓reduceIte, Nat.reduceEqDiff]
   refine hK5 _ _ ?_; try clear hK5 K5
   refine zaV ?_
   try simp only [Ex.thnH, Ex.inBlockH, ↓reduceIte, Nat.reduceEqDiff]
   exact ⟨[_], ⟨rfl, trivial⟩, _, Le.refl _, lH7_H, rs7, ho7, fun r hr => by
    rcases hr7 r hr with h | h
    ·subst h; exact f5_H
    ·exact zaj lhA h⟩
end Go.Proofs.Ytjhohnbdhopllaa.HL
end
section
namespace Go.Proofs.Ytjhohnbdhopllaa.HL
open Go Go.Proofs
set_option linter.unusedSimpArgs false
set_option linter.unusedVariables false
attribute [local irreducible] Lt Lq CW OW TW CallH
abbrev TEn (l : List En) : Nat → List Value → Hp → Prop := Tpure (fun i => [.agg (l.getD i default).c.toArray])
set_option maxRecDepth 100000 in
set_option maxHeartbeats 1000000 in
theorem Values_ok (H : Hp) (a : Option Addr) (n cap : Nat) : CallH Try.prog 39 #[.slice a n cap] H (fun v' H' => ∃ b1, H b1 = none ∧ v' = .func (.func 53) #[] #[.pointer (some ⟨b1, 0, none⟩)] ∧ H' = H.upd b1 (.cells #[.slice a n cap] 33)) := by
 refine zaB (l := [_]) (rl := [.tmp 2]) (n := 4) Try.func39 rfl rfl rfl rfl rfl ?_
 simp only [envOf, Nat.reduceAdd]
 refine zad (fun K1 hK1 => ?_)
 refine zab ?_
 refine zac (fun K hK r => ?_)
 simp only [x_box, Value.cells, eX, ↓reduceIte, Nat.reduceEqDiff, Int.reduceToNat]
 intro b1 hb1
 have f1_H : H b1 = none := zaj lhA hb1
 try simp only [eX, ↓reduceIte, Nat.reduceEqDiff, Int.reduceToNat]
 refine hK _ _ ?_; clear hK K
 refine zao rfl ?_
 refine zae ?_
 try simp only [Ex.thnH, Ex.inBlockH, ↓reduceIte, Nat.reduceEqDiff]
 refine hK1 _ _ ?_; try clear hK1 K1
 refine zad (fun K2 hK2 => ?_)
 refine zab ?_
 refine zac (fun K hK r => ?_)
 simp only [x_makeFunc, List.map_toArray, List.map_cons, List.map_nil, eX, ↓reduceIte, Nat.reduceEqDiff, Int.reduceToNat]
 refine hK _ _ ?_; clear hK K
 refine zao rfl ?_
 refine zae ?_
 try simp only [Ex.thnH, Ex.inBlockH, ↓reduceIte, Nat.reduceEqDiff]
 refine hK2 _ _ ?_; try clear hK2 K2
 refine zaV ?_
 try simp only [Ex.thnH, Ex.inBlockH, ↓reduceIte, Nat.reduceEqDiff]
 exact ⟨[_], ⟨rfl, trivial⟩, _, Le.refl _, b1, hb1, rfl, rfl⟩
set_option maxRecDepth 100000 in
set_option maxHeartbeats 4000000 in
theorem values1_ok (H0 : Hp) (b1 : Nat) (a : Option Addr) (cap : Nat) (l : List En) (hv : Holds H0 2 (.slice a l.length cap) l.length (ens l)) (h1 : H0 b1 = some (.cells #[.slice a l.length cap] 33)) (hl : l.length ≤ 1000000) (yf : Fn) (ya yb : Array Value) (J : Nat → Hp → Prop) (S : Hp → Prop) (H : Hp) (hle : ∀ i H, J i H → Le H0 H) (hy : ∀ i, i < l.length → ∀ H, J i H → ∀ args F, TEn l i args F → H.apart F → ValH Try.prog (.func yf ya yb) args.toArray (H.join F) (fun v H2 => ∃ H3, Le H3 H2 ∧ ((v = .bool true ∧ J (i + 1) H3) ∨ (v = .bool false ∧ S H3)))) (hj : J 0 H) :
 CallH Try.prog 53 #[.func yf ya yb, .pointer (some ⟨b1, 0, none⟩)] H (fun _ H2 => ∃ H3, Le H3 H2 ∧ (J l.length H3 ∨ S H3)) := by
 refine zaB (l := [_, _]) (rl := []) (n := 16) Try.func53 rfl rfl rfl rfl rfl ?_
 simp only [envOf, Nat.reduceAdd]
 have hk1 := hle 0 H hj _ _ h1
 refine zad (fun K1 hK1 => ?_)
 refine zab ?_
 refine zac (fun K hK r => ?_)
 simp only [zar, eX, ↓reduceIte, Nat.reduceEqDiff, Int.reduceToNat]
 refine zak Try.underlying33 rfl hbA ldA ?_
 try simp only [eX, ↓reduceIte, Nat.reduceEqDiff, Int.reduceToNat]
 refine hK _ _ ?_; clear hK K
 refine zac (fun K hK r => ?_)
 simp only [zaC, l_len, List.map_toArray, List.map_cons, List.map_nil, zaF _ _ Try.underlying33, eX, ↓reduceIte, Nat.reduceEqDiff, Int.reduceToNat]
 refine hK _ _ ?_; clear hK K
 refine zag rfl ?_
 refine zae ?_
 try simp only [Ex.thnH, Ex.inBlockH, ↓reduceIte, Nat.reduceEqDiff]
 refine hK1 _ _ ?_; try clear hK1 K1
 refine zaP ?_
 refine CW_loop (fun m e H_ => ∃ (k : Nat) (HJ : Hp), k ≤ l.length ∧ m = l.length - k ∧ J k HJ ∧ Le HJ H_ ∧ Env.has [(0, .func yf ya yb), (5, .slice a l.length cap), (6, .int .i64 l.length), (7, .int .i64 k)] e) (l.length) ?_ ?_
 ·skip
  exact ⟨0, H, by omega, by omega, hj, Le.refl _, rfl, rfl, rfl, rfl, trivial⟩
 intro m_ e_ H_ hI_
 obtain ⟨k, HJ, hk, rfl, hJ, hlJ, he⟩ := hI_
 have hl0 := Le.trans (hle k HJ hJ) hlJ
 refine CW_env he.sub ?_; clear he e_
 refine zad (fun K2 hK2 => ?_)
 refine zab ?_
 refine zac (fun K hK r => ?_)
 simp (disch := (first | omega | decide)) only [zaI, zaM, b_lss, zau, zaw, zat, zax, zas, zay, Bool.not_true, Bool.not_false, eX, ↓reduceIte, Nat.reduceEqDiff, Int.reduceToNat]
 refine hK _ _ ?_; clear hK K
 refine zae ?_
 try simp only [Ex.thnH, Ex.inBlockH, ↓reduceIte, Nat.reduceEqDiff]
 refine hK2 _ _ ?_; try clear hK2 K2
 refine zad (fun K3 hK3 => ?_)
 refine zaH (fun r => rfl) (fun c8 => ?_) (fun c8 => ?_)
 ·first
  |(exfalso; exact cnA c8; done)
  |skip
   (try simp only [decide_eq_true_eq, decide_eq_false_iff_not, Bool.not_eq_true, Bool.not_eq_false, Bool.and_eq_true, Bool.or_eq_true, Bool.or_eq_false_iff, Bool.not_eq_eq_eq_not, Bool.not_true, Bool.not_false] at c8)
   obtain ⟨bw, ow, cw, Tw, Fw, ew, hbw, hsw, atw⟩ := (hv.le hl0).at (by omega)
   refine zaL ?_
   try simp only [Ex.thnH, Ex.inBlockH, ↓reduceIte, Nat.reduceEqDiff]
   refine hK3 _ _ ?_; try clear hK3 K3
   refine zad (fun K4 hK4 => ?_)
   refine zaP ?_
   refine zad (fun K5 hK5 => ?_)
   refine zab ?_
   refine zac (fun K hK r => ?_)
   simp only [zav, eX, ↓reduceIte, Nat.reduceEqDiff, Int.reduceToNat]
   refine zaN Try.underlying33 sz38 ew ixA ixA ?_
   try simp only [Int.toNat_natCast]
   refine hK _ _ ?_; clear hK K
   refine zac (fun K hK r => ?_)
   simp only [zar, eX, ↓reduceIte, Nat.reduceEqDiff, Int.reduceToNat]
   refine zaS Try.underlying38 rfl sz38 hbw (by omega) ?_
   rw [ext_at En.len atw rfl k (by omega) hsw]
   refine hK _ _ ?_; clear hK K
   refine zac (fun K hK r => ?_)
   simp only [x_alloc, zr38, zai, Value.cells, eX, ↓reduceIte, Nat.reduceEqDiff, Int.reduceToNat]
   intro b4 hb4
   try simp only [eX, ↓reduceIte, Nat.reduceEqDiff, Int.reduceToNat]
   refine hK _ _ ?_; clear hK K
   refine OW_op rfl (lt_none) (fun K hK r => ?_)
   simp only [x_store, eX, ↓reduceIte, Nat.reduceEqDiff, Int.reduceToNat]
   first | refine Lt_storeAll sz38 bdA hbA bdA plA (by decide) ?_ | refine Lt_storeAtA sz38 bdA hbA bdA plA (by decide) ?_
   try simp only [eX, ↓reduceIte, Nat.reduceEqDiff, Int.reduceToNat]
   refine hK _ _ ?_; clear hK K
   refine zae ?_
   try simp only [Ex.thnH, Ex.inBlockH, ↓reduceIte, Nat.reduceEqDiff]
   refine hK5 _ _ ?_; try clear hK5 K5
   refine zad (fun K6 hK6 => ?_)
   refine zab ?_
   refine zag rfl ?_
   refine zac (fun K hK r => ?_)
   simp only [zar, eX, ↓reduceIte, Nat.reduceEqDiff, Int.reduceToNat]
   first | refine Lt_loadAll Try.underlying38 rfl sz38 hbA bdA ?_ | refine zaS Try.underlying38 rfl sz38 hbA bdA ?_
   try simp only [List.extract_toArray, List.extract_eq_take_drop, Nat.zero_add, Nat.reduceAdd, Nat.reduceSub, Nat.sub_zero, List.drop_succ_cons, List.drop_zero, List.take_succ_cons, List.take_zero, List.take_nil, List.drop_nil]
   try simp only [eX, ↓reduceIte, Nat.reduceEqDiff, Int.reduceToNat]
   refine hK _ _ ?_; clear hK K
   refine zac (fun K hK r => ?_)
   simp only [x_call, List.map_toArray, List.map_cons, List.map_nil, eX, ↓reduceIte, Nat.reduceEqDiff, Int.reduceToNat]
   show ValH _ _ _ _ _
   refine (Iter.yield0 (hy k (by omega) HJ hJ _ emptyHp ⟨rfl, rfl⟩ (apart_empty _)) (zal hlJ (zaj hlJ hb4))).mono ?_
   rintro v13 H13 ⟨t, H3, rfl, hl3, hyes, hno, _⟩
   try simp only [eX, ↓reduceIte, Nat.reduceEqDiff, Int.reduceToNat]
   refine hK _ _ ?_; clear hK K
   refine zac (fun K hK r => ?_)
   simp only [x_un, u_not, eX, ↓reduceIte, Nat.reduceEqDiff, Int.reduceToNat]
   refine hK _ _ ?_; clear hK K
   refine zae ?_
   try simp only [Ex.thnH, Ex.inBlockH, ↓reduceIte, Nat.reduceEqDiff]
   refine hK6 _ _ ?_; try clear hK6 K6
   refine zaH (fun r => rfl) (fun c14 => ?_) (fun c14 => ?_)
   ·first
    |(exfalso; exact cnA c14; done)
    |skip
     have q14 := c14
     refine zaV ?_
     try simp only [Ex.thnH, Ex.inBlockH, ↓reduceIte, Nat.reduceEqDiff]
     exact ⟨[], trivial, _, Le.refl _, H3, hl3, .inr (hno (by simpa using q14))⟩
   ·first
    |(exfalso; exact cnA c14; done)
    |skip
     have ht : t = true := by simpa using c14
     have hJ3 := hyes ht
     refine zaL ?_
     try simp only [Ex.thnH, Ex.inBlockH, ↓reduceIte, Nat.reduceEqDiff]
     refine hK4 _ _ ?_; try clear hK4 K4
     refine zab ?_
     refine zac (fun K hK r => ?_)
     simp (disch := (first | omega | decide)) only [zaI, zaM, b_add, zaG, zaK, zaJ, zaR, eX, ↓reduceIte, Nat.reduceEqDiff, Int.reduceToNat]
     refine hK _ _ ?_; clear hK K
     refine zag rfl ?_
     refine zae ?_
     try simp only [Ex.thnH, Ex.inBlockH, ↓reduceIte, Nat.reduceEqDiff]
     exact ⟨l.length - (k + 1), by omega, k + 1, H3, by omega, rfl, hJ3, hl3, rfl, rfl, rfl, rfl, trivial⟩
 ·first
  |(exfalso; exact cnA c8; done)
  |skip
   (try simp only [decide_eq_true_eq, decide_eq_false_iff_not, Bool.not_eq_true, Bool.not_eq_false, Bool.and_eq_true, Bool.or_eq_true, Bool.or_eq_false_iff, Bool.not_eq_eq_eq_not, Bool.not_true, Bool.not_false] at c8)
   have hkN : k = l.length := by omega
   refine CW_exit ?_
   try simp only [Ex.thnH, Ex.inBlockH, ↓reduceIte, Nat.reduceEqDiff]
   subst hkN
   exact ⟨[], trivial, _, Le.refl _, HJ, hlJ, .inl hJ⟩
theorem iter_vals (H0 : Hp) (b1 : Nat) (a : Option Addr) (cap : Nat) (l : List En) (hv : Holds H0 2 (.slice a l.length cap) l.length (ens l)) (h1 : H0 b1 = some (.cells #[.slice a l.length cap] 33)) (hl : l.length ≤ 1000000) : Iter Try.prog (.func (.func 53) #[] #[.pointer (some ⟨b1, 0, none⟩)]) H0 l.length (TEn l) :=
  fun yf ya yb J S H hle hy hj => ValH_func bd53 (values1_ok H0 b1 a cap l hv h1 hl yf ya yb J S H hle hy hj)
theorem XV.tab_nil {K : Hp} {x : Value} {E : Nat → List En} (h : XV K x E) {t : Int} (hn : (!XNil x && decide (0 ≤ t ∧ t < 4)) = false) : tabE E t = [] := by
  unfold tabE
  split
  · rename_i ht
    rcases h with ⟨rfl, hE⟩ | ⟨b, rfl, _⟩
    · exact hE _
    · rw [decide_eq_true ht] at hn; cases hn
  · rfl
def Seq (G G' : Hp) (v : Value) (l : List En) : Prop := Le G G' ∧ ∃ N, Le N G' ∧ (∀ b, N b ≠ none → G b = none) ∧ Iter Try.prog v N l.length (TEn l)
theorem seq_of {G G1 : Hp} {s : Value} {l : List En} {rs : Option Nat} (hl : Le G G1) (ho : OwnS G1 38 2 s l.length (ens l) rs) (hr : ∀ r, rs = some r → G r = none) (hn : l.length ≤ 1000000) : CallH Try.prog 39 #[s] G1 (fun v G' => Seq G G' v l) := by
  obtain ⟨a, cap, rfl⟩ := ho.holds.form
  refine (Values_ok G1 a l.length cap).mono ?_
  rintro v G' ⟨b1, hb1, rfl, rfl⟩
  refine ⟨zal hl (zaj hl hb1), ?_⟩
  rcases Nat.eq_zero_or_pos l.length with h0 | h0
  · refine ⟨emptyHp.upd b1 (.cells #[.slice a l.length cap] 33), ?_, ?_, iter_vals _ b1 a cap l ⟨by rw [ens_len], .inl ⟨a, cap, by rw [h0], h0⟩⟩ (zap _ _ _) hn⟩
    · intro x o hx
      by_cases e : x = b1
      · subst e; rw [zap] at hx ⊢; exact hx
      · rw [zaE _ _ e] at hx; cases hx
    · intro x hx
      by_cases e : x = b1
      · subst e; exact zaj hl hb1
      · rw [zaE _ _ e] at hx; exact absurd rfl hx
  · obtain ⟨r, o, hrs, hro, hof⟩ := ho.frag h0
    have hr1 : r ≠ b1 := zaz hro hb1
    have hlN : Le (emptyHp.upd r o) ((emptyHp.upd r o).upd b1 (.cells #[.slice a l.length cap] 33)) := zal (Le.refl _) (by rw [zaE _ _ (Ne.symm hr1)]; rfl)
    refine ⟨(emptyHp.upd r o).upd b1 (.cells #[.slice a l.length cap] 33), ?_, ?_, iter_vals _ b1 a cap l (hof.holds.le hlN) (zap _ _ _) hn⟩
    · intro x o' hx
      by_cases e : x = b1
      · subst e; rw [zap] at hx ⊢; exact hx
      · rw [zaE _ _ e] at hx ⊢
        by_cases e2 : x = r
        · subst e2; rw [zap] at hx; cases hx; exact hro
        · rw [zaE _ _ e2] at hx; cases hx
    · intro x hx
      by_cases e : x = b1
      · subst e; exact zaj hl hb1
      · rw [zaE _ _ e] at hx
        by_cases e2 : x = r
        · subst e2; exact hr _ hrs
        · rw [zaE _ _ e2] at hx; exact absurd rfl hx
set_option maxRecDepth 100000 in
set_option maxHeartbeats 1000000 in
theorem between_ok (G : Hp) (x : Value) (E : Nat → List En) (h : XV G x E) (t lo hi : Int) (hi1 : -9223372036854775808 ≤ hi) (hi2 : hi ≤ 9223372036854775807) (hn : (tabE E t).length ≤ 100000) (ho : OkE (tabE E t)) : CallH Try.prog 15 #[x, .int .i64 t, .int .i64 lo, .int .i64 hi] G (fun v G' => Seq G G' v (betE (tabE E t) lo hi)) := by
 refine zaB (l := [_, _, _, _]) (rl := [.tmp 8]) (n := 38) Try.func15 rfl rfl rfl rfl rfl ?_
 simp only [envOf, Nat.reduceAdd]
 refine zad (fun K1 hK1 => ?_)
 refine zab ?_
 refine zao rfl ?_
 refine zae ?_
 try simp only [Ex.thnH, Ex.inBlockH, ↓reduceIte, Nat.reduceEqDiff]
 refine hK1 _ _ ?_; try clear hK1 K1
 refine zad (fun K2 hK2 => ?_)
 refine zab ?_
 refine zao rfl ?_
 refine zae ?_
 try simp only [Ex.thnH, Ex.inBlockH, ↓reduceIte, Nat.reduceEqDiff]
 refine hK2 _ _ ?_; try clear hK2 K2
 refine zad (fun K3 hK3 => ?_)
 refine zad (fun K4 hK4 => ?_)
 refine zab ?_
 refine zag rfl ?_
 refine zag rfl ?_
 refine zac (fun K hK r => ?_)
 simp only [zaQ _ bd30, List.map_toArray, List.map_cons, List.map_nil, eX, ↓reduceIte, Nat.reduceEqDiff, Int.reduceToNat]
 refine (ixpart h t).mono ?_
 rintro v15 H15 ⟨hl15, pb, po, rfl, hpa⟩
 obtain ⟨pc, pT, ps, hpb, hps, hph, hpg, sa, sc, rfl, hcp⟩ := hpa
 have hps0 : pc[po + 0]? = some _ := hps
 try simp only [eX, ↓reduceIte, Nat.reduceEqDiff, Int.reduceToNat]
 refine hK _ _ ?_; clear hK K
 refine zag rfl ?_
 refine zac (fun K hK r => ?_)
 simp only [x_extract, i_extract, List.getElem?_toArray, List.getElem?_cons_zero, List.getElem?_cons_succ, zai, eX, ↓reduceIte, Nat.reduceEqDiff, Int.reduceToNat]
 refine hK _ _ ?_; clear hK K
 refine zac (fun K hK r => ?_)
 simp only [x_extract, i_extract, List.getElem?_toArray, List.getElem?_cons_zero, List.getElem?_cons_succ, zai, eX, ↓reduceIte, Nat.reduceEqDiff, Int.reduceToNat]
 refine hK _ _ ?_; clear hK K
 refine zao rfl ?_
 refine zao rfl ?_
 refine zae ?_
 try simp only [Ex.thnH, Ex.inBlockH, ↓reduceIte, Nat.reduceEqDiff]
 refine hK4 _ _ ?_; try clear hK4 K4
 refine zad (fun K5 hK5 => ?_)
 refine zab ?_
 refine zag rfl ?_
 refine zag rfl ?_
 (first | refine OW_split (d := 19) rfl (fun g19 => ?_) (fun g19 => ?_) | skip)
 all_goals try (exfalso; exact cnA g19)
 all_goals (try simp only [decide_eq_true_eq, decide_eq_false_iff_not, Bool.not_eq_true, Bool.not_eq_false, Bool.and_eq_true, Bool.or_eq_true, Bool.or_eq_false_iff, Bool.not_eq_eq_eq_not, Bool.not_true, Bool.not_false] at g19)
 all_goals
  try simp only [eX, ↓reduceIte, Nat.reduceEqDiff, Int.reduceToNat]
  first
  |refine zam rfl (zaa (by decide)) rfl (fun K hK r => ?_)
   simp only [zaq, eX, ↓reduceIte, Nat.reduceEqDiff, Int.reduceToNat]
   refine hK _ _ ?_; clear hK K
  |refine zan rfl (zaa (by decide)) rfl ?_
   simp only [eX, ↓reduceIte, Nat.reduceEqDiff, Int.reduceToNat]
  first
  |refine zam rfl (zaa (by decide)) rfl (fun K hK r => ?_)
   simp only [zaq, eX, ↓reduceIte, Nat.reduceEqDiff, Int.reduceToNat]
   refine hK _ _ ?_; clear hK K
  |refine zan rfl (zaa (by decide)) rfl ?_
   simp only [eX, ↓reduceIte, Nat.reduceEqDiff, Int.reduceToNat]
  first
  |refine zam rfl (zaa (by decide)) rfl (fun K hK r => ?_)
   simp (disch := (first | omega | decide)) only [zaI, zaM, b_leq, zau, zaw, zat, zax, zas, zay, Bool.not_true, Bool.not_false, eX, ↓reduceIte, Nat.reduceEqDiff, Int.reduceToNat]
   refine hK _ _ ?_; clear hK K
  |refine zan rfl (zaa (by decide)) rfl ?_
   simp only [eX, ↓reduceIte, Nat.reduceEqDiff, Int.reduceToNat]
  refine zac (fun K hK r => ?_)
  simp only [x_pick, l_asBool, HL.ite_bool, if_true, if_false, Bool.false_eq_true, eX, ↓reduceIte, Nat.reduceEqDiff, Int.reduceToNat]
  refine hK _ _ ?_; clear hK K
  refine zae ?_
  try simp only [Ex.thnH, Ex.inBlockH, ↓reduceIte, Nat.reduceEqDiff]
  refine hK5 _ _ ?_; try clear hK5 K5
  refine zaH (fun r => rfl) (fun c23 => ?_) (fun c23 => ?_)
  ·first
   |(exfalso; exact cnA c23; done)
   |skip
    have hlh : lo ≤ hi := by simp at c23; omega
    have hfb := from_beh hpg.rise ho hlh
    have hbc : behN (tabE E t) hi ≤ sc := Nat.le_trans (behN_le _ _) hcp
    obtain ⟨R4, hR4⟩ : ∃ R : Hp, R = emptyHp.upd pb (.cells pc pT) := ⟨_, rfl⟩
    refine CW_drawR [0, 0, 0, 1, 0, 0, 2, 0, 0, 2, 0, 2, 0] [0, 1, 2, 3, 4, 5, 6, 7, 8, 9, 10, 11, 12] R4 (by kernel_rfl) (by kernel_rfl) (by subst hR4; exact le_put (le_empty _) hbA) (fun lR4 => ?_)
    have hRb4 : R4 pb = some (.cells pc pT) := by rw [hR4]; exact zap _ _ _
    apply zaf rfl (zaa (by decide)) rfl
    ·intro r
     simp only [zaq, eX, ↓reduceIte, Nat.reduceEqDiff]
     exact ⟨rfl, Le.refl _⟩
    simp only [eX, ↓reduceIte, Nat.reduceEqDiff, Int.reduceToNat]
    apply zaf rfl (zaa (by decide)) rfl
    ·intro r
     rw [zaT _ _ rfl]
     exact ⟨rfl, Le.refl _⟩
    simp only [eX, ↓reduceIte, Nat.reduceEqDiff, Int.reduceToNat]
    apply zaf rfl (zaa (by decide)) rfl
    ·intro r
     simp only [zah, fa71_0, zaA, Nat.reduceAdd, Nat.zero_add, eX, ↓reduceIte, Nat.reduceEqDiff]
     exact ⟨rfl, Le.refl _⟩
    simp only [eX, ↓reduceIte, Nat.reduceEqDiff, Int.reduceToNat]
    apply zaW rfl (zaa (by decide)) rfl
    ·intro r
     simp only [zar, eX, ↓reduceIte, Nat.reduceEqDiff]
     refine zak Try.underlying33 rfl hbA ldA ?_
     exact ⟨rfl, Le.refl _⟩
    simp only [eX, ↓reduceIte, Nat.reduceEqDiff, Int.reduceToNat]
    apply zaf rfl (zaa (by decide)) rfl
    ·intro r
     simp only [zaq, eX, ↓reduceIte, Nat.reduceEqDiff]
     exact ⟨rfl, Le.refl _⟩
    simp only [eX, ↓reduceIte, Nat.reduceEqDiff, Int.reduceToNat]
    apply zaf rfl (zaa (by decide)) rfl
    ·intro r
     simp only [zaq, eX, ↓reduceIte, Nat.reduceEqDiff]
     exact ⟨rfl, Le.refl _⟩
    simp only [eX, ↓reduceIte, Nat.reduceEqDiff, Int.reduceToNat]
    refine TW_chain rfl (zaa (by decide)) rfl (fun K hK r => ?_)
    simp only [zaQ _ bd37, List.map_toArray, List.map_cons, List.map_nil, eX, ↓reduceIte, Nat.reduceEqDiff, Int.reduceToNat]
    refine (from_ok _ pb po pc pT ⟨_, 0, none, tabE E t⟩ hpb hps hph hpg.rise hn lo).mono ?_
    rintro v H' ⟨rfl, hq⟩
    have hq := hq.symm
    subst hq
    try simp only [eX, ↓reduceIte, Nat.reduceEqDiff, Int.reduceToNat]
    refine hK _ _ leA ?_; clear hK K
    apply zaf rfl (zaa (by decide)) rfl
    ·intro r
     simp only [zaq, eX, ↓reduceIte, Nat.reduceEqDiff]
     exact ⟨rfl, Le.refl _⟩
    simp only [eX, ↓reduceIte, Nat.reduceEqDiff, Int.reduceToNat]
    apply zaf rfl (zaa (by decide)) rfl
    ·intro r
     simp only [zaq, eX, ↓reduceIte, Nat.reduceEqDiff]
     exact ⟨rfl, Le.refl _⟩
    simp only [eX, ↓reduceIte, Nat.reduceEqDiff, Int.reduceToNat]
    refine TW_chain rfl (zaa (by decide)) rfl (fun K hK r => ?_)
    simp only [zaQ _ bd38, List.map_toArray, List.map_cons, List.map_nil, eX, ↓reduceIte, Nat.reduceEqDiff, Int.reduceToNat]
    refine (behind_ok _ pb po pc pT ⟨_, 0, none, tabE E t⟩ hpb hps hph hpg.rise hn hi hi1 hi2).mono ?_
    rintro v H' ⟨rfl, hq⟩
    have hq := hq.symm
    subst hq
    try simp only [eX, ↓reduceIte, Nat.reduceEqDiff, Int.reduceToNat]
    refine hK _ _ leA ?_; clear hK K
    apply zaf rfl (zaa (by decide)) rfl
    ·intro r
     simp only [x_slice, Option.map_some, Option.map_none, eX, ↓reduceIte, Nat.reduceEqDiff]
     refine Lt_sliceS Try.underlying33 sz38 zaU (bound_some (by have := behN_le (tabE E t) hi; omega)) (bound_some (by omega)) (by simpa using hfb) (by simpa using hbc) (Nat.le_refl _) (by simp) ?_
     exact ⟨rfl, Le.refl _⟩
    simp only [eX, ↓reduceIte, Nat.reduceEqDiff, Int.reduceToNat]
    refine TW_chain rfl (zaa (by decide)) rfl (fun K hK r => ?_)
    simp only [zaQ _ bd34, List.map_toArray, List.map_cons, List.map_nil, eX, ↓reduceIte, Nat.reduceEqDiff, Int.reduceToNat]
    have hcut : ((ens (tabE E t)).drop (fromN (tabE E t) lo * 2)).take ((behN (tabE E t) hi - fromN (tabE E t) lo) * 2) = ens (betE (tabE E t) lo hi) := by rw [ens_drop, ens_take, betE_cut hpg.rise ho hlh]
    have hbl : behN (tabE E t) hi - fromN (tabE E t) lo = (betE (tabE E t) lo hi).length := by
     rw [← betE_cut hpg.rise ho hlh, List.length_take, List.length_drop]
     have := behN_le (tabE E t) hi
     omega
    have hsl := hph.slice hfb (behN_le _ _) hbc
    rw [hcut, hbl] at hsl
    refine (clnE_ok _ _ (betE (tabE E t) lo hi).length (ens (betE (tabE E t) lo hi)) ?_ (ens_plain _) (by have := betE_len (tabE E t) lo hi; omega)).mono ?_
    ·simp only [Int.toNat_natCast, hbl]
     exact hsl
    rintro v35 H35 ⟨hl35, rs, ho35, hr35⟩
    have lR4n : Le R4 H35 := Le.trans (by rw [hR4]; exact le_put (le_empty _) hpb) hl35
    try simp only [eX, ↓reduceIte, Nat.reduceEqDiff, Int.reduceToNat]
    refine hK _ _ leA ?_; clear hK K
    apply zaf rfl (zaa (by decide)) rfl
    ·intro r
     simp only [x_assign, eX, ↓reduceIte, Nat.reduceEqDiff]
     exact ⟨rfl, Le.refl _⟩
    simp only [eX, ↓reduceIte, Nat.reduceEqDiff, Int.reduceToNat]
    refine TW_nil ?_
    try simp only [Ex.thnH, Ex.inBlockH, ↓reduceIte, Nat.reduceEqDiff]
    refine hK3 _ _ ?_; try clear hK3 K3
    refine zad (fun K6 hK6 => ?_)
    refine zab ?_
    refine zag rfl ?_
    refine zac (fun K hK r => ?_)
    simp only [zaQ _ bd39, List.map_toArray, List.map_cons, List.map_nil, eX, ↓reduceIte, Nat.reduceEqDiff, Int.reduceToNat]
    refine (seq_of (Le.trans hl15 hl35) ho35 (fun r hr => zaj hl15 (hr35 r hr)) (by have := betE_len (tabE E t) lo hi; omega)).mono ?_
    rintro v37 H37 hq37
    try simp only [eX, ↓reduceIte, Nat.reduceEqDiff, Int.reduceToNat]
    refine hK _ _ ?_; clear hK K
    refine zao rfl ?_
    refine zae ?_
    try simp only [Ex.thnH, Ex.inBlockH, ↓reduceIte, Nat.reduceEqDiff]
    refine hK6 _ _ ?_; try clear hK6 K6
    refine zaV ?_
    try simp only [Ex.thnH, Ex.inBlockH, ↓reduceIte, Nat.reduceEqDiff]
    exact ⟨[_], ⟨rfl, trivial⟩, _, Le.refl _, hq37⟩
  ·first
   |(exfalso; exact cnA c23; done)
   |skip
    have hno : ¬ lo ≤ hi ∨ tabE E t = [] := by
     by_cases hlh : lo ≤ hi
     ·refine .inr (h.tab_nil ?_)
      first
      |exact g19
      |(simp [hlh] at c23; done)
     ·exact .inl hlh
    refine zaL ?_
    try simp only [Ex.thnH, Ex.inBlockH, ↓reduceIte, Nat.reduceEqDiff]
    refine hK3 _ _ ?_; try clear hK3 K3
    refine zad (fun K7 hK7 => ?_)
    refine zab ?_
    refine zag rfl ?_
    refine zac (fun K hK r => ?_)
    simp only [zaQ _ bd39, List.map_toArray, List.map_cons, List.map_nil, eX, ↓reduceIte, Nat.reduceEqDiff, Int.reduceToNat]
    refine (seq_of (l := []) (rs := none) hl15 (OwnS.nil _ _ _) (fun r hr => by cases hr) (by simp)).mono ?_
    rintro v37 H37 hq37
    try simp only [eX, ↓reduceIte, Nat.reduceEqDiff, Int.reduceToNat]
    refine hK _ _ ?_; clear hK K
    refine zao rfl ?_
    refine zae ?_
    try simp only [Ex.thnH, Ex.inBlockH, ↓reduceIte, Nat.reduceEqDiff]
    refine hK7 _ _ ?_; try clear hK7 K7
    refine zaV ?_
    try simp only [Ex.thnH, Ex.inBlockH, ↓reduceIte, Nat.reduceEqDiff]
    refine ⟨[_], ⟨rfl, trivial⟩, _, Le.refl _, ?_⟩
    have he : betE (tabE E t) lo hi = [] := by
     rcases hno with h9 | h9
     ·exact betE_empty h9
     ·rw [h9]; rfl
    rw [he]
    exact hq37
end Go.Proofs.Ytjhohnbdhopllaa.HL
end
section
namespace Go.Proofs.Ytjhohnbdhopllaa.HL
open Go Go.Proofs
set_option linter.unusedSimpArgs false
set_option linter.unusedVariables false
attribute [local irreducible] Lt Lq CW OW TW CallH
theorem XV.le {K K' : Hp} {x : Value} {E : Nat → List En} (h : XV K x E) (hl : Le K K') : XV K' x E := by
  rcases h with h | ⟨b, rfl, hX⟩
  · exact .inl h
  · exact .inr ⟨b, rfl, hX.le hl⟩
theorem none_new {N K : Hp} (hnew : ∀ b, N b ≠ none → K b = none) {b : Nat} {o : Obj} (hb : K b = some o) : N b = none := by
  cases hc : N b with
  | none => rfl
  | some o' => have := hnew b (by rw [hc]; simp); rw [this] at hb; cases hb
theorem take_ens {l : List En} {k : Nat} (h : k < l.length) : ens (l.take k) ++ (l.getD k default).c = ens (l.take (k + 1)) := by
  rw [take_snocA h, ens_app]; simp [ens]
set_option maxRecDepth 100000 in
set_option maxHeartbeats 1000000 in
theorem list_ok (G : Hp) (x : Value) (E : Nat → List En) (h : XV G x E) (t lo hi : Int) (hi1 : -9223372036854775808 ≤ hi) (hi2 : hi ≤ 9223372036854775807) (hn : (tabE E t).length ≤ 100000) (ho : OkE (tabE E t)) : CallH Try.prog 11 #[x, .int .i64 t, .int .i64 lo, .int .i64 hi] G (fun v G' => Le G G' ∧ ∃ rs, OwnS G' 38 2 v (betE (tabE E t) lo hi).length (ens (betE (tabE E t) lo hi)) rs ∧ ∀ r, rs = some r → G r = none) := by
 refine zaB (l := [_, _, _, _]) (rl := [.tmp 8]) (n := 23) Try.func11 rfl rfl rfl rfl rfl ?_
 simp only [envOf, Nat.reduceAdd]
 refine zad (fun K1 hK1 => ?_)
 refine zab ?_
 refine zao rfl ?_
 refine zae ?_
 try simp only [Ex.thnH, Ex.inBlockH, ↓reduceIte, Nat.reduceEqDiff]
 refine hK1 _ _ ?_; try clear hK1 K1
 refine zad (fun K2 hK2 => ?_)
 refine zab ?_
 refine zac (fun K hK r => ?_)
 simp only [x_buildSlice, List.map_toArray, List.map_cons, List.map_nil, eX, ↓reduceIte, Nat.reduceEqDiff, Int.reduceToNat]
 refine Lt_buildSlice (vs := []) Try.underlying33 sz38 zr38 rfl bsA (by first | decide | (simp; done)) ?_
 simp only [List.flatMap_cons, List.flatMap_nil, Value.cells, List.append_nil, List.cons_append, List.nil_append, List.length_cons, List.length_nil, Nat.zero_add, Nat.reduceAdd]
 intro b11 hb11
 have f11_G : G b11 = none := zaj lhA hb11
 try simp only [eX, ↓reduceIte, Nat.reduceEqDiff, Int.reduceToNat]
 refine hK _ _ ?_; clear hK K
 refine zac (fun K hK r => ?_)
 simp only [x_alloc, zr33, zai, Value.cells, eX, ↓reduceIte, Nat.reduceEqDiff, Int.reduceToNat]
 intro b9 hb9
 try have n9_b11 : b11 ≠ b9 := zaz hbA hb9
 have f9_G : G b9 = none := zaj lhA hb9
 try simp only [eX, ↓reduceIte, Nat.reduceEqDiff, Int.reduceToNat]
 refine hK _ _ ?_; clear hK K
 refine OW_op rfl (lt_none) (fun K hK r => ?_)
 simp only [x_store, eX, ↓reduceIte, Nat.reduceEqDiff, Int.reduceToNat]
 refine Lt_storeAt1 sz33 hbA bdA plA fzA ?_
 try simp only [setL0, setL1, setL2, setL3, setL4, setL5, setL6, setL7, setL8, setL9]
 try simp only [eX, ↓reduceIte, Nat.reduceEqDiff, Int.reduceToNat]
 refine hK _ _ ?_; clear hK K
 refine zae ?_
 try simp only [Ex.thnH, Ex.inBlockH, ↓reduceIte, Nat.reduceEqDiff]
 refine hK2 _ _ ?_; try clear hK2 K2
 refine zad (fun K3 hK3 => ?_)
 refine zad (fun K4 hK4 => ?_)
 refine zab ?_
 refine zag rfl ?_
 refine zag rfl ?_
 refine zag rfl ?_
 refine zag rfl ?_
 refine zac (fun K hK r => ?_)
 simp only [zaQ _ bd15, List.map_toArray, List.map_cons, List.map_nil, eX, ↓reduceIte, Nat.reduceEqDiff, Int.reduceToNat]
 refine (between_ok _ x E (h.le lhA) t lo hi hi1 hi2 hn ho).mono ?_
 rintro v16 HB ⟨hlB, N, hlN, hnew, hit⟩
 have kB_b9 := hlB b9 _ hbA
 have hN_b9 : N b9 = none := none_new hnew hbA
 have kB_b11 := hlB b11 _ hbA
 have hN_b11 : N b11 = none := none_new hnew hbA
 have lGB : Le G HB := Le.trans lhA hlB
 obtain ⟨l, hl⟩ : ∃ l, l = betE (tabE E t) lo hi := ⟨_, rfl⟩
 have hll : l.length ≤ 100000 := by rw [hl]; exact Nat.le_trans (betE_len _ _ _) hn
 rw [← hl] at hit
 have hGc : G b9 = none := f9_G
 have hNc := hN_b9
 try simp only [eX, ↓reduceIte, Nat.reduceEqDiff, Int.reduceToNat]
 refine hK _ _ ?_; clear hK K
 refine zae ?_
 try simp only [Ex.thnH, Ex.inBlockH, ↓reduceIte, Nat.reduceEqDiff]
 refine hK4 _ _ ?_; try clear hK4 K4
 refine zaP ?_
 refine CW_rangeFunc (fun r => rfl) (hit) (fun i H_ => ∃ sv rs, H_ b9 = some (.cells #[sv] 33) ∧ OwnS H_ 38 2 sv i (ens (l.take i)) rs ∧ rs ≠ some b9 ∧ (∀ r, rs = some r → G r = none ∧ N r = none) ∧ Le G H_ ∧ Le N H_) ?_ ?_ (by decide) ?_ ?_
 ·skip
  rintro i H_ ⟨_, _, _, _, _, _, _, h9⟩
  exact h9
 ·skip
  exact ⟨_, some b11, kB_b9, ⟨rfl, .inr ⟨b11, 0, _, rfl, kB_b11, Nat.le_refl _, rfl, rfl, rfl⟩⟩, (fun hh => n9_b11 (by injection hh)), (fun r hr => by cases hr; exact ⟨f11_G, hN_b11⟩), lGB, hlN⟩
 ·intro l_ i_ hi_ H_ hI_ args_ F_ hT_ hF_
  obtain ⟨sv_, rs_, hc_, ho_, hrb_, hr_, hlG_, hlN_⟩ := hI_
  obtain ⟨rfl, rfl⟩ := hT_
  rw [join_empty]
  obtain ⟨sa_, sc_, rfl⟩ := ho_.holds.form
  refine ⟨rfl, ?_⟩
  simp only [putAll, List.zip_cons_cons, List.zip_nil_right, List.zip_nil_left, eX, ↓reduceIte, Nat.reduceEqDiff, Int.reduceToNat]
  refine zab ?_
  refine zac (fun K hK r => ?_)
  simp only [x_alloc, zr38, zai, Value.cells, eX, ↓reduceIte, Nat.reduceEqDiff, Int.reduceToNat]
  intro b10 hb10
  try have n10_b9 : b9 ≠ b10 := zaz hbA hb10
  try simp only [eX, ↓reduceIte, Nat.reduceEqDiff, Int.reduceToNat]
  refine hK _ _ ?_; clear hK K
  refine OW_op rfl (lt_none) (fun K hK r => ?_)
  simp only [x_store, eX, ↓reduceIte, Nat.reduceEqDiff, Int.reduceToNat]
  first | refine Lt_storeAll sz38 bdA hbA bdA plA (by decide) ?_ | refine Lt_storeAtA sz38 bdA hbA bdA plA (by decide) ?_
  try simp only [eX, ↓reduceIte, Nat.reduceEqDiff, Int.reduceToNat]
  refine hK _ _ ?_; clear hK K
  refine zae ?_
  try simp only [Ex.thnH, Ex.inBlockH, ↓reduceIte, Nat.reduceEqDiff]
  first | refine ⟨rfl, ?_⟩ | refine ⟨trivial, ?_⟩
  refine zaP ?_
  refine zab ?_
  refine zac (fun K hK r => ?_)
  simp only [zar, eX, ↓reduceIte, Nat.reduceEqDiff, Int.reduceToNat]
  refine zak Try.underlying33 rfl hbA ldA ?_
  try simp only [eX, ↓reduceIte, Nat.reduceEqDiff, Int.reduceToNat]
  refine hK _ _ ?_; clear hK K
  refine zac (fun K hK r => ?_)
  simp only [zar, eX, ↓reduceIte, Nat.reduceEqDiff, Int.reduceToNat]
  first | refine Lt_loadAll Try.underlying38 rfl sz38 hbA bdA ?_ | refine zaS Try.underlying38 rfl sz38 hbA bdA ?_
  try simp only [List.extract_toArray, List.extract_eq_take_drop, Nat.zero_add, Nat.reduceAdd, Nat.reduceSub, Nat.sub_zero, List.drop_succ_cons, List.drop_zero, List.take_succ_cons, List.take_zero, List.take_nil, List.drop_nil]
  try simp only [eX, ↓reduceIte, Nat.reduceEqDiff, Int.reduceToNat]
  refine hK _ _ ?_; clear hK K
  refine zac (fun K hK r => ?_)
  simp only [x_buildSlice, List.map_toArray, List.map_cons, List.map_nil, eX, ↓reduceIte, Nat.reduceEqDiff, Int.reduceToNat]
  refine Lt_buildSlice (vs := [_]) Try.underlying33 sz38 zr38 rfl bsA (by first | decide | (simp; done)) ?_
  simp only [List.flatMap_cons, List.flatMap_nil, Value.cells, List.append_nil, List.cons_append, List.nil_append, List.length_cons, List.length_nil, Nat.zero_add, Nat.reduceAdd]
  intro b20 hb20
  try have n20_b9 : b9 ≠ b20 := zaz hbA hb20
  try have n20_b10 : b10 ≠ b20 := zaz hbA hb20
  try simp only [eX, ↓reduceIte, Nat.reduceEqDiff, Int.reduceToNat]
  refine hK _ _ ?_; clear hK K
  refine zac (fun K hK r => ?_)
  simp only [zaC, l_append, List.map_toArray, List.map_cons, List.map_nil, eX, ↓reduceIte, Nat.reduceEqDiff, Int.reduceToNat]
  refine Lt_append Try.underlying33 Try.underlying33 (by simp) sz38 by38 (by decide) zr38 rfl _ (n := i_) (m := 1) (cs := ens (l.take i_)) (ds := (l.getD i_ default).c) (rs := rs_) (OwnS.make (OwnS.make ho_ hb10) hb20) (len_slice _ _ _) (fun Kx => first_slice (w := 2) (n := 1) (cs := (l.getD i_ default).c) ⟨rfl, .inr ⟨b20, 0, 1, _, _, _, rfl, hbA, by simp, by simp⟩⟩ Kx) rfl (by intro z hz; simp at hz; first | (subst hz; rfl) | (rcases hz with rfl | rfl <;> rfl)) (by omega) ?_
  intro v21 H21 rs21 hg21 ho21 hr21
  have hk9 := hg21.known b9 _ hbA hrb_
  have hps : plainCell v21 = true := by obtain ⟨_, _, q⟩ := ho21.holds.form; rw [q]; rfl
  refine hK _ _ ?_; clear hK K
  refine OW_op rfl (lt_none) (fun K hK r => ?_)
  simp only [x_store, eX, ↓reduceIte, Nat.reduceEqDiff, Int.reduceToNat]
  refine Lt_storeAt1 sz33 hbA bdA plA fzA ?_
  try simp only [setL0, setL1, setL2, setL3, setL4, setL5, setL6, setL7, setL8, setL9]
  try simp only [eX, ↓reduceIte, Nat.reduceEqDiff, Int.reduceToNat]
  refine hK _ _ ?_; clear hK K
  refine zae ?_
  try simp only [Ex.thnH, Ex.inBlockH, ↓reduceIte, Nat.reduceEqDiff]
  have f1 := zaj hlG_ hb10
  have f2 : G b20 = none := zaj (zal hlG_ f1) hb20
  have f3 : N b10 = none := zaj hlN_ hb10
  have f4 : N b20 = none := zaj (zal hlN_ f3) hb20
  have hrb21 : rs21 ≠ some b9 := fun hh => by
   rcases hr21 _ hh with h9 | h9
   ·exact hrb_ h9
   ·rw [(hbA : ((H_.upd b10 (.cells (l.getD i_ default).c.toArray 38)).upd b20 (.cells (l.getD i_ default).c.toArray 38)) b9 = some _)] at h9; cases h9
  have hGI : Le G H21 := hg21.le (H0 := G) (zal (zal hlG_ f1) f2) (fun r hr => (hr_ r hr).1)
  have hNI : Le N H21 := hg21.le (H0 := N) (zal (zal hlN_ f3) f4) (fun r hr => (hr_ r hr).2)
  refine ⟨v21, rs21, zap _ _ _, ?_, hrb21, fun r hr => ?_, zal hGI hGc, zal hNI hNc⟩
  ·rw [take_ens hi_] at ho21
   exact ho21.upd hrb21
  ·rcases hr21 r hr with h9 | h9
   ·exact hr_ r h9
   ·exact ⟨zaj (zal (zal hlG_ f1) f2) h9, zaj (zal (zal hlN_ f3) f4) h9⟩
 intro H_ hI_
 obtain ⟨sv_, rs_, hc_, ho_, hrb_, hr_, hlG_, hlN_⟩ := hI_
 rw [List.take_length] at ho_
 obtain ⟨sa_, sc_, rfl⟩ := ho_.holds.form
 try simp only [Ex.thnH, Ex.inBlockH, ↓reduceIte, Nat.reduceEqDiff]
 refine hK3 _ _ ?_; try clear hK3 K3
 refine zad (fun K5 hK5 => ?_)
 refine zab ?_
 refine zac (fun K hK r => ?_)
 simp only [zar, eX, ↓reduceIte, Nat.reduceEqDiff, Int.reduceToNat]
 refine zak Try.underlying33 rfl hbA ldA ?_
 try simp only [eX, ↓reduceIte, Nat.reduceEqDiff, Int.reduceToNat]
 refine hK _ _ ?_; clear hK K
 refine zao rfl ?_
 refine zae ?_
 try simp only [Ex.thnH, Ex.inBlockH, ↓reduceIte, Nat.reduceEqDiff]
 refine hK5 _ _ ?_; try clear hK5 K5
 refine zaV ?_
 try simp only [Ex.thnH, Ex.inBlockH, ↓reduceIte, Nat.reduceEqDiff]
 rw [← hl]
 exact ⟨[_], ⟨rfl, trivial⟩, _, Le.refl _, hlG_, rs_, ho_, fun r hr => (hr_ r hr).1⟩
set_option maxRecDepth 100000 in
set_option maxHeartbeats 1000000 in
theorem keys_ok (G : Hp) (x : Value) (E : Nat → List En) (h : XV G x E) (t lo : Int) (hi1 : -9223372036854775808 ≤ lo) (hi2 : lo ≤ 9223372036854775807) (hn : (tabE E t).length ≤ 100000) (ho : OkE (tabE E t)) : CallH Try.prog 22 #[x, .int .i64 t, .int .i64 lo] G (fun v G' => Le G G' ∧ ∃ rs, OwnS G' 3 1 v (betE (tabE E t) lo lo).length (i64s ((betE (tabE E t) lo lo).map En.k)) rs ∧ ∀ r, rs = some r → G r = none) := by
 refine zaB (l := [_, _, _]) (rl := [.tmp 6]) (n := 21) Try.func22 rfl rfl rfl rfl rfl ?_
 simp only [envOf, Nat.reduceAdd]
 refine zad (fun K1 hK1 => ?_)
 refine zab ?_
 refine zao rfl ?_
 refine zae ?_
 try simp only [Ex.thnH, Ex.inBlockH, ↓reduceIte, Nat.reduceEqDiff]
 refine hK1 _ _ ?_; try clear hK1 K1
 refine zad (fun K2 hK2 => ?_)
 refine zab ?_
 refine zac (fun K hK r => ?_)
 simp only [x_alloc, zr55, zai, Value.cells, eX, ↓reduceIte, Nat.reduceEqDiff, Int.reduceToNat]
 intro b7 hb7
 have f7_G : G b7 = none := zaj lhA hb7
 try simp only [eX, ↓reduceIte, Nat.reduceEqDiff, Int.reduceToNat]
 refine hK _ _ ?_; clear hK K
 refine zae ?_
 try simp only [Ex.thnH, Ex.inBlockH, ↓reduceIte, Nat.reduceEqDiff]
 refine hK2 _ _ ?_; try clear hK2 K2
 refine zad (fun K3 hK3 => ?_)
 refine zad (fun K4 hK4 => ?_)
 refine zab ?_
 refine zag rfl ?_
 refine zag rfl ?_
 refine zag rfl ?_
 refine zag rfl ?_
 refine zac (fun K hK r => ?_)
 simp only [zaQ _ bd15, List.map_toArray, List.map_cons, List.map_nil, eX, ↓reduceIte, Nat.reduceEqDiff, Int.reduceToNat]
 refine (between_ok _ x E (h.le lhA) t lo lo hi1 hi2 hn ho).mono ?_
 rintro v13 HB ⟨hlB, N, hlN, hnew, hit⟩
 have kB_b7 := hlB b7 _ hbA
 have hN_b7 : N b7 = none := none_new hnew hbA
 have lGB : Le G HB := Le.trans lhA hlB
 obtain ⟨l, hl⟩ : ∃ l, l = betE (tabE E t) lo lo := ⟨_, rfl⟩
 have hll : l.length ≤ 100000 := by rw [hl]; exact Nat.le_trans (betE_len _ _ _) hn
 rw [← hl] at hit
 have hGc : G b7 = none := f7_G
 have hNc := hN_b7
 try simp only [eX, ↓reduceIte, Nat.reduceEqDiff, Int.reduceToNat]
 refine hK _ _ ?_; clear hK K
 refine zae ?_
 try simp only [Ex.thnH, Ex.inBlockH, ↓reduceIte, Nat.reduceEqDiff]
 refine hK4 _ _ ?_; try clear hK4 K4
 refine zaP ?_
 refine CW_rangeFunc (fun r => rfl) (hit) (fun i H_ => ∃ sv rs, H_ b7 = some (.cells #[sv] 55) ∧ OwnS H_ 3 1 sv i (i64s ((l.take i).map En.k)) rs ∧ rs ≠ some b7 ∧ (∀ r, rs = some r → G r = none ∧ N r = none) ∧ Le G H_ ∧ Le N H_) ?_ ?_ (by decide) ?_ ?_
 ·skip
  rintro i H_ ⟨_, _, _, _, _, _, _, h9⟩
  exact h9
 ·skip
  exact ⟨_, none, kB_b7, OwnS.nil _ _ _, (fun hh => by cases hh), (fun r hr => by cases hr), lGB, hlN⟩
 ·intro l_ i_ hi_ H_ hI_ args_ F_ hT_ hF_
  obtain ⟨sv_, rs_, hc_, ho_, hrb_, hr_, hlG_, hlN_⟩ := hI_
  obtain ⟨rfl, rfl⟩ := hT_
  rw [join_empty]
  obtain ⟨sa_, sc_, rfl⟩ := ho_.holds.form
  refine ⟨rfl, ?_⟩
  simp only [putAll, List.zip_cons_cons, List.zip_nil_right, List.zip_nil_left, eX, ↓reduceIte, Nat.reduceEqDiff, Int.reduceToNat]
  refine zab ?_
  refine zac (fun K hK r => ?_)
  simp only [x_alloc, zr38, zai, Value.cells, eX, ↓reduceIte, Nat.reduceEqDiff, Int.reduceToNat]
  intro b8 hb8
  try have n8_b7 : b7 ≠ b8 := zaz hbA hb8
  try simp only [eX, ↓reduceIte, Nat.reduceEqDiff, Int.reduceToNat]
  refine hK _ _ ?_; clear hK K
  refine OW_op rfl (lt_none) (fun K hK r => ?_)
  simp only [x_store, eX, ↓reduceIte, Nat.reduceEqDiff, Int.reduceToNat]
  first | refine Lt_storeAll sz38 bdA hbA bdA plA (by decide) ?_ | refine Lt_storeAtA sz38 bdA hbA bdA plA (by decide) ?_
  try simp only [eX, ↓reduceIte, Nat.reduceEqDiff, Int.reduceToNat]
  refine hK _ _ ?_; clear hK K
  refine zae ?_
  try simp only [Ex.thnH, Ex.inBlockH, ↓reduceIte, Nat.reduceEqDiff]
  first | refine ⟨rfl, ?_⟩ | refine ⟨trivial, ?_⟩
  refine zaP ?_
  refine zab ?_
  refine zac (fun K hK r => ?_)
  simp only [zar, eX, ↓reduceIte, Nat.reduceEqDiff, Int.reduceToNat]
  refine zak Try.underlying55 rfl hbA ldA ?_
  try simp only [eX, ↓reduceIte, Nat.reduceEqDiff, Int.reduceToNat]
  refine hK _ _ ?_; clear hK K
  refine zac (fun K hK r => ?_)
  simp only [zah, fa38_1, zaA, Nat.reduceAdd, Nat.zero_add, eX, ↓reduceIte, Nat.reduceEqDiff, Int.reduceToNat]
  refine hK _ _ ?_; clear hK K
  refine zac (fun K hK r => ?_)
  simp only [zar, eX, ↓reduceIte, Nat.reduceEqDiff, Int.reduceToNat]
  refine zak Try.underlying3 rfl hbA ldA ?_
  try simp only [eX, ↓reduceIte, Nat.reduceEqDiff, Int.reduceToNat]
  refine hK _ _ ?_; clear hK K
  refine zac (fun K hK r => ?_)
  simp only [x_buildSlice, List.map_toArray, List.map_cons, List.map_nil, eX, ↓reduceIte, Nat.reduceEqDiff, Int.reduceToNat]
  refine Lt_buildSlice (vs := [_]) Try.underlying55 sz3 zr3 rfl bsA (by first | decide | (simp; done)) ?_
  simp only [List.flatMap_cons, List.flatMap_nil, Value.cells, List.append_nil, List.cons_append, List.nil_append, List.length_cons, List.length_nil, Nat.zero_add, Nat.reduceAdd]
  intro b18 hb18
  try have n18_b7 : b7 ≠ b18 := zaz hbA hb18
  try have n18_b8 : b8 ≠ b18 := zaz hbA hb18
  try simp only [eX, ↓reduceIte, Nat.reduceEqDiff, Int.reduceToNat]
  refine hK _ _ ?_; clear hK K
  refine zac (fun K hK r => ?_)
  simp only [zaC, l_append, List.map_toArray, List.map_cons, List.map_nil, eX, ↓reduceIte, Nat.reduceEqDiff, Int.reduceToNat]
  refine Lt_append Try.underlying55 Try.underlying55 (by simp) sz3 by3 (by decide) zr3 rfl _ (n := i_) (m := 1) (cs := i64s ((l.take i_).map En.k)) (ds := [.int .i64 (l.getD i_ default).k]) (rs := rs_) (OwnS.make (OwnS.make ho_ hb8) hb18) (len_slice _ _ _) (fun Kx => first_slice (w := 1) (n := 1) (cs := [.int .i64 (l.getD i_ default).k]) ⟨rfl, .inr ⟨b18, 0, 1, _, _, _, rfl, hbA, by simp, by simp⟩⟩ Kx) rfl (by intro z hz; simp at hz; first | (subst hz; rfl) | (rcases hz with rfl | rfl <;> rfl)) (by omega) ?_
  intro v19 H19 rs19 hg19 ho19 hr19
  have hk9 := hg19.known b7 _ hbA hrb_
  have hps : plainCell v19 = true := by obtain ⟨_, _, q⟩ := ho19.holds.form; rw [q]; rfl
  refine hK _ _ ?_; clear hK K
  refine OW_op rfl (lt_none) (fun K hK r => ?_)
  simp only [x_store, eX, ↓reduceIte, Nat.reduceEqDiff, Int.reduceToNat]
  refine Lt_storeAt1 sz55 hbA bdA plA fzA ?_
  try simp only [setL0, setL1, setL2, setL3, setL4, setL5, setL6, setL7, setL8, setL9]
  try simp only [eX, ↓reduceIte, Nat.reduceEqDiff, Int.reduceToNat]
  refine hK _ _ ?_; clear hK K
  refine zae ?_
  try simp only [Ex.thnH, Ex.inBlockH, ↓reduceIte, Nat.reduceEqDiff]
  have f1 := zaj hlG_ hb8
  have f2 : G b18 = none := zaj (zal hlG_ f1) hb18
  have f3 : N b8 = none := zaj hlN_ hb8
  have f4 : N b18 = none := zaj (zal hlN_ f3) hb18
  have hrb19 : rs19 ≠ some b7 := fun hh => by
   rcases hr19 _ hh with h9 | h9
   ·exact hrb_ h9
   ·rw [(hbA : ((H_.upd b8 (.cells (l.getD i_ default).c.toArray 38)).upd b18 (.cells #[.int .i64 (l.getD i_ default).k] 3)) b7 = some _)] at h9; cases h9
  have hGI : Le G H19 := hg19.le (H0 := G) (zal (zal hlG_ f1) f2) (fun r hr => (hr_ r hr).1)
  have hNI : Le N H19 := hg19.le (H0 := N) (zal (zal hlN_ f3) f4) (fun r hr => (hr_ r hr).2)
  refine ⟨v19, rs19, zap _ _ _, ?_, hrb19, fun r hr => ?_, zal hGI hGc, zal hNI hNc⟩
  ·rw [show i64s ((l.take i_).map En.k) ++ [.int .i64 (l.getD i_ default).k] = i64s ((l.take (i_ + 1)).map En.k) from by rw [take_snocA hi_]; simp] at ho19
   exact ho19.upd hrb19
  ·rcases hr19 r hr with h9 | h9
   ·exact hr_ r h9
   ·exact ⟨zaj (zal (zal hlG_ f1) f2) h9, zaj (zal (zal hlN_ f3) f4) h9⟩
 intro H_ hI_
 obtain ⟨sv_, rs_, hc_, ho_, hrb_, hr_, hlG_, hlN_⟩ := hI_
 rw [List.take_length] at ho_
 obtain ⟨sa_, sc_, rfl⟩ := ho_.holds.form
 try simp only [Ex.thnH, Ex.inBlockH, ↓reduceIte, Nat.reduceEqDiff]
 refine hK3 _ _ ?_; try clear hK3 K3
 refine zad (fun K5 hK5 => ?_)
 refine zab ?_
 refine zac (fun K hK r => ?_)
 simp only [zar, eX, ↓reduceIte, Nat.reduceEqDiff, Int.reduceToNat]
 refine zak Try.underlying55 rfl hbA ldA ?_
 try simp only [eX, ↓reduceIte, Nat.reduceEqDiff, Int.reduceToNat]
 refine hK _ _ ?_; clear hK K
 refine zao rfl ?_
 refine zae ?_
 try simp only [Ex.thnH, Ex.inBlockH, ↓reduceIte, Nat.reduceEqDiff]
 refine hK5 _ _ ?_; try clear hK5 K5
 refine zaV ?_
 try simp only [Ex.thnH, Ex.inBlockH, ↓reduceIte, Nat.reduceEqDiff]
 rw [← hl]
 exact ⟨[_], ⟨rfl, trivial⟩, _, Le.refl _, hlG_, rs_, ho_, fun r hr => (hr_ r hr).1⟩
end Go.Proofs.Ytjhohnbdhopllaa.HL
end
section
namespace Go.Proofs.Ytjhohnbdhopllaa.HL
open Go
set_option linter.unusedSimpArgs false
set_option linter.unusedVariables false
theorem StX.grow {X : Hp → Prop} {G G2 K K' : Hp} {E : TypeId} {w n n' : Nat} {v v' : Value} {cs cs' : List Value} {rs rs' : Option Nat} (h : StX X G2 K) (hl : Le G G2) (ho : OwnS G2 E w v n cs rs) (hr : ∀ r, rs = some r → G r = none)
    (hg : Grow K rs K') (ho' : OwnS K' E w v' n' cs' rs') (hr' : ∀ r, rs' = some r → rs = some r ∨ K r = none) :
    ∃ G4, StX X G4 K' ∧ Le G G4 ∧ OwnS G4 E w v' n' cs' rs' ∧ ∀ r, rs' = some r → G r = none := by
  obtain ⟨F, h1, h2, h3, h4⟩ := h
  have hrF : ∀ b, F b ≠ none → rs ≠ some b := fun b hb e => ho.known b e (h4 b hb)
  have hr4 : ∀ r, rs' = some r → G r = none := fun r e => by
    rcases hr' r e with h9 | h9
    · exact hr r h9
    · exact zaj (Le.trans hl h3) h9
  refine ⟨fun b => if rs' = some b then K' b else if rs = some b then none else G2 b, ⟨F, h1, fun b o hb => ?_, fun b o hb => ?_, fun b hb => ?_⟩, fun b o hb => ?_, ho'.stay (fun b o hb hk => ?_), hr4⟩
  · exact hg.known b o (h2 _ _ hb) (hrF b (by rw [hb]; simp))
  · try simp only at hb
    split at hb
    · exact hb
    · split at hb
      · cases hb
      · exact hg.known b o (h3 _ _ hb) (by assumption)
  · try simp only
    have e1 : rs' ≠ some b := fun e => by
      rcases hr' b e with h9 | h9
      · exact hrF b hb h9
      · exact hb (zaj h2 h9)
    rw [if_neg e1, if_neg (hrF b hb)]
    exact h4 b hb
  · try simp only
    have e1 : rs' ≠ some b := fun e => by rw [hr4 b e] at hb; cases hb
    have e2 : rs ≠ some b := fun e => by rw [hr b e] at hb; cases hb
    rw [if_neg e1, if_neg e2]
    exact hl _ _ hb
  · try simp only
    rw [if_pos hb]; exact hk
theorem StX.wide {X : Hp → Prop} {H K K' : Hp} (h : StX X H K) (hl : Le K K') : ∃ H', StX X H' K' ∧ Le H H' ∧ ∀ b o, K' b = some o → K b = none → H' b = some o := by
  obtain ⟨F, h1, h2, h3, h4⟩ := h
  refine ⟨fun b => match F b with | some _ => none | none => K' b, ⟨F, h1, Le.trans h2 hl, fun b o hb => ?_, fun b hb => ?_⟩, fun b o hb => ?_, fun b o hb hn => ?_⟩
  · try simp only at hb
    cases hf : F b with
    | some o' => rw [hf] at hb; cases hb
    | none => rw [hf] at hb; exact hb
  · try simp only
    cases hf : F b with
    | some o' => rfl
    | none => exact absurd hf hb
  · try simp only
    cases hf : F b with
    | some o' => rw [h4 b (by rw [hf]; simp)] at hb; cases hb
    | none => exact hl _ _ (h3 _ _ hb)
  · try simp only
    cases hf : F b with
    | some o' => rw [h2 _ _ hf] at hn; cases hn
    | none => exact hb
end Go.Proofs.Ytjhohnbdhopllaa.HL
end
section
namespace Go.Proofs.Ytjhohnbdhopllaa.HL
open Go Go.Proofs
set_option linter.unusedSimpArgs false
set_option linter.unusedVariables false
attribute [local irreducible] Lt Lq CW OW TW CallH
theorem GXo.le {g : Nat} {l : List En} {F K : Hp} (h : GXo g l F) (hl : Le F K) : GXo g l K := by
  obtain ⟨s, rs, h1, h2, h3⟩ := h
  exact ⟨s, rs, hl _ _ h1, h2.le hl, h3⟩
theorem gx_new {G K : Hp} {g : Nat} {s : Value} {l : List En} {rs : Option Nat} (hl : Le G K) (hs : K g = some (.cells #[s] 82)) (ho : OwnS K 38 2 s l.length (ens l) rs) (hr : ∀ r, rs = some r → G r = none) (hb : G g = none) (hne : rs ≠ some g) : StX (GXo g l) G K := by
  refine StX.of (F := fun x => if x = g ∨ rs = some x then K x else none) ⟨s, rs, ?_, ho.stay (fun b o hb hk => ?_), hne⟩ (fun x o hx => ?_) hl (fun x hx => ?_)
  · show (if _ then _ else _) = _
    rw [if_pos (.inl rfl)]; exact hs
  · show (if _ then _ else _) = _
    rw [if_pos (.inr hb)]; exact hk
  · try simp only at hx
    split at hx
    · exact hx
    · cases hx
  · try simp only at hx
    split at hx
    · rename_i hor
      rcases hor with rfl | h1
      · exact hb
      · exact hr x h1
    · exact absurd rfl hx
set_option maxRecDepth 100000 in
set_option maxHeartbeats 1000000 in
theorem top_ok (G : Hp) (x : Value) (E : Nat → List En) (h : XV G x E) (t n : Int) (hn : (tabE E t).length ≤ 100000) (S : List En) (hS : S.Perm (tabE E t)) (hSp : S.Pairwise glE) : CallH Try.prog 12 #[x, .int .i64 t, .int .i64 n] G (fun v G' => Le G G' ∧ ∃ rs, OwnS G' 38 2 v (S.take n.toNat).length (ens (S.take n.toNat)) rs ∧ ∀ r, rs = some r → G r = none) := by
 refine zaB (l := [_, _, _]) (rl := [.tmp 6]) (n := 46) Try.func12 rfl rfl rfl rfl rfl ?_
 simp only [envOf, Nat.reduceAdd]
 have hSl := hS.length_eq
 refine zad (fun K1 hK1 => ?_)
 refine zab ?_
 refine zao rfl ?_
 refine zae ?_
 try simp only [Ex.thnH, Ex.inBlockH, ↓reduceIte, Nat.reduceEqDiff]
 refine hK1 _ _ ?_; try clear hK1 K1
 refine zad (fun K2 hK2 => ?_)
 refine zab ?_
 refine zag rfl ?_
 refine zag rfl ?_
 refine zac (fun K hK r => ?_)
 simp only [zaQ _ bd30, List.map_toArray, List.map_cons, List.map_nil, eX, ↓reduceIte, Nat.reduceEqDiff, Int.reduceToNat]
 refine (ixpart h t).mono ?_
 rintro v16 H16 ⟨hl16, pb, po, rfl, hpa⟩
 obtain ⟨pc, pT, ps, hpb, hps, hph, hpg, sa, sc, rfl, hcp⟩ := hpa
 have hps0 : pc[po + 0]? = some _ := hps
 try simp only [eX, ↓reduceIte, Nat.reduceEqDiff, Int.reduceToNat]
 refine hK _ _ ?_; clear hK K
 refine zag rfl ?_
 refine zac (fun K hK r => ?_)
 simp only [x_extract, i_extract, List.getElem?_toArray, List.getElem?_cons_zero, List.getElem?_cons_succ, zai, eX, ↓reduceIte, Nat.reduceEqDiff, Int.reduceToNat]
 refine hK _ _ ?_; clear hK K
 refine zac (fun K hK r => ?_)
 simp only [x_extract, i_extract, List.getElem?_toArray, List.getElem?_cons_zero, List.getElem?_cons_succ, zai, eX, ↓reduceIte, Nat.reduceEqDiff, Int.reduceToNat]
 refine hK _ _ ?_; clear hK K
 refine zao rfl ?_
 refine zao rfl ?_
 refine zae ?_
 try simp only [Ex.thnH, Ex.inBlockH, ↓reduceIte, Nat.reduceEqDiff]
 refine hK2 _ _ ?_; try clear hK2 K2
 refine zad (fun K3 hK3 => ?_)
 refine zab ?_
 refine zag rfl ?_
 refine zac (fun K hK r => ?_)
 rw [zaT _ _ rfl]
 simp only [eX, ↓reduceIte, Nat.reduceEqDiff, Int.reduceToNat]
 refine hK _ _ ?_; clear hK K
 refine zac (fun K hK r => ?_)
 simp only [zah, fa71_0, zaA, Nat.reduceAdd, Nat.zero_add, eX, ↓reduceIte, Nat.reduceEqDiff, Int.reduceToNat]
 refine hK _ _ ?_; clear hK K
 refine zac (fun K hK r => ?_)
 simp only [zar, eX, ↓reduceIte, Nat.reduceEqDiff, Int.reduceToNat]
 refine zak Try.underlying33 rfl hbA ldA ?_
 try simp only [eX, ↓reduceIte, Nat.reduceEqDiff, Int.reduceToNat]
 refine hK _ _ ?_; clear hK K
 refine zac (fun K hK r => ?_)
 simp only [zaQ _ bd34, List.map_toArray, List.map_cons, List.map_nil, eX, ↓reduceIte, Nat.reduceEqDiff, Int.reduceToNat]
 refine (clnE_ok _ _ (tabE E t).length (ens (tabE E t)) hph (ens_plain _) (by omega)).mono ?_
 rintro v23 H23 ⟨hl23, rs23, ho23, hr23⟩
 have lG23 : Le G H23 := Le.trans hl16 hl23
 have hps23 : plainCell v23 = true := by obtain ⟨_, _, q⟩ := ho23.holds.form; rw [q]; rfl
 try simp only [eX, ↓reduceIte, Nat.reduceEqDiff, Int.reduceToNat]
 refine hK _ _ ?_; clear hK K
 refine zac (fun K hK r => ?_)
 simp only [x_alloc, zr82, zai, Value.cells, eX, ↓reduceIte, Nat.reduceEqDiff, Int.reduceToNat]
 intro b9 hb9
 have f9_G : G b9 = none := zaj lhA hb9
 try simp only [eX, ↓reduceIte, Nat.reduceEqDiff, Int.reduceToNat]
 refine hK _ _ ?_; clear hK K
 refine OW_op rfl (lt_none) (fun K hK r => ?_)
 simp only [x_store, eX, ↓reduceIte, Nat.reduceEqDiff, Int.reduceToNat]
 refine Lt_storeAt1 sz82 hbA bdA plA fzA ?_
 try simp only [setL0, setL1, setL2, setL3, setL4, setL5, setL6, setL7, setL8, setL9]
 try simp only [eX, ↓reduceIte, Nat.reduceEqDiff, Int.reduceToNat]
 refine hK _ _ ?_; clear hK K
 refine zae ?_
 try simp only [Ex.thnH, Ex.inBlockH, ↓reduceIte, Nat.reduceEqDiff]
 refine hK3 _ _ ?_; try clear hK3 K3
 refine zad (fun K4 hK4 => ?_)
 refine zab ?_
 refine zac (fun K hK r => ?_)
 simp only [x_makeInterface, i_makeInterface, Try.underlying85, zai, eX, ↓reduceIte, Nat.reduceEqDiff, Int.reduceToNat]
 refine hK _ _ ?_; clear hK K
 refine zac (fun K hK r => ?_)
 simp only [zaQ _ bd35, List.map_toArray, List.map_cons, List.map_nil, eX, ↓reduceIte, Nat.reduceEqDiff, Int.reduceToNat]
 have hS9 : StX (GXo b9 (tabE E t)) G (H23.upd b9 (.cells #[v23] 82)) := gx_new (zal lG23 f9_G) (zap _ _ _) (ho23.make hb9) (fun r hr => zaj hl16 (hr23 r hr)) f9_G (ho23.ne_fresh hb9)
 refine (hS9.call1 (V := fun v => v = .tuple #[]) (Y := fun F => ∃ l', GXo b9 l' F ∧ l'.Perm (tabE E t) ∧ HpF l' l'.length 0) (fun F hF => init_ok F b9 _ hF (by omega))).mono ?_
 rintro v25 H25 ⟨rfl, F25, ⟨l25, hX25, hp25, hh25⟩, hq25⟩
 have hS25 : StX (GXo b9 l25) G H25 := ⟨F25, hX25, hq25⟩
 try simp only [eX, ↓reduceIte, Nat.reduceEqDiff, Int.reduceToNat]
 refine hK _ _ ?_; clear hK K
 refine zae ?_
 try simp only [Ex.thnH, Ex.inBlockH, ↓reduceIte, Nat.reduceEqDiff]
 refine hK4 _ _ ?_; try clear hK4 K4
 refine zad (fun K5 hK5 => ?_)
 refine zab ?_
 refine zao rfl ?_
 refine zae ?_
 try simp only [Ex.thnH, Ex.inBlockH, ↓reduceIte, Nat.reduceEqDiff]
 refine hK5 _ _ ?_; try clear hK5 K5
 refine zad (fun K6 hK6 => ?_)
 refine zaP ?_
 refine CW_loop (fun m e H_ => ∃ (k : Nat) (G2 : Hp) (oa : Option Addr) (oc : Nat) (rs : Option Nat) (l : List En), k ≤ S.length ∧ k ≤ n.toNat ∧ m = S.length - k ∧ StX (GXo b9 l) G2 H_ ∧ l.Perm (S.drop k) ∧ HpF l l.length 0 ∧ Le G G2 ∧ OwnS G2 38 2 (.slice oa k oc) k (ens (S.take k)) rs ∧ (∀ r, rs = some r → G r = none) ∧ Env.has [(2, .int .i64 n), (9, .pointer (some ⟨b9, 0, none⟩)), (10, .slice oa k oc)] e) (S.length) ?_ ?_
 ·skip
  exact ⟨0, G, none, 0, none, l25, Nat.zero_le _, Nat.zero_le _, rfl, hS25, by rw [List.drop_zero]; exact hp25.trans hS.symm, hh25, Le.refl _, OwnS.nil _ _ _, (fun r hr => by cases hr), rfl, rfl, rfl, trivial⟩
 intro m_ e_ H_ hI_
 obtain ⟨k, G2, oa_, oc_, rs_, l_, hkS_, hkn, hmk, hS_, hp_, hh_, hlG_, ho_, hr_, he⟩ := hI_
 have hle_ : l_.length = S.length - k := by rw [hp_.length_eq, List.length_drop]
 have hGx : GXo b9 l_ H_ := hS_.all (fun F hF hl => hF.le hl)
 obtain ⟨sg, rg, hg9, hog, hrg⟩ := hGx
 obtain ⟨ga, gc, rfl⟩ := hog.holds.form
 refine CW_env he.sub ?_; clear he e_
 refine zad (fun K7 hK7 => ?_)
 refine zad (fun K8 hK8 => ?_)
 refine zab ?_
 refine zag rfl ?_
 refine zac (fun K hK r => ?_)
 simp only [zaC, l_len, List.map_toArray, List.map_cons, List.map_nil, zaF _ _ Try.underlying33, eX, ↓reduceIte, Nat.reduceEqDiff, Int.reduceToNat]
 refine hK _ _ ?_; clear hK K
 refine zag rfl ?_
 refine zac (fun K hK r => ?_)
 simp (disch := (first | omega | decide)) only [zaI, zaM, b_lss, zau, zaw, zat, zax, zas, zay, Bool.not_true, Bool.not_false, eX, ↓reduceIte, Nat.reduceEqDiff, Int.reduceToNat]
 refine hK _ _ ?_; clear hK K
 refine zag rfl ?_
 (first | refine OW_split (d := 30) rfl (fun g30 => ?_) (fun g30 => ?_) | skip)
 all_goals try (exfalso; exact cnA g30)
 all_goals (try simp only [decide_eq_true_eq, decide_eq_false_iff_not, Bool.not_eq_true, Bool.not_eq_false, Bool.and_eq_true, Bool.or_eq_true, Bool.or_eq_false_iff, Bool.not_eq_eq_eq_not, Bool.not_true, Bool.not_false] at g30)
 all_goals
  try simp only [eX, ↓reduceIte, Nat.reduceEqDiff, Int.reduceToNat]
  first
  |refine zam rfl (zaa (by decide)) rfl (fun K hK r => ?_)
   simp only [zar, eX, ↓reduceIte, Nat.reduceEqDiff, Int.reduceToNat]
   refine zak Try.underlying82 rfl hbA ldA ?_
   try simp only [eX, ↓reduceIte, Nat.reduceEqDiff, Int.reduceToNat]
   refine hK _ _ ?_; clear hK K
  |refine zan rfl (zaa (by decide)) rfl ?_
   simp only [eX, ↓reduceIte, Nat.reduceEqDiff, Int.reduceToNat]
  first
  |refine zam rfl (zaa (by decide)) rfl (fun K hK r => ?_)
   simp only [zaC, l_len, List.map_toArray, List.map_cons, List.map_nil, zaF _ _ Try.underlying82, eX, ↓reduceIte, Nat.reduceEqDiff, Int.reduceToNat]
   refine hK _ _ ?_; clear hK K
  |refine zan rfl (zaa (by decide)) rfl ?_
   simp only [eX, ↓reduceIte, Nat.reduceEqDiff, Int.reduceToNat]
  first
  |refine zam rfl (zaa (by decide)) rfl (fun K hK r => ?_)
   simp (disch := (first | omega | decide)) only [zaI, zaM, b_gtr, zau, zaw, zat, zax, zas, zay, Bool.not_true, Bool.not_false, eX, ↓reduceIte, Nat.reduceEqDiff, Int.reduceToNat]
   refine hK _ _ ?_; clear hK K
  |refine zan rfl (zaa (by decide)) rfl ?_
   simp only [eX, ↓reduceIte, Nat.reduceEqDiff, Int.reduceToNat]
  refine zac (fun K hK r => ?_)
  simp only [x_pick, l_asBool, HL.ite_bool, if_true, if_false, Bool.false_eq_true, eX, ↓reduceIte, Nat.reduceEqDiff, Int.reduceToNat]
  refine hK _ _ ?_; clear hK K
  refine zae ?_
  try simp only [Ex.thnH, Ex.inBlockH, ↓reduceIte, Nat.reduceEqDiff]
  refine hK8 _ _ ?_; try clear hK8 K8
  refine zaH (fun r => rfl) (fun c34 => ?_) (fun c34 => ?_)
  ·first
   |(exfalso; exact cnA c34; done)
   |skip
    have hkS : k < S.length := by simp at c34; omega
    have hkn2 : (k : Int) < n := by omega
    refine zaL ?_
    try simp only [Ex.thnH, Ex.inBlockH, ↓reduceIte, Nat.reduceEqDiff]
    refine hK7 _ _ ?_; try clear hK7 K7
    refine zaP ?_
    refine zad (fun K9 hK9 => ?_)
    refine zab ?_
    refine zac (fun K hK r => ?_)
    simp only [x_makeInterface, i_makeInterface, Try.underlying85, zai, eX, ↓reduceIte, Nat.reduceEqDiff, Int.reduceToNat]
    refine hK _ _ ?_; clear hK K
    refine zac (fun K hK r => ?_)
    simp only [zaQ _ bd36, List.map_toArray, List.map_cons, List.map_nil, eX, ↓reduceIte, Nat.reduceEqDiff, Int.reduceToNat]
    refine (hS_.call1 (V := fun v => v = .iface 38 (.agg (at_ l_ 0).c.toArray)) (Y := fun F => ∃ l', GXo b9 l' F ∧ (at_ l_ 0 :: l').Perm l_ ∧ HpF l' l'.length 0) (fun F hF => hpop_ok F b9 l_ hF (by omega) (by omega) hh_)).mono ?_
    rintro v37 H37 ⟨rfl, F37, ⟨l37, hX37, hp37, hh37⟩, hq37⟩
    have hS37 : StX (GXo b9 l37) G2 H37 := ⟨F37, hX37, hq37⟩
    rw [top_next hSp hp_ hh_ hkS]
    try simp only [eX, ↓reduceIte, Nat.reduceEqDiff, Int.reduceToNat]
    refine hK _ _ ?_; clear hK K
    refine zac (fun K hK r => ?_)
    simp only [x_typeAssert, eX, ↓reduceIte, Nat.reduceEqDiff, Int.reduceToNat]
    first | rw [t_same _ _ _ Try.underlying38 (by simp)] | rw [t_other _ _ _ _ Try.underlying38 (by simp) (by decide) _ _ zr38] | rw [t_nil _ _ _ Try.underlying38 (by simp) _ zr38]
    try simp only [if_true, Bool.false_eq_true, if_false]
    try simp only [eX, ↓reduceIte, Nat.reduceEqDiff, Int.reduceToNat]
    refine hK _ _ ?_; clear hK K
    refine zag rfl ?_
    refine zac (fun K hK r => ?_)
    simp only [x_extract, i_extract, List.getElem?_toArray, List.getElem?_cons_zero, List.getElem?_cons_succ, zai, eX, ↓reduceIte, Nat.reduceEqDiff, Int.reduceToNat]
    refine hK _ _ ?_; clear hK K
    refine zac (fun K hK r => ?_)
    simp only [x_extract, i_extract, List.getElem?_toArray, List.getElem?_cons_zero, List.getElem?_cons_succ, zai, eX, ↓reduceIte, Nat.reduceEqDiff, Int.reduceToNat]
    refine hK _ _ ?_; clear hK K
    refine zac (fun K hK r => ?_)
    simp only [x_alloc, zr38, zai, Value.cells, eX, ↓reduceIte, Nat.reduceEqDiff, Int.reduceToNat]
    intro b11 hb11
    try have n11_b9 : b9 ≠ b11 := zaz hbA hb11
    try simp only [eX, ↓reduceIte, Nat.reduceEqDiff, Int.reduceToNat]
    refine hK _ _ ?_; clear hK K
    refine OW_op rfl (lt_none) (fun K hK r => ?_)
    simp only [x_store, eX, ↓reduceIte, Nat.reduceEqDiff, Int.reduceToNat]
    first | refine Lt_storeAll sz38 bdA hbA bdA plA (by decide) ?_ | refine Lt_storeAtA sz38 bdA hbA bdA plA (by decide) ?_
    try simp only [eX, ↓reduceIte, Nat.reduceEqDiff, Int.reduceToNat]
    refine hK _ _ ?_; clear hK K
    refine zao rfl ?_
    refine zae ?_
    try simp only [Ex.thnH, Ex.inBlockH, ↓reduceIte, Nat.reduceEqDiff]
    refine hK9 _ _ ?_; try clear hK9 K9
    refine zab ?_
    refine zag rfl ?_
    refine zac (fun K hK r => ?_)
    simp only [zar, eX, ↓reduceIte, Nat.reduceEqDiff, Int.reduceToNat]
    first | refine Lt_loadAll Try.underlying38 rfl sz38 hbA bdA ?_ | refine zaS Try.underlying38 rfl sz38 hbA bdA ?_
    try simp only [List.extract_toArray, List.extract_eq_take_drop, Nat.zero_add, Nat.reduceAdd, Nat.reduceSub, Nat.sub_zero, List.drop_succ_cons, List.drop_zero, List.take_succ_cons, List.take_zero, List.take_nil, List.drop_nil]
    try simp only [eX, ↓reduceIte, Nat.reduceEqDiff, Int.reduceToNat]
    refine hK _ _ ?_; clear hK K
    refine zac (fun K hK r => ?_)
    simp only [x_buildSlice, List.map_toArray, List.map_cons, List.map_nil, eX, ↓reduceIte, Nat.reduceEqDiff, Int.reduceToNat]
    refine Lt_buildSlice (vs := [_]) Try.underlying33 sz38 zr38 rfl bsA (by first | decide | (simp; done)) ?_
    simp only [List.flatMap_cons, List.flatMap_nil, Value.cells, List.append_nil, List.cons_append, List.nil_append, List.length_cons, List.length_nil, Nat.zero_add, Nat.reduceAdd]
    intro b43 hb43
    try have n43_b9 : b9 ≠ b43 := zaz hbA hb43
    try have n43_b11 : b11 ≠ b43 := zaz hbA hb43
    try simp only [eX, ↓reduceIte, Nat.reduceEqDiff, Int.reduceToNat]
    refine hK _ _ ?_; clear hK K
    refine zac (fun K hK r => ?_)
    simp only [zaC, l_append, List.map_toArray, List.map_cons, List.map_nil, eX, ↓reduceIte, Nat.reduceEqDiff, Int.reduceToNat]
    have h11 := (hS37.put (.inl hb11) (.cells (at_ S k).c.toArray 38)).put (.inl hb43) (.cells (at_ S k).c.toArray 38)
    have f11_2 : G2 b11 = none := zaj hS37.old hb11
    have f43_2 : G2 b43 = none := zaj (zal hS37.old f11_2) hb43
    have hlG2 : Le G2 ((G2.upd b11 (.cells (at_ S k).c.toArray 38)).upd b43 (.cells (at_ S k).c.toArray 38)) := zal (zal (Le.refl _) f11_2) f43_2
    have ho2 := ho_.le hlG2
    refine Lt_append Try.underlying33 Try.underlying33 (by simp) sz38 by38 (by decide) zr38 rfl _ (n := k) (m := 1) (cs := ens (S.take k)) (ds := (at_ S k).c) (rs := rs_) (ho2.le h11.old) (len_slice _ _ _) (fun Kx => first_slice (w := 2) (n := 1) (cs := (at_ S k).c) ⟨rfl, .inr ⟨b43, 0, 1, _, _, _, rfl, (zap _ _ _), by simp, by simp⟩⟩ Kx) rfl (by intro z hz; simp at hz; rcases hz with rfl | rfl <;> rfl) (by omega) ?_
    intro v44 H44 rs44 hg44 ho44 hr44
    obtain ⟨G4, hS44, hlG4, ho44', hn44⟩ := StX.grow h11 (Le.trans hlG_ hlG2) ho2 hr_ hg44 ho44 hr44
    obtain ⟨sa44, sc44, rfl⟩ := ho44.holds.form
    rw [take_ens hkS] at ho44'
    refine hK _ _ ?_; clear hK K
    refine zao rfl ?_
    refine zae ?_
    try simp only [Ex.thnH, Ex.inBlockH, ↓reduceIte, Nat.reduceEqDiff]
    exact ⟨S.length - (k + 1), by omega, k + 1, G4, sa44, sc44, rs44, l37, by omega, by omega, rfl, hS44, top_rest hkS hp_ (top_next hSp hp_ hh_ hkS) hp37, hh37, hlG4, ho44', hn44, rfl, rfl, rfl, trivial⟩
  ·first
   |(exfalso; exact cnA c34; done)
   |skip
    have hfin : S.take n.toNat = S.take k := by
     by_cases hkn2 : (k : Int) < n
     ·have hk9 : k = S.length := by
       first
       |(exfalso; omega)
       |(rw [decide_eq_false_iff_not] at c34; omega)
       |(simp only [decide_eq_false_iff_not, gt_iff_lt] at c34; omega)
      rw [hk9, List.take_length, List.take_of_length_le (by omega)]
     ·rw [show n.toNat = k from by omega]
    refine CW_exit ?_
    try simp only [Ex.thnH, Ex.inBlockH, ↓reduceIte, Nat.reduceEqDiff]
    refine hK6 _ _ ?_; try clear hK6 K6
    refine zad (fun K10 hK10 => ?_)
    refine zab ?_
    refine zag rfl ?_
    refine zao rfl ?_
    refine zae ?_
    try simp only [Ex.thnH, Ex.inBlockH, ↓reduceIte, Nat.reduceEqDiff]
    refine hK10 _ _ ?_; try clear hK10 K10
    refine zaV ?_
    try simp only [Ex.thnH, Ex.inBlockH, ↓reduceIte, Nat.reduceEqDiff]
    refine ⟨[_], ⟨rfl, trivial⟩, _, Le.refl _, Le.trans hlG_ hS_.old, rs_, ?_, hr_⟩
    rw [hfin, show (S.take k).length = k from by rw [List.length_take]; omega]
    exact ho_.le hS_.old
end Go.Proofs.Ytjhohnbdhopllaa.HL
end
section
namespace Go.Proofs.Ytjhohnbdhopllaa.HL
open Go Go.Proofs
set_option linter.unusedSimpArgs false
set_option linter.unusedVariables false
attribute [local irreducible] Lt Lq CW OW TW CallH
def mvN (k : Nat) (mm : Nat → Nat) (j : Nat) : Value := if j < k then .map (some (mm j)) else .map none
def mkN (k : Nat) (mm : Nat → Nat) : Array Value := #[.slice none 0 0, mvN k mm 0, .slice none 0 0, mvN k mm 1, .slice none 0 0, mvN k mm 2, .slice none 0 0, mvN k mm 3]
theorem mkN_set {k : Nat} (h : k < 4) (mm : Nat → Nat) (r : Nat) : (mkN k mm).setIfInBounds (k * 2 + 1) (.map (some r)) = mkN (k + 1) (fun j => if j = k then r else mm j) := by
  match k, h with
  | 0, _ => rfl
  | 1, _ => rfl
  | 2, _ => rfl
  | 3, _ => rfl
structure NewIx (G H : Hp) (b k : Nat) (mm : Nat → Nat) : Prop where
  blk : H b = some (.cells (mkN k mm) 74)
  nb : G b = none
  mp : ∀ j, j < k → H (mm j) = some (.map #[] 0) ∧ G (mm j) = none ∧ mm j ≠ b
  ap : ∀ i j, i < k → j < k → i ≠ j → mm i ≠ mm j
  le : Le G H
theorem NewIx.step {G H : Hp} {b k : Nat} {mm : Nat → Nat} (h : NewIx G H b k mm) (hk : k < 4) {r : Nat} (hr : H r = none) : NewIx G ((H.upd r (.map #[] 0)).upd b (.cells ((mkN k mm).setIfInBounds (k * 2 + 1) (.map (some r))) 74)) b (k + 1) (fun j => if j = k then r else mm j) := by
  have hrb : b ≠ r := zaz h.blk hr
  refine ⟨by rw [zap, mkN_set hk], h.nb, fun j hj => ?_, fun i j hi hj hij => ?_, ?_⟩
  · by_cases e : j = k
    · subst e
      simp only [if_true]
      exact ⟨by rw [zaE _ _ (Ne.symm hrb), zap], zaj h.le hr, Ne.symm hrb⟩
    · simp only [e, if_false]
      obtain ⟨h1, h2, h3⟩ := h.mp j (by omega)
      exact ⟨by rw [zaE _ _ h3, zaE _ _ (zaz h1 hr)]; exact h1, h2, h3⟩
  · by_cases e : i = k
    · subst e
      have e2 : j ≠ i := fun hh => hij hh.symm
      simp only [if_true, e2, if_false]
      exact fun hh => zaz (h.mp j (by omega)).1 hr hh.symm
    · by_cases e2 : j = k
      · subst e2
        simp only [if_true, e, if_false]
        exact zaz (h.mp i (by omega)).1 hr
      · simp only [e, e2, if_false]
        exact h.ap i j (by omega) (by omega) hij
  · exact zal (zal h.le (zaj h.le hr)) h.nb
theorem NewIx.done {G H : Hp} {b : Nat} {mm : Nat → Nat} (h : NewIx G H b 4 mm) : StX (IX b (fun _ => [])) G H := by
  refine StX.of (F := fun x => if x = b ∨ x = mm 0 ∨ x = mm 1 ∨ x = mm 2 ∨ x = mm 3 then H x else none) ⟨fun t => ⟨.slice none 0 0, mm t, none, []⟩, ⟨?_, fun t ht => ?_, fun t ht => ⟨(h.mp t ht).2.2, fun hh => by cases hh⟩, fun t u ht hu htu => ⟨h.ap t u ht hu htu, (fun hh => by cases hh), fun r hr => by cases hr⟩⟩, fun t _ => rfl⟩ (fun x o hx => ?_) h.le (fun x hx => ?_)
  · rw [if_pos (.inl rfl)]; exact h.blk
  · refine ⟨OwnS.nil _ _ _, ⟨#[], 0, ?_, fun e he => by simp at he, List.Pairwise.nil, fun k => rfl⟩, GoodE.nil⟩
    show (if _ then _ else _) = _
    rw [if_pos (.inr (by match t, ht with
      | 0, _ => exact .inl rfl
      | 1, _ => exact .inr (.inl rfl)
      | 2, _ => exact .inr (.inr (.inl rfl))
      | 3, _ => exact .inr (.inr (.inr rfl))))]
    exact (h.mp t ht).1
  · try simp only at hx
    split at hx
    · exact hx
    · cases hx
  · try simp only at hx
    split at hx
    · rename_i hor
      rcases hor with rfl | rfl | rfl | rfl | rfl
      · exact h.nb
      · exact (h.mp 0 (by omega)).2.1
      · exact (h.mp 1 (by omega)).2.1
      · exact (h.mp 2 (by omega)).2.1
      · exact (h.mp 3 (by omega)).2.1
    · exact absurd rfl hx
set_option maxRecDepth 100000 in
set_option maxHeartbeats 1000000 in
theorem new_ok (G : Hp) : CallH Try.prog 9 #[] G (fun v G' => ∃ b, v = .pointer (some ⟨b, 0, none⟩) ∧ StX (IX b (fun _ => [])) G G') := by
 refine zaB (l := []) (rl := [.tmp 0]) (n := 17) Try.func9 rfl rfl rfl rfl rfl ?_
 simp only [envOf, Nat.reduceAdd]
 refine zad (fun K1 hK1 => ?_)
 refine zab ?_
 refine zao rfl ?_
 refine zae ?_
 try simp only [Ex.thnH, Ex.inBlockH, ↓reduceIte, Nat.reduceEqDiff]
 refine hK1 _ _ ?_; try clear hK1 K1
 refine zad (fun K2 hK2 => ?_)
 refine zab ?_
 refine zac (fun K hK r => ?_)
 simp only [x_build, bp74, List.map_toArray, List.map_cons, List.map_nil, eX, ↓reduceIte, Nat.reduceEqDiff, Int.reduceToNat]
 simp only [fill_nil, zai, List.setIfInBounds_toArray, List.set_cons_zero, List.set_cons_succ]
 try simp only [eX, ↓reduceIte, Nat.reduceEqDiff, Int.reduceToNat]
 refine hK _ _ ?_; clear hK K
 refine zac (fun K hK r => ?_)
 simp only [x_box, Value.cells, eX, ↓reduceIte, Nat.reduceEqDiff, Int.reduceToNat]
 intro b4 hb4
 have f4_G : G b4 = none := zaj lhA hb4
 try simp only [eX, ↓reduceIte, Nat.reduceEqDiff, Int.reduceToNat]
 refine hK _ _ ?_; clear hK K
 refine zao rfl ?_
 refine zae ?_
 try simp only [Ex.thnH, Ex.inBlockH, ↓reduceIte, Nat.reduceEqDiff]
 refine hK2 _ _ ?_; try clear hK2 K2
 refine zad (fun K3 hK3 => ?_)
 refine zad (fun K4 hK4 => ?_)
 refine zab ?_
 refine zag rfl ?_
 refine zae ?_
 try simp only [Ex.thnH, Ex.inBlockH, ↓reduceIte, Nat.reduceEqDiff]
 refine hK4 _ _ ?_; try clear hK4 K4
 refine zaP ?_
 refine CW_loop (fun m e H_ => ∃ (k : Nat) (mm : Nat → Nat), k ≤ 4 ∧ m = 4 - k ∧ NewIx G H_ b4 k mm ∧ Env.has [(1, .pointer (some ⟨b4, 0, none⟩)), (5, .int .i64 k)] e) (4) ?_ ?_
 ·skip
  exact ⟨0, fun _ => 0, by omega, by omega, ⟨zap _ _ _, f4_G, (fun j hj => absurd hj (by omega)), (fun i j hi => absurd hi (by omega)), lhA⟩, rfl, rfl, trivial⟩
 intro m_ e_ H_ hI_
 obtain ⟨k, mm, hk, rfl, hN, he⟩ := hI_
 have hb_4 := hN.blk
 refine CW_env he.sub ?_; clear he e_
 refine zad (fun K5 hK5 => ?_)
 refine zab ?_
 refine zac (fun K hK r => ?_)
 simp (disch := (first | omega | decide)) only [zaI, zaM, b_lss, zau, zaw, zat, zax, zas, zay, Bool.not_true, Bool.not_false, eX, ↓reduceIte, Nat.reduceEqDiff, Int.reduceToNat]
 refine hK _ _ ?_; clear hK K
 refine zae ?_
 try simp only [Ex.thnH, Ex.inBlockH, ↓reduceIte, Nat.reduceEqDiff]
 refine hK5 _ _ ?_; try clear hK5 K5
 refine zad (fun K6 hK6 => ?_)
 refine zaH (fun r => rfl) (fun c6 => ?_) (fun c6 => ?_)
 ·first
  |(exfalso; exact cnA c6; done)
  |skip
   (try simp only [decide_eq_true_eq, decide_eq_false_iff_not, Bool.not_eq_true, Bool.not_eq_false, Bool.and_eq_true, Bool.or_eq_true, Bool.or_eq_false_iff, Bool.not_eq_eq_eq_not, Bool.not_true, Bool.not_false] at c6)
   have hk4 : k < 4 := by omega
   refine zaL ?_
   try simp only [Ex.thnH, Ex.inBlockH, ↓reduceIte, Nat.reduceEqDiff]
   refine hK6 _ _ ?_; try clear hK6 K6
   refine zad (fun K7 hK7 => ?_)
   refine zaP ?_
   refine zad (fun K8 hK8 => ?_)
   refine zab ?_
   refine zag rfl ?_
   refine zao rfl ?_
   refine zae ?_
   try simp only [Ex.thnH, Ex.inBlockH, ↓reduceIte, Nat.reduceEqDiff]
   refine hK8 _ _ ?_; try clear hK8 K8
   refine zab ?_
   refine zag rfl ?_
   refine zag rfl ?_
   refine zac (fun K hK r => ?_)
   simp only [x_makeMap, Option.map_none, eX, ↓reduceIte, Nat.reduceEqDiff, Int.reduceToNat]
   refine Lt_makeMap ?_
   intro b10 hb10
   try have n10_b4 : b4 ≠ b10 := zaz hbA hb10
   try simp only [eX, ↓reduceIte, Nat.reduceEqDiff, Int.reduceToNat]
   refine hK _ _ ?_; clear hK K
   refine zac (fun K hK r => ?_)
   rw [zaT _ _ rfl]
   simp only [eX, ↓reduceIte, Nat.reduceEqDiff, Int.reduceToNat]
   refine hK _ _ ?_; clear hK K
   refine zac (fun K hK r => ?_)
   simp only [zah, fa74_0, zaA, Nat.reduceAdd, Nat.zero_add, eX, ↓reduceIte, Nat.reduceEqDiff, Int.reduceToNat]
   refine hK _ _ ?_; clear hK K
   refine zac (fun K hK r => ?_)
   simp only [zav, eX, ↓reduceIte, Nat.reduceEqDiff, Int.reduceToNat]
   refine Lt_indexA Try.underlying72 sz71 ixA ixA ?_
   try simp only [zaA, Nat.mul_one, Nat.zero_add, Int.reduceToNat]
   try simp only [eX, ↓reduceIte, Nat.reduceEqDiff, Int.reduceToNat]
   refine hK _ _ ?_; clear hK K
   refine zac (fun K hK r => ?_)
   simp only [zah, fa71_1, zaA, Nat.reduceAdd, Nat.zero_add, eX, ↓reduceIte, Nat.reduceEqDiff, Int.reduceToNat]
   refine hK _ _ ?_; clear hK K
   refine OW_op rfl (lt_none) (fun K hK r => ?_)
   simp only [x_store, eX, ↓reduceIte, Nat.reduceEqDiff, Int.reduceToNat]
   refine Lt_storeAt1 sz69 hbA (by show _ < 8; omega) plA fzA ?_
   try simp only [Int.toNat_natCast]
   refine hK _ _ ?_; clear hK K
   refine zae ?_
   try simp only [Ex.thnH, Ex.inBlockH, ↓reduceIte, Nat.reduceEqDiff]
   refine hK7 _ _ ?_; try clear hK7 K7
   refine zab ?_
   refine zac (fun K hK r => ?_)
   simp (disch := (first | omega | decide)) only [zaI, zaM, b_add, zaG, zaK, zaJ, zaR, eX, ↓reduceIte, Nat.reduceEqDiff, Int.reduceToNat]
   refine hK _ _ ?_; clear hK K
   refine zag rfl ?_
   refine zae ?_
   try simp only [Ex.thnH, Ex.inBlockH, ↓reduceIte, Nat.reduceEqDiff]
   exact ⟨4 - (k + 1), by omega, k + 1, _, by omega, rfl, hN.step hk4 hb10, rfl, rfl, trivial⟩
 ·first
  |(exfalso; exact cnA c6; done)
  |skip
   (try simp only [decide_eq_true_eq, decide_eq_false_iff_not, Bool.not_eq_true, Bool.not_eq_false, Bool.and_eq_true, Bool.or_eq_true, Bool.or_eq_false_iff, Bool.not_eq_eq_eq_not, Bool.not_true, Bool.not_false] at c6)
   obtain rfl : k = 4 := by omega
   refine CW_exit ?_
   try simp only [Ex.thnH, Ex.inBlockH, ↓reduceIte, Nat.reduceEqDiff]
   refine hK3 _ _ ?_; try clear hK3 K3
   refine zad (fun K9 hK9 => ?_)
   refine zab ?_
   refine zag rfl ?_
   refine zao rfl ?_
   refine zae ?_
   try simp only [Ex.thnH, Ex.inBlockH, ↓reduceIte, Nat.reduceEqDiff]
   refine hK9 _ _ ?_; try clear hK9 K9
   refine zaV ?_
   try simp only [Ex.thnH, Ex.inBlockH, ↓reduceIte, Nat.reduceEqDiff]
   exact ⟨[_], ⟨rfl, trivial⟩, _, Le.refl _, b4, rfl, hN.done⟩
end Go.Proofs.Ytjhohnbdhopllaa.HL
end
section
namespace Go.Proofs.Ytjhohnbdhopllaa.HL
open Go Go.Proofs
set_option linter.unusedSimpArgs false
set_option linter.unusedVariables false
attribute [local irreducible] Lt Lq CW OW TW CallH
def alW : List Wr := [⟨2, 1, 5, false⟩, ⟨2, 2, 3, false⟩, ⟨2, 3, 5, false⟩]
def alE (k : Nat) : Nat → List En := (alW.take k).foldl stepE (fun _ => [])
def alS : List En := [⟨5, 1⟩, ⟨5, 3⟩, ⟨3, 2⟩]
theorem alE_sz (k : Nat) (h : k ≤ 3) : SzE (alE k) k := by
  have h1 := SzE.fold (L := alW.take k) (E := fun _ => []) (n := 0) (fun t _ => Nat.le_refl _) (any_take (by decide) k)
  refine h1.up ?_
  rw [List.length_take]; omega
theorem alW_at {k : Nat} (h : k < 3) : alW.getD k default = ⟨2, (k : Int) + 1, [5, 3, 5].getD k 0, false⟩ := by
  match k, h with
  | 0, _ => rfl
  | 1, _ => rfl
  | 2, _ => rfl
theorem alE_step {k : Nat} (h : k < 3) : tellE (alE k) [⟨2, (k : Int) + 1, [5, 3, 5].getD k 0, false⟩] = alE (k + 1) := by
  unfold alE
  rw [foldl_take _ _ (by simpa [alW] using h), alW_at h]
  rfl
theorem al_tab : tabE (alE 3) 2 = [⟨3, 2⟩, ⟨5, 1⟩, ⟨5, 3⟩] := by decide
theorem alS_perm : alS.Perm (tabE (alE 3) 2) := by
  rw [al_tab]
  exact (List.perm_append_comm (l₁ := [(⟨5, 1⟩ : En), ⟨5, 3⟩]) (l₂ := [⟨3, 2⟩]))
theorem alS_pair : alS.Pairwise glE := by unfold alS; decide
theorem mkWr (t k v : Int) (H : Hp) (K : Value → Hp → Prop) : Lt Try.prog (Instr.build 46 #[(0, .agg #[.int .i64 t, .int .i64 k]), (1, .int .i64 v)]) H K = K (.agg (⟨t, k, v, false⟩ : Wr).c.toArray) H := by
  rw [bp46]
  rw [fill_manyR (l := [.int .i64 t, .int .i64 k]) (n := 2) rfl rfl rfl (by simp)]
  rw [fill_one rfl rfl (by rw [putCells_size]; simp), fill_nil, zai]
  rfl
theorem xv_of {b : Nat} {E : Nat → List En} {G Q : Hp} (h : StX (IX b E) G Q) : XV Q (.pointer (some ⟨b, 0, none⟩)) E := .inr ⟨b, rfl, h.all (fun F hF hl => hF.le hl)⟩
set_option maxRecDepth 100000 in
set_option maxHeartbeats 4000000 in
theorem alive_ok (G : Hp) : CallH Try.prog 7 #[] G (fun v G' => v = .bool true ∧ G' = G) := by
 refine zaB (l := []) (rl := [.tmp 0]) (n := 52) Try.func7 rfl rfl rfl rfl rfl ?_
 simp only [envOf, Nat.reduceAdd]
 refine zad (fun K1 hK1 => ?_)
 refine zab ?_
 refine zao rfl ?_
 refine zae ?_
 try simp only [Ex.thnH, Ex.inBlockH, ↓reduceIte, Nat.reduceEqDiff]
 refine hK1 _ _ ?_; try clear hK1 K1
 refine zad (fun K2 hK2 => ?_)
 refine zab ?_
 refine zac (fun K hK r => ?_)
 simp only [zaQ _ bd9, List.map_toArray, List.map_cons, List.map_nil, eX, ↓reduceIte, Nat.reduceEqDiff, Int.reduceToNat]
 refine (new_ok _).mono ?_
 rintro v5 H5 ⟨b, rfl, hS5⟩
 have l5 := hS5.old
 try simp only [eX, ↓reduceIte, Nat.reduceEqDiff, Int.reduceToNat]
 refine hK _ _ ?_; clear hK K
 refine zao rfl ?_
 refine zae ?_
 try simp only [Ex.thnH, Ex.inBlockH, ↓reduceIte, Nat.reduceEqDiff]
 refine hK2 _ _ ?_; try clear hK2 K2
 refine zad (fun K3 hK3 => ?_)
 refine zad (fun K4 hK4 => ?_)
 refine zab ?_
 refine zac (fun K hK r => ?_)
 simp only [x_buildSlice, List.map_toArray, List.map_cons, List.map_nil, eX, ↓reduceIte, Nat.reduceEqDiff, Int.reduceToNat]
 refine Lt_buildSlice (vs := [_, _, _]) Try.underlying55 sz3 zr3 rfl bsA (by first | decide | (simp; done)) ?_
 simp only [List.flatMap_cons, List.flatMap_nil, Value.cells, List.append_nil, List.cons_append, List.nil_append, List.length_cons, List.length_nil, Nat.zero_add, Nat.reduceAdd]
 intro b6 hb6
 have f6_H5 : H5 b6 = none := zaj lhA hb6
 have hS6' := hS5.put (b := b6) (.inl hb6) (.cells #[.int .i64 5, .int .i64 3, .int .i64 5] 3)
 obtain ⟨G6, hG6⟩ : ∃ G6 : Hp, G6 = G.upd b6 (.cells #[.int .i64 5, .int .i64 3, .int .i64 5] 3) := ⟨_, rfl⟩
 rw [← hG6] at hS6'
 have hS6 : StX (IX b (alE 0)) G6 _ := hS6'
 have hg6 : G6 b6 = some (.cells #[.int .i64 5, .int .i64 3, .int .i64 5] 3) := by rw [hG6]; exact zap _ _ _
 have lG6 : Le G G6 := by rw [hG6]; exact zal (Le.refl _) (zaj l5 hb6)
 try simp only [eX, ↓reduceIte, Nat.reduceEqDiff, Int.reduceToNat]
 refine hK _ _ ?_; clear hK K
 refine zac (fun K hK r => ?_)
 simp only [zaC, l_len, List.map_toArray, List.map_cons, List.map_nil, zaF _ _ Try.underlying55, eX, ↓reduceIte, Nat.reduceEqDiff, Int.reduceToNat]
 refine hK _ _ ?_; clear hK K
 refine zag rfl ?_
 refine zae ?_
 try simp only [Ex.thnH, Ex.inBlockH, ↓reduceIte, Nat.reduceEqDiff]
 refine hK4 _ _ ?_; try clear hK4 K4
 refine zaP ?_
 refine CW_loop (fun m e H_ => ∃ k : Nat, k ≤ 3 ∧ m = 3 - k ∧ StX (IX b (alE k)) G6 H_ ∧ Env.has [(1, .pointer (some ⟨b, 0, none⟩)), (6, .slice (some ⟨b6, 0, none⟩) 3 3), (7, .int .i64 3), (8, .int .i64 k)] e) (3) ?_ ?_
 ·skip
  exact ⟨0, by omega, rfl, hS6, rfl, rfl, rfl, rfl, trivial⟩
 intro m_ e_ H_ hI_
 obtain ⟨k, hk, rfl, hS_, he⟩ := hI_
 have hk6 := hS_.old _ _ hg6
 refine CW_env he.sub ?_; clear he e_
 refine zad (fun K5 hK5 => ?_)
 refine zab ?_
 refine zac (fun K hK r => ?_)
 simp (disch := (first | omega | decide)) only [zaI, zaM, b_lss, zau, zaw, zat, zax, zas, zay, Bool.not_true, Bool.not_false, eX, ↓reduceIte, Nat.reduceEqDiff, Int.reduceToNat]
 refine hK _ _ ?_; clear hK K
 refine zae ?_
 try simp only [Ex.thnH, Ex.inBlockH, ↓reduceIte, Nat.reduceEqDiff]
 refine hK5 _ _ ?_; try clear hK5 K5
 refine zad (fun K6 hK6 => ?_)
 refine zaH (fun r => rfl) (fun c9 => ?_) (fun c9 => ?_)
 ·first
  |(exfalso; exact cnA c9; done)
  |skip
   (try simp only [decide_eq_true_eq, decide_eq_false_iff_not, Bool.not_eq_true, Bool.not_eq_false, Bool.and_eq_true, Bool.or_eq_true, Bool.or_eq_false_iff, Bool.not_eq_eq_eq_not, Bool.not_true, Bool.not_false] at c9)
   have hk3 : k < 3 := by omega
   refine zaL ?_
   try simp only [Ex.thnH, Ex.inBlockH, ↓reduceIte, Nat.reduceEqDiff]
   refine hK6 _ _ ?_; try clear hK6 K6
   refine zad (fun K7 hK7 => ?_)
   refine zaP ?_
   refine zad (fun K8 hK8 => ?_)
   refine zab ?_
   refine zag rfl ?_
   refine zac (fun K hK r => ?_)
   simp only [zav, eX, ↓reduceIte, Nat.reduceEqDiff, Int.reduceToNat]
   refine Lt_indexS Try.underlying55 sz3 ixA ixA ?_
   try simp only [zaA, Nat.mul_one, Nat.zero_add, Int.reduceToNat]
   try simp only [eX, ↓reduceIte, Nat.reduceEqDiff, Int.reduceToNat]
   refine hK _ _ ?_; clear hK K
   refine zac (fun K hK r => ?_)
   simp only [zar, eX, ↓reduceIte, Nat.reduceEqDiff, Int.reduceToNat]
   refine zak Try.underlying3 rfl hk6 (v := .int .i64 ([5, 3, 5].getD k 0)) (by match k, hk3 with | 0, _ => rfl | 1, _ => rfl | 2, _ => rfl) ?_
   refine hK _ _ ?_; clear hK K
   refine zao rfl ?_
   refine zao rfl ?_
   refine zae ?_
   try simp only [Ex.thnH, Ex.inBlockH, ↓reduceIte, Nat.reduceEqDiff]
   refine hK8 _ _ ?_; try clear hK8 K8
   refine zad (fun K9 hK9 => ?_)
   refine zab ?_
   refine zag rfl ?_
   refine zag rfl ?_
   refine zac (fun K hK r => ?_)
   simp (disch := (first | omega | decide)) only [zaI, zaM, b_add, zaG, zaK, zaJ, zaR, eX, ↓reduceIte, Nat.reduceEqDiff, Int.reduceToNat]
   refine hK _ _ ?_; clear hK K
   refine zac (fun K hK r => ?_)
   simp only [x_build, bp44, List.map_toArray, List.map_cons, List.map_nil, eX, ↓reduceIte, Nat.reduceEqDiff, Int.reduceToNat]
   rw [fill_one rfl clA bdA]
   rw [fill_one rfl clA bdA]
   simp only [fill_nil, zai, List.setIfInBounds_toArray, List.set_cons_zero, List.set_cons_succ]
   try simp only [eX, ↓reduceIte, Nat.reduceEqDiff, Int.reduceToNat]
   refine hK _ _ ?_; clear hK K
   refine zag rfl ?_
   refine zac (fun K hK r => ?_)
   simp only [x_build, List.map_toArray, List.map_cons, List.map_nil, eX, ↓reduceIte, Nat.reduceEqDiff, Int.reduceToNat]
   rw [mkWr]
   refine hK _ _ ?_; clear hK K
   refine zac (fun K hK r => ?_)
   simp only [x_buildSlice, List.map_toArray, List.map_cons, List.map_nil, eX, ↓reduceIte, Nat.reduceEqDiff, Int.reduceToNat]
   refine Lt_buildSlice (vs := [_]) Try.underlying29 sz46 zr46 rfl bsA (by first | decide | (simp; done)) ?_
   simp only [List.flatMap_cons, List.flatMap_nil, Value.cells, List.append_nil, List.cons_append, List.nil_append, List.length_cons, List.length_nil, Nat.zero_add, Nat.reduceAdd]
   intro b19 hb19
   try have n19_b6 : b6 ≠ b19 := zaz hbA hb19
   try simp only [eX, ↓reduceIte, Nat.reduceEqDiff, Int.reduceToNat]
   refine hK _ _ ?_; clear hK K
   refine zac (fun K hK r => ?_)
   simp only [zaQ _ bd10, List.map_toArray, List.map_cons, List.map_nil, eX, ↓reduceIte, Nat.reduceEqDiff, Int.reduceToNat]
   have hS19 := hS_.put (b := b19) (.inl hb19) (.cells (wrs [(⟨2, (k : Int) + 1, [5, 3, 5].getD k 0, false⟩ : Wr)]).toArray 46)
   refine (tell_ok _ _ b (alE k) hS19 (some ⟨b19, 0, none⟩) 1 [⟨2, (k : Int) + 1, [5, 3, 5].getD k 0, false⟩] ⟨rfl, .inr ⟨b19, 0, 1, _, _, _, rfl, zap _ _ _, by simp, by simp⟩⟩ k (alE_sz k hk) (by simp; omega)).mono ?_
   rintro v20 H20 ⟨rfl, hS20⟩
   rw [alE_step hk3] at hS20
   rw [show errV (if [(⟨2, (k : Int) + 1, [5, 3, 5].getD k 0, false⟩ : Wr)].any farW = true then some 1 else none) = .nilIface from rfl]
   try simp only [eX, ↓reduceIte, Nat.reduceEqDiff, Int.reduceToNat]
   refine hK _ _ ?_; clear hK K
   refine zac (fun K hK r => ?_)
   simp only [zaI, zaM, g_bool, g_string, g_pointer, g_slice, g_map, g_func, g_nilFunc, g_err, g_iface, g_nil_iface, g_nil_r, g_nil_l, eX, ↓reduceIte, Nat.reduceEqDiff, Int.reduceToNat]
   first | rw [b_err_neq _ _ Try.underlying31] | (rw [e_neq _ _ _ _ (by simp), q_equal]; first | rw [q_iface_nil _ _ _ Try.underlying31] | rw [q_nil_iface _ _ _ Try.underlying31] | rw [q_nil_nil _ _ _ Try.underlying31])
   try simp only [eX, ↓reduceIte, Nat.reduceEqDiff, Int.reduceToNat]
   refine hK _ _ ?_; clear hK K
   refine zae ?_
   try simp only [Ex.thnH, Ex.inBlockH, ↓reduceIte, Nat.reduceEqDiff]
   refine hK9 _ _ ?_; try clear hK9 K9
   refine zaH (fun r => rfl) (fun c21 => ?_) (fun c21 => ?_)
   ·first
    |(exfalso; exact cnA c21; done)
    |skip
     (try simp only [decide_eq_true_eq, decide_eq_false_iff_not, Bool.not_eq_true, Bool.not_eq_false, Bool.and_eq_true, Bool.or_eq_true, Bool.or_eq_false_iff, Bool.not_eq_eq_eq_not, Bool.not_true, Bool.not_false] at c21)
     refine zad (fun K10 hK10 => ?_)
     refine zab ?_
     refine zao rfl ?_
     refine zae ?_
     try simp only [Ex.thnH, Ex.inBlockH, ↓reduceIte, Nat.reduceEqDiff]
     refine hK10 _ _ ?_; try clear hK10 K10
     refine zaV ?_
     try simp only [Ex.thnH, Ex.inBlockH, ↓reduceIte, Nat.reduceEqDiff]
     skip
   ·first
    |(exfalso; exact cnA c21; done)
    |skip
     (try simp only [decide_eq_true_eq, decide_eq_false_iff_not, Bool.not_eq_true, Bool.not_eq_false, Bool.and_eq_true, Bool.or_eq_true, Bool.or_eq_false_iff, Bool.not_eq_eq_eq_not, Bool.not_true, Bool.not_false] at c21)
     refine zaL ?_
     try simp only [Ex.thnH, Ex.inBlockH, ↓reduceIte, Nat.reduceEqDiff]
     refine hK7 _ _ ?_; try clear hK7 K7
     refine zab ?_
     refine zac (fun K hK r => ?_)
     simp (disch := (first | omega | decide)) only [zaI, zaM, b_add, zaG, zaK, zaJ, zaR, eX, ↓reduceIte, Nat.reduceEqDiff, Int.reduceToNat]
     refine hK _ _ ?_; clear hK K
     refine zag rfl ?_
     refine zae ?_
     try simp only [Ex.thnH, Ex.inBlockH, ↓reduceIte, Nat.reduceEqDiff]
     refine ⟨3 - (k + 1), by omega, k + 1, by omega, rfl, hS20.less (zal (Le.refl _) (zaj hS_.old hb19)), rfl, rfl, rfl, rfl, trivial⟩
 ·first
  |(exfalso; exact cnA c9; done)
  |skip
   (try simp only [decide_eq_true_eq, decide_eq_false_iff_not, Bool.not_eq_true, Bool.not_eq_false, Bool.and_eq_true, Bool.or_eq_true, Bool.or_eq_false_iff, Bool.not_eq_eq_eq_not, Bool.not_true, Bool.not_false] at c9)
   obtain rfl : k = 3 := by omega
   refine CW_exit ?_
   try simp only [Ex.thnH, Ex.inBlockH, ↓reduceIte, Nat.reduceEqDiff]
   refine hK3 _ _ ?_; try clear hK3 K3
   refine zad (fun K11 hK11 => ?_)
   refine zab ?_
   refine zag rfl ?_
   refine zac (fun K hK r => ?_)
   simp only [zaQ _ bd12, List.map_toArray, List.map_cons, List.map_nil, eX, ↓reduceIte, Nat.reduceEqDiff, Int.reduceToNat]
   have hX_ := xv_of hS_
   refine (top_ok _ _ _ hX_ 2 2 (by rw [al_tab]; decide) alS alS_perm alS_pair).mono ?_
   rintro v24 H24 ⟨hl24, rs24, ho24, hr24⟩
   have ho24' : OwnS H24 38 2 v24 2 (ens [⟨5, 1⟩, ⟨5, 3⟩]) rs24 := ho24
   clear ho24
   obtain ⟨ta, tc, rfl⟩ := ho24'.holds.form
   obtain ⟨bw, ow, cw, Tw, Fw, ew, hbw, hsw, atw⟩ := ho24'.holds.at (by decide)
   have hX24 := hX_.le hl24
   try simp only [eX, ↓reduceIte, Nat.reduceEqDiff, Int.reduceToNat]
   refine hK _ _ ?_; clear hK K
   refine zao rfl ?_
   refine zae ?_
   try simp only [Ex.thnH, Ex.inBlockH, ↓reduceIte, Nat.reduceEqDiff]
   refine hK11 _ _ ?_; try clear hK11 K11
   refine zad (fun K12 hK12 => ?_)
   refine zab ?_
   refine zag rfl ?_
   refine zac (fun K hK r => ?_)
   simp only [zaC, l_len, List.map_toArray, List.map_cons, List.map_nil, zaF _ _ Try.underlying33, eX, ↓reduceIte, Nat.reduceEqDiff, Int.reduceToNat]
   refine hK _ _ ?_; clear hK K
   refine zac (fun K hK r => ?_)
   simp (disch := (first | omega | decide)) only [zaI, zaM, b_eql, zau, zaw, zat, zax, zas, zay, Bool.not_true, Bool.not_false, eX, ↓reduceIte, Nat.reduceEqDiff, Int.reduceToNat]
   refine hK _ _ ?_; clear hK K
   refine zag rfl ?_
   (first | refine OW_split (d := 28) rfl (fun g28 => ?_) (fun g28 => ?_) | skip)
   all_goals try (exfalso; exact cnA g28)
   all_goals (try simp only [decide_eq_true_eq, decide_eq_false_iff_not, Bool.not_eq_true, Bool.not_eq_false, Bool.and_eq_true, Bool.or_eq_true, Bool.or_eq_false_iff, Bool.not_eq_eq_eq_not, Bool.not_true, Bool.not_false] at g28)
   all_goals
    try simp only [eX, ↓reduceIte, Nat.reduceEqDiff, Int.reduceToNat]
    first
    |refine zam rfl (zaa (by decide)) rfl (fun K hK r => ?_)
     simp only [zaq, eX, ↓reduceIte, Nat.reduceEqDiff, Int.reduceToNat]
     refine hK _ _ ?_; clear hK K
    |refine zan rfl (zaa (by decide)) rfl ?_
     simp only [eX, ↓reduceIte, Nat.reduceEqDiff, Int.reduceToNat]
    first
    |refine zam rfl (zaa (by decide)) rfl (fun K hK r => ?_)
     simp only [zav, eX, ↓reduceIte, Nat.reduceEqDiff, Int.reduceToNat]
     refine zaN Try.underlying33 sz38 ew ixA ixA ?_
     try simp only [Int.toNat_natCast]
     refine hK _ _ ?_; clear hK K
    |refine zan rfl (zaa (by decide)) rfl ?_
     simp only [eX, ↓reduceIte, Nat.reduceEqDiff, Int.reduceToNat]
    first
    |refine zam rfl (zaa (by decide)) rfl (fun K hK r => ?_)
     simp only [zar, eX, ↓reduceIte, Nat.reduceEqDiff, Int.reduceToNat]
     refine zaS Try.underlying38 rfl sz38 hbw (by omega) ?_
     rw [ext_at En.len atw rfl 0 (by decide) hsw]
     rw [show (([⟨5, 1⟩, ⟨5, 3⟩] : List En).getD 0 default).c.toArray = #[.int .i64 5, .int .i64 1] from rfl]
     refine hK _ _ ?_; clear hK K
    |refine zan rfl (zaa (by decide)) rfl ?_
     simp only [eX, ↓reduceIte, Nat.reduceEqDiff, Int.reduceToNat]
    first
    |refine zam rfl (zaa (by decide)) rfl (fun K hK r => ?_)
     simp only [x_build, bp38, List.map_toArray, List.map_cons, List.map_nil, eX, ↓reduceIte, Nat.reduceEqDiff, Int.reduceToNat]
     rw [fill_one rfl clA bdA]
     rw [fill_one rfl clA bdA]
     simp only [fill_nil, zai, List.setIfInBounds_toArray, List.set_cons_zero, List.set_cons_succ]
     try simp only [eX, ↓reduceIte, Nat.reduceEqDiff, Int.reduceToNat]
     refine hK _ _ ?_; clear hK K
    |refine zan rfl (zaa (by decide)) rfl ?_
     simp only [eX, ↓reduceIte, Nat.reduceEqDiff, Int.reduceToNat]
    first
    |refine zam rfl (zaa (by decide)) rfl (fun K hK r => ?_)
     simp only [zaI, g_agg _ _ _ _ _ _ eqg38, eX, ↓reduceIte, Nat.reduceEqDiff, Int.reduceToNat]
     rw [e_eql _ _ _ _ (by simp)]
     rw [q_equal, qs38]
     try simp only [eX, ↓reduceIte, Nat.reduceEqDiff, Int.reduceToNat]
     refine hK _ _ ?_; clear hK K
    |refine zan rfl (zaa (by decide)) rfl ?_
     simp only [eX, ↓reduceIte, Nat.reduceEqDiff, Int.reduceToNat]
    refine zac (fun K hK r => ?_)
    simp only [x_pick, l_asBool, HL.ite_bool, if_true, if_false, Bool.false_eq_true, eX, ↓reduceIte, Nat.reduceEqDiff, Int.reduceToNat]
    refine hK _ _ ?_; clear hK K
    refine zag rfl ?_
    (first | refine OW_split (d := 35) rfl (fun g35 => ?_) (fun g35 => ?_) | skip)
    all_goals try (exfalso; exact cnA g35)
    all_goals (try simp only [decide_eq_true_eq, decide_eq_false_iff_not, Bool.not_eq_true, Bool.not_eq_false, Bool.and_eq_true, Bool.or_eq_true, Bool.or_eq_false_iff, Bool.not_eq_eq_eq_not, Bool.not_true, Bool.not_false] at g35)
    all_goals
     try simp only [eX, ↓reduceIte, Nat.reduceEqDiff, Int.reduceToNat]
     first
     |refine zam rfl (zaa (by decide)) rfl (fun K hK r => ?_)
      simp only [zaq, eX, ↓reduceIte, Nat.reduceEqDiff, Int.reduceToNat]
      refine hK _ _ ?_; clear hK K
     |refine zan rfl (zaa (by decide)) rfl ?_
      simp only [eX, ↓reduceIte, Nat.reduceEqDiff, Int.reduceToNat]
     first
     |refine zam rfl (zaa (by decide)) rfl (fun K hK r => ?_)
      simp only [zav, eX, ↓reduceIte, Nat.reduceEqDiff, Int.reduceToNat]
      refine zaN Try.underlying33 sz38 ew ixA ixA ?_
      try simp only [Int.toNat_natCast]
      refine hK _ _ ?_; clear hK K
     |refine zan rfl (zaa (by decide)) rfl ?_
      simp only [eX, ↓reduceIte, Nat.reduceEqDiff, Int.reduceToNat]
     first
     |refine zam rfl (zaa (by decide)) rfl (fun K hK r => ?_)
      simp only [zar, eX, ↓reduceIte, Nat.reduceEqDiff, Int.reduceToNat]
      refine zaS Try.underlying38 rfl sz38 hbw (by omega) ?_
      rw [ext_at En.len atw rfl 1 (by decide) hsw]
      rw [show (([⟨5, 1⟩, ⟨5, 3⟩] : List En).getD 1 default).c.toArray = #[.int .i64 5, .int .i64 3] from rfl]
      refine hK _ _ ?_; clear hK K
     |refine zan rfl (zaa (by decide)) rfl ?_
      simp only [eX, ↓reduceIte, Nat.reduceEqDiff, Int.reduceToNat]
     first
     |refine zam rfl (zaa (by decide)) rfl (fun K hK r => ?_)
      simp only [x_build, bp38, List.map_toArray, List.map_cons, List.map_nil, eX, ↓reduceIte, Nat.reduceEqDiff, Int.reduceToNat]
      rw [fill_one rfl clA bdA]
      rw [fill_one rfl clA bdA]
      simp only [fill_nil, zai, List.setIfInBounds_toArray, List.set_cons_zero, List.set_cons_succ]
      try simp only [eX, ↓reduceIte, Nat.reduceEqDiff, Int.reduceToNat]
      refine hK _ _ ?_; clear hK K
     |refine zan rfl (zaa (by decide)) rfl ?_
      simp only [eX, ↓reduceIte, Nat.reduceEqDiff, Int.reduceToNat]
     first
     |refine zam rfl (zaa (by decide)) rfl (fun K hK r => ?_)
      simp only [zaI, g_agg _ _ _ _ _ _ eqg38, eX, ↓reduceIte, Nat.reduceEqDiff, Int.reduceToNat]
      rw [e_eql _ _ _ _ (by simp)]
      rw [q_equal, qs38]
      try simp only [eX, ↓reduceIte, Nat.reduceEqDiff, Int.reduceToNat]
      refine hK _ _ ?_; clear hK K
     |refine zan rfl (zaa (by decide)) rfl ?_
      simp only [eX, ↓reduceIte, Nat.reduceEqDiff, Int.reduceToNat]
     refine zac (fun K hK r => ?_)
     simp only [x_pick, l_asBool, HL.ite_bool, if_true, if_false, Bool.false_eq_true, eX, ↓reduceIte, Nat.reduceEqDiff, Int.reduceToNat]
     refine hK _ _ ?_; clear hK K
     refine zag rfl ?_
     (first | refine OW_split (d := 42) rfl (fun g42 => ?_) (fun g42 => ?_) | skip)
     all_goals try (exfalso; exact cnA g42)
     all_goals (try simp only [decide_eq_true_eq, decide_eq_false_iff_not, Bool.not_eq_true, Bool.not_eq_false, Bool.and_eq_true, Bool.or_eq_true, Bool.or_eq_false_iff, Bool.not_eq_eq_eq_not, Bool.not_true, Bool.not_false] at g42)
     all_goals
      try simp only [eX, ↓reduceIte, Nat.reduceEqDiff, Int.reduceToNat]
      first
      |refine zam rfl (zaa (by decide)) rfl (fun K hK r => ?_)
       simp only [zaq, eX, ↓reduceIte, Nat.reduceEqDiff, Int.reduceToNat]
       refine hK _ _ ?_; clear hK K
      |refine zan rfl (zaa (by decide)) rfl ?_
       simp only [eX, ↓reduceIte, Nat.reduceEqDiff, Int.reduceToNat]
      first
      |refine zam rfl (zaa (by decide)) rfl (fun K hK r => ?_)
       simp only [zaQ _ bd14, List.map_toArray, List.map_cons, List.map_nil, eX, ↓reduceIte, Nat.reduceEqDiff, Int.reduceToNat]
       refine (ixRank _ _ _ hX24 2 5 (by rw [al_tab]; decide)).mono ?_
       rintro v44 H44 ⟨rfl, hl44⟩
       rw [show ((fromN (tabE (alE 3) 2) 5 : Nat) : Int) = 1 from by rw [al_tab]; rfl]
       try simp only [eX, ↓reduceIte, Nat.reduceEqDiff, Int.reduceToNat]
       refine hK _ _ ?_; clear hK K
      |refine zan rfl (zaa (by decide)) rfl ?_
       simp only [eX, ↓reduceIte, Nat.reduceEqDiff, Int.reduceToNat]
      first
      |refine zam rfl (zaa (by decide)) rfl (fun K hK r => ?_)
       simp (disch := (first | omega | decide)) only [zaI, zaM, b_eql, zau, zaw, zat, zax, zas, zay, Bool.not_true, Bool.not_false, eX, ↓reduceIte, Nat.reduceEqDiff, Int.reduceToNat]
       refine hK _ _ ?_; clear hK K
      |refine zan rfl (zaa (by decide)) rfl ?_
       simp only [eX, ↓reduceIte, Nat.reduceEqDiff, Int.reduceToNat]
      refine zac (fun K hK r => ?_)
      simp only [x_pick, l_asBool, HL.ite_bool, if_true, if_false, Bool.false_eq_true, eX, ↓reduceIte, Nat.reduceEqDiff, Int.reduceToNat]
      refine hK _ _ ?_; clear hK K
      refine zag rfl ?_
      (first | refine OW_split (d := 47) rfl (fun g47 => ?_) (fun g47 => ?_) | skip)
      all_goals try (exfalso; exact cnA g47)
      all_goals (try simp only [decide_eq_true_eq, decide_eq_false_iff_not, Bool.not_eq_true, Bool.not_eq_false, Bool.and_eq_true, Bool.or_eq_true, Bool.or_eq_false_iff, Bool.not_eq_eq_eq_not, Bool.not_true, Bool.not_false] at g47)
      all_goals
       try simp only [eX, ↓reduceIte, Nat.reduceEqDiff, Int.reduceToNat]
       first
       |refine zam rfl (zaa (by decide)) rfl (fun K hK r => ?_)
        simp only [zaq, eX, ↓reduceIte, Nat.reduceEqDiff, Int.reduceToNat]
        refine hK _ _ ?_; clear hK K
       |refine zan rfl (zaa (by decide)) rfl ?_
        simp only [eX, ↓reduceIte, Nat.reduceEqDiff, Int.reduceToNat]
       first
       |refine zam rfl (zaa (by decide)) rfl (fun K hK r => ?_)
        simp only [zaQ _ bd13, List.map_toArray, List.map_cons, List.map_nil, eX, ↓reduceIte, Nat.reduceEqDiff, Int.reduceToNat]
        refine (ixLen _ _ _ (hX24.le hl44) 2).mono ?_
        rintro v49 H49 ⟨rfl, hl49⟩
        rw [show (((tabE (alE 3) 2).length : Nat) : Int) = 3 from by rw [al_tab]; rfl]
        try simp only [eX, ↓reduceIte, Nat.reduceEqDiff, Int.reduceToNat]
        refine hK _ _ ?_; clear hK K
       |refine zan rfl (zaa (by decide)) rfl ?_
        simp only [eX, ↓reduceIte, Nat.reduceEqDiff, Int.reduceToNat]
       first
       |refine zam rfl (zaa (by decide)) rfl (fun K hK r => ?_)
        simp (disch := (first | omega | decide)) only [zaI, zaM, b_eql, zau, zaw, zat, zax, zas, zay, Bool.not_true, Bool.not_false, eX, ↓reduceIte, Nat.reduceEqDiff, Int.reduceToNat]
        refine hK _ _ ?_; clear hK K
       |refine zan rfl (zaa (by decide)) rfl ?_
        simp only [eX, ↓reduceIte, Nat.reduceEqDiff, Int.reduceToNat]
       refine zac (fun K hK r => ?_)
       simp only [x_pick, l_asBool, HL.ite_bool, if_true, if_false, Bool.false_eq_true, eX, ↓reduceIte, Nat.reduceEqDiff, Int.reduceToNat]
       refine hK _ _ ?_; clear hK K
       refine zao rfl ?_
       refine zae ?_
       try simp only [Ex.thnH, Ex.inBlockH, ↓reduceIte, Nat.reduceEqDiff]
       refine hK12 _ _ ?_; try clear hK12 K12
       refine zaV ?_
       try simp only [Ex.thnH, Ex.inBlockH, ↓reduceIte, Nat.reduceEqDiff]
       refine ⟨[_], ⟨rfl, trivial⟩, G, ?_, rfl, rfl⟩
       exact Le.trans lG6 (Le.trans hS_.old (Le.trans hl24 (Le.trans hl44 hl49)))
end Go.Proofs.Ytjhohnbdhopllaa.HL
end
section
namespace Go.Proofs.Ytjhohnbdhopllaa.HL
open Go
set_option linter.unusedSimpArgs false
set_option linter.unusedVariables false
structure WL where
  a : Option Addr
  cap : Nat
  l : List Wr
deriving Inhabited
abbrev WL.c (r : WL) : List Value := [.slice r.a r.l.length r.cap]
theorem WL.len (r : WL) : r.c.length = 1 := rfl
def longL (R : List WL) : Bool := !(decide (R.length ≤ 31) && R.all (fun r => decide (r.l.length ≤ 20)))
def ixK (R : List WL) (k : Nat) : Nat → List En := (R.take k).foldl (fun E r => tellE E r.l) (fun _ => [])
theorem ixK_succ {R : List WL} {k : Nat} (h : k < R.length) : ixK R (k + 1) = tellE (ixK R k) (R.getD k default).l := by
  unfold ixK
  rw [take_snocA h, List.foldl_append]; rfl
def OkG (E : Nat → List En) : Prop := ∀ t, GoodE (E t) ∧ OkE (E t)
theorem OkG.none : OkG (fun _ => []) := fun t => ⟨GoodE.nil, fun e he => by cases he⟩
theorem OkE.sub {l l' : List En} (h : OkE l) (hs : ∀ e ∈ l', e ∈ l) : OkE l' := fun e he => h e (hs e he)
theorem OkG.set {E : Nat → List En} (h : OkG E) (t : Nat) {l : List En} (h1 : GoodE l) (h2 : OkE l) : OkG (setL E t l) := fun u => by
  unfold setL
  split
  · exact ⟨h1, h2⟩
  · exact h u
theorem OkG.step {E : Nat → List En} (h : OkG E) {w : Wr} (hw : w.ok) : OkG (stepE E w) := by
  obtain ⟨h1, h2⟩ := h w.t.toNat
  have h3 : OkE (outK (E w.t.toNat) w.k) := h2.sub (fun e he => (mem_outK.1 he).1)
  unfold stepE
  split
  · exact h.set _ (h1.outK _) h3
  · refine h.set _ ((h1.outK _).putE (fun x hx => outK_no x hx)) (fun e he => ?_)
    rcases mem_putE.1 he with rfl | he
    · exact ⟨hw.2.2, hw.2.1⟩
    · exact h3 e he
theorem OkG.fold {L : List Wr} : ∀ {E : Nat → List En}, OkG E → (∀ w ∈ L, w.ok) → OkG (L.foldl stepE E) := by
  induction L with
  | nil => intro E h _; exact h
  | cons w r ih => intro E h hw; exact ih (h.step (hw w (by simp))) (fun x hx => hw x (by simp [hx]))
theorem OkG.tell {E : Nat → List En} (h : OkG E) {L : List Wr} (hw : ∀ w ∈ L, w.ok) : OkG (tellE E L) := by
  unfold tellE
  split
  · exact h
  · exact h.fold hw
theorem getD_memW {R : List WL} {k : Nat} (h : k < R.length) : R.getD k default ∈ R := by
  rw [List.getD_eq_getElem?_getD, List.getElem?_eq_getElem h]; exact List.getElem_mem h
theorem ixK_ok {R : List WL} (hR : ∀ r ∈ R, ∀ w ∈ r.l, w.ok) : ∀ k, k ≤ R.length → OkG (ixK R k)
  | 0, _ => by unfold ixK; exact OkG.none
  | k + 1, h => by
    rw [ixK_succ (by omega)]
    exact (ixK_ok hR k (by omega)).tell (hR _ (getD_memW (by omega)))
theorem ixK_sz {R : List WL} (hR : ∀ r ∈ R, r.l.length ≤ 20) : ∀ k, k ≤ R.length → SzE (ixK R k) (20 * k)
  | 0, _ => by unfold ixK; exact fun t _ => by simp
  | k + 1, h => by
    rw [ixK_succ (by omega)]
    have := hR _ (getD_memW (k := k) (by omega))
    exact ((ixK_sz hR k (by omega)).tell _).up (by omega)
theorem OkG.tab {E : Nat → List En} (h : OkG E) (t : Int) : GoodE (tabE E t) ∧ OkE (tabE E t) := by
  unfold tabE
  split
  · exact h _
  · exact ⟨GoodE.nil, fun e he => by cases he⟩
theorem SzE.tab {E : Nat → List En} {n : Nat} (h : SzE E n) (t : Int) : (tabE E t).length ≤ n := by
  unfold tabE
  split
  · exact h _ (by omega)
  · simp
def insG (e : En) : List En → List En
  | [] => [e]
  | x :: r => if glE e x then e :: x :: r else x :: insG e r
def sortG : List En → List En
  | [] => []
  | x :: r => insG x (sortG r)
def killE (E : Nat → List En) (t : Int) (k : Nat) : Nat → List En := if 0 ≤ t ∧ t < 4 then setL E t.toNat ((tabE E t).drop k) else E
theorem all_getD {R : List WL} {p : WL → Prop} (h : ∀ k, k < R.length → p (R.getD k default)) : ∀ r ∈ R, p r := fun r hr => by
  obtain ⟨i, hi, he⟩ := List.getElem_of_mem hr
  have := h i hi
  rw [List.getD_eq_getElem?_getD, List.getElem?_eq_getElem hi] at this
  rw [← he]; exact this
end Go.Proofs.Ytjhohnbdhopllaa.HL
end
section
namespace Go.Proofs.Ytjhohnbdhopllaa.HL
open Go Go.Proofs
set_option linter.unusedSimpArgs false
set_option linter.unusedVariables false
attribute [local irreducible] Lt Lq CW OW TW CallH
set_option maxRecDepth 100000 in
set_option maxHeartbeats 1000000 in
theorem long_ok (H : Hp) (a : Option Addr) (cap : Nat) (R : List WL) (hv : Holds H 1 (.slice a R.length cap) R.length (R.flatMap WL.c)) : CallH Try.prog 8 #[.slice a R.length cap] H (fun v H' => ∃ t, v = .bool t ∧ (t = false → R.length ≤ 31 ∧ ∀ k, k < R.length → (R.getD k default).l.length ≤ 20) ∧ H' = H) := by
 refine zaB (l := [_]) (rl := [.tmp 2]) (n := 20) Try.func8 rfl rfl rfl rfl rfl ?_
 simp only [envOf, Nat.reduceAdd]
 refine zad (fun K1 hK1 => ?_)
 refine zab ?_
 refine zao rfl ?_
 refine zae ?_
 try simp only [Ex.thnH, Ex.inBlockH, ↓reduceIte, Nat.reduceEqDiff]
 refine hK1 _ _ ?_; try clear hK1 K1
 refine zad (fun K2 hK2 => ?_)
 refine zad (fun K3 hK3 => ?_)
 refine zab ?_
 refine zag rfl ?_
 refine zac (fun K hK r => ?_)
 simp only [zaC, l_len, List.map_toArray, List.map_cons, List.map_nil, zaF _ _ Try.underlying22, eX, ↓reduceIte, Nat.reduceEqDiff, Int.reduceToNat]
 refine hK _ _ ?_; clear hK K
 refine zag rfl ?_
 refine zae ?_
 try simp only [Ex.thnH, Ex.inBlockH, ↓reduceIte, Nat.reduceEqDiff]
 refine hK3 _ _ ?_; try clear hK3 K3
 refine zaP ?_
 refine CW_loop (fun m e H_ => ∃ k : Nat, k ≤ R.length ∧ k ≤ 31 ∧ m = 31 - k ∧ (∀ j, j < k → (R.getD j default).l.length ≤ 20) ∧ H_ = H ∧ Env.has [(5, .slice a R.length cap), (6, .int .i64 R.length), (7, .int .i64 k)] e) (31) ?_ ?_
 ·skip
  exact ⟨0, by omega, by omega, by omega, (fun j hj => absurd hj (by omega)), rfl, rfl, rfl, rfl, trivial⟩
 intro m_ e_ H_ hI_
 obtain ⟨k, hk, hk31, rfl, hno, hH_, he⟩ := hI_
 have hH_ := hH_.symm; subst hH_
 refine CW_env he.sub ?_; clear he e_
 refine zad (fun K4 hK4 => ?_)
 refine zab ?_
 refine zac (fun K hK r => ?_)
 simp (disch := (first | omega | decide)) only [zaI, zaM, b_lss, zau, zaw, zat, zax, zas, zay, Bool.not_true, Bool.not_false, eX, ↓reduceIte, Nat.reduceEqDiff, Int.reduceToNat]
 refine hK _ _ ?_; clear hK K
 refine zae ?_
 try simp only [Ex.thnH, Ex.inBlockH, ↓reduceIte, Nat.reduceEqDiff]
 refine hK4 _ _ ?_; try clear hK4 K4
 refine zad (fun K5 hK5 => ?_)
 refine zaH (fun r => rfl) (fun c8 => ?_) (fun c8 => ?_)
 ·first
  |(exfalso; exact cnA c8; done)
  |skip
   (try simp only [decide_eq_true_eq, decide_eq_false_iff_not, Bool.not_eq_true, Bool.not_eq_false, Bool.and_eq_true, Bool.or_eq_true, Bool.or_eq_false_iff, Bool.not_eq_eq_eq_not, Bool.not_true, Bool.not_false] at c8)
   obtain ⟨bw, ow, cw, Tw, Fw, ew, hbw, hsw, atw⟩ := hv.at (by omega)
   refine zaL ?_
   try simp only [Ex.thnH, Ex.inBlockH, ↓reduceIte, Nat.reduceEqDiff]
   refine hK5 _ _ ?_; try clear hK5 K5
   refine zad (fun K6 hK6 => ?_)
   refine zaP ?_
   refine zad (fun K7 hK7 => ?_)
   refine zab ?_
   refine zag rfl ?_
   refine zac (fun K hK r => ?_)
   simp only [zav, eX, ↓reduceIte, Nat.reduceEqDiff, Int.reduceToNat]
   refine zaN Try.underlying22 sz29 ew ixA ixA ?_
   try simp only [Int.toNat_natCast]
   refine hK _ _ ?_; clear hK K
   refine zac (fun K hK r => ?_)
   simp only [zar, eX, ↓reduceIte, Nat.reduceEqDiff, Int.reduceToNat]
   refine zak Try.underlying29 rfl hbw (v := .slice (R.getD k default).a (R.getD k default).l.length (R.getD k default).cap) (by first | exact cell_at WL.len atw rfl k (by omega) 0 (by decide) | (rw [cell_at WL.len atw rfl k (by omega) 0 (by decide)]; rfl)) ?_
   refine hK _ _ ?_; clear hK K
   refine zao rfl ?_
   refine zao rfl ?_
   refine zae ?_
   try simp only [Ex.thnH, Ex.inBlockH, ↓reduceIte, Nat.reduceEqDiff]
   refine hK7 _ _ ?_; try clear hK7 K7
   refine zad (fun K8 hK8 => ?_)
   refine zab ?_
   refine zag rfl ?_
   refine zac (fun K hK r => ?_)
   simp (disch := (first | omega | decide)) only [zaI, zaM, b_gtr, zau, zaw, zat, zax, zas, zay, Bool.not_true, Bool.not_false, eX, ↓reduceIte, Nat.reduceEqDiff, Int.reduceToNat]
   refine hK _ _ ?_; clear hK K
   refine zag rfl ?_
   (first | refine OW_split (d := 14) rfl (fun g14 => ?_) (fun g14 => ?_) | skip)
   all_goals try (exfalso; exact cnA g14)
   all_goals (try simp only [decide_eq_true_eq, decide_eq_false_iff_not, Bool.not_eq_true, Bool.not_eq_false, Bool.and_eq_true, Bool.or_eq_true, Bool.or_eq_false_iff, Bool.not_eq_eq_eq_not, Bool.not_true, Bool.not_false] at g14)
   all_goals
    try simp only [eX, ↓reduceIte, Nat.reduceEqDiff, Int.reduceToNat]
    first
    |refine zam rfl (zaa (by decide)) rfl (fun K hK r => ?_)
     simp only [zaq, eX, ↓reduceIte, Nat.reduceEqDiff, Int.reduceToNat]
     refine hK _ _ ?_; clear hK K
    |refine zan rfl (zaa (by decide)) rfl ?_
     simp only [eX, ↓reduceIte, Nat.reduceEqDiff, Int.reduceToNat]
    first
    |refine zam rfl (zaa (by decide)) rfl (fun K hK r => ?_)
     simp only [zaC, l_len, List.map_toArray, List.map_cons, List.map_nil, zaF _ _ Try.underlying29, eX, ↓reduceIte, Nat.reduceEqDiff, Int.reduceToNat]
     refine hK _ _ ?_; clear hK K
    |refine zan rfl (zaa (by decide)) rfl ?_
     simp only [eX, ↓reduceIte, Nat.reduceEqDiff, Int.reduceToNat]
    first
    |refine zam rfl (zaa (by decide)) rfl (fun K hK r => ?_)
     simp (disch := (first | omega | decide)) only [zaI, zaM, b_gtr, zau, zaw, zat, zax, zas, zay, Bool.not_true, Bool.not_false, eX, ↓reduceIte, Nat.reduceEqDiff, Int.reduceToNat]
     refine hK _ _ ?_; clear hK K
    |refine zan rfl (zaa (by decide)) rfl ?_
     simp only [eX, ↓reduceIte, Nat.reduceEqDiff, Int.reduceToNat]
    refine zac (fun K hK r => ?_)
    simp only [x_pick, l_asBool, HL.ite_bool, if_true, if_false, Bool.false_eq_true, eX, ↓reduceIte, Nat.reduceEqDiff, Int.reduceToNat]
    refine hK _ _ ?_; clear hK K
    refine zae ?_
    try simp only [Ex.thnH, Ex.inBlockH, ↓reduceIte, Nat.reduceEqDiff]
    refine hK8 _ _ ?_; try clear hK8 K8
    refine zaH (fun r => rfl) (fun c18 => ?_) (fun c18 => ?_)
    ·first
     |(exfalso; exact cnA c18; done)
     |skip
      skip
      refine zad (fun K9 hK9 => ?_)
      refine zab ?_
      refine zao rfl ?_
      refine zae ?_
      try simp only [Ex.thnH, Ex.inBlockH, ↓reduceIte, Nat.reduceEqDiff]
      refine hK9 _ _ ?_; try clear hK9 K9
      refine zaV ?_
      try simp only [Ex.thnH, Ex.inBlockH, ↓reduceIte, Nat.reduceEqDiff]
      exact ⟨[_], ⟨rfl, trivial⟩, H, lhA, true, rfl, (fun h => by cases h), rfl⟩
    ·first
     |(exfalso; exact cnA c18; done)
     |skip
      have hlast : (R.getD k default).l.length ≤ 20 ∧ k ≤ 30 := by first | omega | (simp only [decide_eq_false_iff_not] at *; omega) | (cases c18; done)
      have hk41 := hlast.2
      refine zaL ?_
      try simp only [Ex.thnH, Ex.inBlockH, ↓reduceIte, Nat.reduceEqDiff]
      refine hK6 _ _ ?_; try clear hK6 K6
      refine zab ?_
      refine zac (fun K hK r => ?_)
      simp (disch := (first | omega | decide)) only [zaI, zaM, b_add, zaG, zaK, zaJ, zaR, eX, ↓reduceIte, Nat.reduceEqDiff, Int.reduceToNat]
      refine hK _ _ ?_; clear hK K
      refine zag rfl ?_
      refine zae ?_
      try simp only [Ex.thnH, Ex.inBlockH, ↓reduceIte, Nat.reduceEqDiff]
      refine ⟨31 - (k + 1), by omega, k + 1, by omega, by omega, rfl, (fun j hj => ?_), rfA, rfl, rfl, rfl, trivial⟩
      by_cases e : j = k
      ·subst e; exact hlast.1
      ·exact hno j (by omega)
 ·first
  |(exfalso; exact cnA c8; done)
  |skip
   (try simp only [decide_eq_true_eq, decide_eq_false_iff_not, Bool.not_eq_true, Bool.not_eq_false, Bool.and_eq_true, Bool.or_eq_true, Bool.or_eq_false_iff, Bool.not_eq_eq_eq_not, Bool.not_true, Bool.not_false] at c8)
   have hkn : k = R.length := by omega
   refine CW_exit ?_
   try simp only [Ex.thnH, Ex.inBlockH, ↓reduceIte, Nat.reduceEqDiff]
   refine hK2 _ _ ?_; try clear hK2 K2
   refine zad (fun K10 hK10 => ?_)
   refine zab ?_
   refine zao rfl ?_
   refine zae ?_
   try simp only [Ex.thnH, Ex.inBlockH, ↓reduceIte, Nat.reduceEqDiff]
   refine hK10 _ _ ?_; try clear hK10 K10
   refine zaV ?_
   try simp only [Ex.thnH, Ex.inBlockH, ↓reduceIte, Nat.reduceEqDiff]
   subst hkn
   exact ⟨[_], ⟨rfl, trivial⟩, H, lhA, false, rfl, (fun _ => ⟨hk31, hno⟩), rfl⟩
end Go.Proofs.Ytjhohnbdhopllaa.HL
end
section
namespace Go.Proofs.Ytjhohnbdhopllaa.HL
open Go
set_option linter.unusedSimpArgs false
set_option linter.unusedVariables false
def keyW (a b : Wr) : Bool := decide (a.t = b.t) && decide (a.k = b.k)
def stepM (M : List Wr) (w : Wr) : List Wr := M.filter (fun x => !keyW x w) ++ (if w.dead then [] else [w])
def refM (M L : List Wr) : List Wr := if L.any farW then M else L.foldl stepM M
theorem stepM_len (M : List Wr) (w : Wr) : (stepM M w).length ≤ M.length + 1 := by
  unfold stepM
  rw [List.length_append]
  have := List.length_filter_le (fun x => !keyW x w) M
  split
  · simp; omega
  · simp; omega
theorem foldM_len : ∀ (L M : List Wr), (L.foldl stepM M).length ≤ M.length + L.length
  | [], M => by simp
  | w :: r, M => by
    have h1 := foldM_len r (stepM M w)
    have h2 := stepM_len M w
    rw [List.foldl_cons, List.length_cons]; omega
theorem refM_len (M L : List Wr) : (refM M L).length ≤ M.length + L.length := by
  unfold refM
  split
  · omega
  · exact foldM_len L M
structure Lnk (M : List Wr) (E : Nat → List En) : Prop where
  one : M.Pairwise (fun a b => keyW a b = false)
  far : ∀ w ∈ M, farW w = false
  live : ∀ w ∈ M, w.dead = false
  mem : ∀ t, t < 4 → ∀ e : En, e ∈ E t ↔ (⟨(t : Int), e.k, e.v, false⟩ : Wr) ∈ M
theorem Lnk.nil : Lnk [] (fun _ => []) := ⟨List.Pairwise.nil, (fun w h => by cases h), (fun w h => by cases h), fun t _ e => by simp⟩
theorem mem_stepM {M : List Wr} {w x : Wr} : x ∈ stepM M w ↔ (x ∈ M ∧ keyW x w = false) ∨ (w.dead = false ∧ x = w) := by
  unfold stepM
  rw [List.mem_append, List.mem_filter]
  simp only [Bool.not_eq_true']
  cases hd : w.dead <;> simp
theorem Lnk.step {M : List Wr} {E : Nat → List En} (h : Lnk M E) {w : Wr} (hw : farW w = false) : Lnk (stepM M w) (stepE E w) := by
  have hwt : 0 ≤ w.t ∧ w.t < 4 := by simpa [farW] using hw
  refine ⟨?_, fun x hx => ?_, fun x hx => ?_, fun t ht e => ?_⟩
  · unfold stepM
    refine List.pairwise_append.2 ⟨h.one.sublist List.filter_sublist, ?_, fun a ha b hb => ?_⟩
    · split
      · exact List.Pairwise.nil
      · exact List.pairwise_singleton _ _
    · have h1 := (List.mem_filter.1 ha).2
      split at hb
      · cases hb
      · rw [List.mem_singleton] at hb
        subst hb
        simpa using h1
  · rcases mem_stepM.1 hx with ⟨h1, _⟩ | ⟨_, rfl⟩
    · exact h.far _ h1
    · exact hw
  · rcases mem_stepM.1 hx with ⟨h1, _⟩ | ⟨h1, rfl⟩
    · exact h.live _ h1
    · exact h1
  · rw [mem_stepM]
    have hk : keyW (⟨(t : Int), e.k, e.v, false⟩ : Wr) w = false ↔ ¬ (t = w.t.toNat ∧ e.k = w.k) := by
      unfold keyW
      simp only [Bool.and_eq_false_iff, decide_eq_false_iff_not]
      constructor
      · rintro (h1 | h1) ⟨h2, h3⟩
        · exact h1 (by omega)
        · exact h1 h3
      · intro h1
        by_cases h2 : (t : Int) = w.t
        · right; intro h3; exact h1 ⟨by omega, h3⟩
        · left; exact h2
    rw [hk, ← h.mem t ht e]
    unfold stepE
    cases hd : w.dead with
    | true =>
      simp only [if_true]
      unfold setL
      by_cases ht2 : t = w.t.toNat
      · rw [if_pos ht2, mem_outK, ← ht2]
        constructor
        · rintro ⟨h1, h2⟩; exact .inl ⟨h1, fun h3 => h2 h3.2⟩
        · rintro (⟨h1, h2⟩ | ⟨h1, _⟩)
          · exact ⟨h1, fun h3 => h2 ⟨rfl, h3⟩⟩
          · cases h1
      · rw [if_neg ht2]
        constructor
        · intro h1; exact .inl ⟨h1, fun h3 => ht2 h3.1⟩
        · rintro (⟨h1, _⟩ | ⟨h1, _⟩)
          · exact h1
          · cases h1
    | false =>
      simp only [Bool.false_eq_true, if_false]
      unfold setL
      by_cases ht2 : t = w.t.toNat
      · rw [if_pos ht2, mem_putE, mem_outK, ← ht2]
        constructor
        · rintro (h1 | ⟨h1, h2⟩)
          · right
            refine ⟨trivial, ?_⟩
            subst h1
            have : (t : Int) = w.t := by omega
            rw [this, ← hd]
          · exact .inl ⟨h1, fun h3 => h2 h3.2⟩
        · rintro (⟨h1, h2⟩ | ⟨_, h1⟩)
          · exact .inr ⟨h1, fun h3 => h2 ⟨rfl, h3⟩⟩
          · left; rw [← h1]
      · rw [if_neg ht2]
        constructor
        · intro h1; exact .inl ⟨h1, fun h3 => ht2 h3.1⟩
        · rintro (⟨h1, _⟩ | ⟨_, h1⟩)
          · exact h1
          · exfalso; apply ht2; rw [← h1]; simp
theorem Lnk.fold {L : List Wr} : ∀ {M : List Wr} {E : Nat → List En}, Lnk M E → L.any farW = false → Lnk (L.foldl stepM M) (L.foldl stepE E) := by
  induction L with
  | nil => intro M E h _; exact h
  | cons w r ih =>
    intro M E h hf
    rw [List.any_cons, Bool.or_eq_false_iff] at hf
    exact ih (h.step hf.1) hf.2
theorem Lnk.tell {M : List Wr} {E : Nat → List En} (h : Lnk M E) (L : List Wr) : Lnk (refM M L) (tellE E L) := by
  unfold refM tellE
  cases hf : L.any farW with
  | true => exact h
  | false => exact h.fold hf
def inW (t lo hi : Int) (w : Wr) : Bool := decide (w.t = t) && (decide (lo ≤ w.v) && decide (w.v ≤ hi))
def enW (w : Wr) : En := ⟨w.v, w.k⟩
def colM (M : List Wr) (t lo hi : Int) : List En := (M.filter (inW t lo hi)).map enW
theorem colM_snoc (M : List Wr) (w : Wr) (t lo hi : Int) : colM (M ++ [w]) t lo hi = colM M t lo hi ++ (if inW t lo hi w then [enW w] else []) := by
  unfold colM
  rw [List.filter_append, List.map_append]
  congr 1
  cases hw : inW t lo hi w
  · rw [List.filter_cons_of_neg (by rw [hw]; simp)]; rfl
  · rw [List.filter_cons_of_pos hw]; rfl
theorem colM_len (M : List Wr) (t lo hi : Int) : (colM M t lo hi).length ≤ M.length := by
  unfold colM; rw [List.length_map]; exact List.length_filter_le _ _
theorem Lnk.nodup {M : List Wr} {E : Nat → List En} (h : Lnk M E) (t lo hi : Int) : (colM M t lo hi).Nodup := by
  unfold colM
  refine List.pairwise_map.2 ?_
  have h1 : (M.filter (inW t lo hi)).Pairwise (fun a b => keyW a b = false) := h.one.sublist List.filter_sublist
  refine List.Pairwise.imp_of_mem (fun {a b} ha hb hab he => ?_) h1
  have h2 := (List.mem_filter.1 ha).2
  have h3 := (List.mem_filter.1 hb).2
  unfold inW at h2 h3
  simp only [Bool.and_eq_true, decide_eq_true_eq] at h2 h3
  unfold keyW at hab
  unfold enW at he
  injection he with e1 e2
  rw [h2.1, h3.1, e2] at hab
  simp at hab
theorem Lnk.col {M : List Wr} {E : Nat → List En} (h : Lnk M E) {t lo hi : Int} {e : En} : e ∈ colM M t lo hi ↔ e ∈ betE (tabE E t) lo hi := by
  unfold colM betE
  rw [List.mem_map, List.mem_filter]
  simp only [Bool.and_eq_true, decide_eq_true_eq]
  constructor
  · rintro ⟨w, hw, rfl⟩
    obtain ⟨h1, h2⟩ := List.mem_filter.1 hw
    unfold inW at h2
    simp only [Bool.and_eq_true, decide_eq_true_eq] at h2
    have hf := h.far _ h1
    have hwt : 0 ≤ w.t ∧ w.t < 4 := by simpa [farW] using hf
    have hd := h.live _ h1
    refine ⟨?_, h2.2⟩
    unfold tabE
    rw [← h2.1, if_pos hwt]
    refine (h.mem w.t.toNat (by omega) (enW w)).2 ?_
    have e1 : (⟨((w.t.toNat : Nat) : Int), (enW w).k, (enW w).v, false⟩ : Wr) = w := by
      unfold enW
      cases w with
      | mk t k v d =>
        simp only at hd hwt
        subst hd
        simp only [Wr.mk.injEq, and_true]
        omega
    rw [e1]; exact h1
  · rintro ⟨h1, h2⟩
    unfold tabE at h1
    split at h1
    · rename_i ht
      have h3 := (h.mem t.toNat (by omega) e).1 h1
      refine ⟨_, List.mem_filter.2 ⟨h3, ?_⟩, rfl⟩
      unfold inW
      simp only [Bool.and_eq_true, decide_eq_true_eq]
      exact ⟨by omega, h2⟩
    · cases h1
def ltD (down : Bool) (a b : En) : Prop := if down = true then glE a b else a.lt b
instance (d : Bool) (a b : En) : Decidable (ltD d a b) := by unfold ltD; exact inferInstance
theorem ltD_trans {d : Bool} {a b c : En} (h : ltD d a b) (k : ltD d b c) : ltD d a c := by
  unfold ltD at *
  cases d with
  | true => simp only [if_true] at *; exact glE_trans h k
  | false => simp only [Bool.false_eq_true, if_false] at *; exact En.lt_trans h k
theorem ltD_tri (d : Bool) (a b : En) : ltD d a b ∨ a = b ∨ ltD d b a := by
  unfold ltD
  split
  · exact glE_tri a b
  · exact En.tri a b
theorem pair_ins {d : Bool} {S : List En} {e : En} {j : Nat} (hS : S.Pairwise (ltD d)) (hj : j ≤ S.length) (he : e ∉ S) (hB : ∀ b ∈ S.drop j, ltD d e b) (hA : 0 < j → ¬ ltD d e (at_ S (j - 1))) : (S.take j ++ e :: S.drop j).Pairwise (ltD d) := by
  have hAA : ∀ a ∈ S.take j, ltD d a e := fun a ha => by
    have hj0 : 0 < j := by
      rcases Nat.eq_zero_or_pos j with h | h
      · subst h; simp at ha
      · exact h
    have hl : ltD d (at_ S (j - 1)) e := by
      rcases ltD_tri d (at_ S (j - 1)) e with h | h | h
      · exact h
      · exact absurd (by rw [← h]; exact at_mem (by omega)) he
      · exact absurd h (hA hj0)
    obtain ⟨i, hi, rfl⟩ := List.getElem_of_mem ha
    rw [List.length_take] at hi
    rw [List.getElem_take]
    rcases Nat.lt_or_ge i (j - 1) with h | h
    · refine ltD_trans ?_ hl
      rw [at_get (by omega)]
      exact List.pairwise_iff_getElem.1 hS i (j - 1) (by omega) (by omega) h
    · have e1 : i = j - 1 := by omega
      subst e1
      rw [at_get (by omega)] at hl
      exact hl
  refine List.pairwise_append.2 ⟨hS.sublist (List.take_sublist _ _), List.pairwise_cons.2 ⟨hB, hS.sublist (List.drop_sublist _ _)⟩, fun a ha b hb => ?_⟩
  rcases List.mem_cons.1 hb with rfl | hb
  · exact hAA a ha
  · exact ltD_trans (hAA a ha) (hB b hb)
theorem swap_ins {S : List En} {e : En} {j : Nat} (h0 : 0 < j) (hj : j ≤ S.length) : ((S.take j ++ e :: S.drop j).set j (at_ (S.take j ++ e :: S.drop j) (j - 1))).set (j - 1) (at_ (S.take j ++ e :: S.drop j) j) = S.take (j - 1) ++ e :: S.drop (j - 1) := by
  have hl : (S.take j).length = j := by rw [List.length_take]; omega
  have e1 : at_ (S.take j ++ e :: S.drop j) j = e := by
    unfold at_
    rw [List.getD_eq_getElem?_getD, List.getElem?_append_right (by omega), hl]; simp
  have e2 : at_ (S.take j ++ e :: S.drop j) (j - 1) = at_ S (j - 1) := by
    unfold at_
    rw [List.getD_eq_getElem?_getD, List.getElem?_append_left (by omega), List.getElem?_take_of_lt (by omega), List.getD_eq_getElem?_getD]
  rw [e1, e2]
  apply List.ext_getElem?
  intro i
  simp only [List.getElem?_set, List.length_set, List.getElem?_append, List.length_append, List.length_take, List.length_cons, List.length_drop, List.getElem?_take, List.getElem?_cons, List.getElem?_drop]
  have m1 : min j S.length = j := by omega
  have m2 : min (j - 1) S.length = j - 1 := by omega
  rw [m1, m2]
  rcases Nat.lt_trichotomy i (j - 1) with h | h | h
  · have a1 : ¬ j - 1 = i := by omega
    have a2 : ¬ j = i := by omega
    have a3 : i < j := by omega
    simp [a1, a2, a3, h]
  · subst h
    have a2 : ¬ j = j - 1 := by omega
    simp
    omega
  · by_cases hij : j = i
    · subst hij
      have a1 : ¬ j - 1 = j := by omega
      have a2 : ¬ j < j - 1 := by omega
      have a3 : j - (j - 1) = 1 := by omega
      have a4 : j < j + (S.length - j + 1) := by omega
      simp only [a1, a2, a3, a4, if_false, if_true]
      rw [at_get (by omega), List.getElem?_eq_getElem (by omega)]
      simp
    · have a1 : ¬ j - 1 = i := by omega
      have a2 : ¬ i < j - 1 := by omega
      have a3 : ¬ i < j := by omega
      have a4 : ¬ i - j = 0 := by omega
      have a5 : ¬ i - (j - 1) = 0 := by omega
      simp only [a1, hij, a2, a3, a4, a5, if_false]
      congr 1; omega
theorem ins_perm {S : List En} {e : En} (j : Nat) : (S.take j ++ e :: S.drop j).Perm (e :: S) := by
  refine List.perm_middle.trans ?_
  rw [List.take_append_drop]
theorem Lnk.up {M : List Wr} {E : Nat → List En} (h : Lnk M E) (hg : OkG E) {t lo hi : Int} {S : List En} (hp : S.Perm (colM M t lo hi)) (hS : S.Pairwise (ltD false)) : S = betE (tabE E t) lo hi := by
  refine rise_ext (hS.imp (fun {a b} hab => ?_)) ((hg.tab t).1.rise.sublist List.filter_sublist) (fun x => ?_)
  · unfold ltD at hab
    rw [if_neg (by simp)] at hab
    exact hab
  · rw [hp.mem_iff]; exact h.col
theorem Lnk.down {M : List Wr} {E : Nat → List En} (h : Lnk M E) (hg : OkG E) {t : Int} {S : List En} (hp : S.Perm (colM M t (-9223372036854775808) 9223372036854775807)) (hS : S.Pairwise (ltD true)) : S.Perm (tabE E t) ∧ S.Pairwise glE := by
  refine ⟨hp.trans ?_, hS.imp (fun {a b} hab => ?_)⟩
  · refine (List.perm_ext_iff_of_nodup (h.nodup _ _ _) ?_).2 (fun x => ?_)
    · refine (hg.tab t).1.rise.imp (fun {a b} hab e => ?_)
      subst e
      exact En.lt_irrefl _ hab
    · rw [h.col, betE_all (hg.tab t).2]
  · unfold ltD at hab
    rw [if_pos rfl] at hab
    exact hab
theorem ext_key {c : Array Value} {o n : Nat} {L : List Wr} (h : ∀ j, j < n * 4 → c[o + j]? = (wrs L)[j]?) (hn : n = L.length) (i : Nat) (hi : i < L.length) (hs : o + n * 4 ≤ c.size) : c.extract (o + i * 4) (o + i * 4 + 2) = #[.int .i64 (L.getD i default).t, .int .i64 (L.getD i default).k] := by
  have h0 := cell_at Wr.len h hn i hi 0 (by decide)
  have h1 := cell_at Wr.len h hn i hi 1 (by decide)
  have hm : i * 4 + 4 ≤ n * 4 := by omega
  apply Array.ext'
  apply List.ext_getElem?
  intro j
  simp only [Array.toList_extract, List.extract_eq_take_drop]
  match j with
  | 0 => rw [List.getElem?_take_of_lt (by omega), List.getElem?_drop, Array.getElem?_toList, h0]; rfl
  | 1 => rw [List.getElem?_take_of_lt (by omega), List.getElem?_drop, Array.getElem?_toList, h1]; rfl
  | j + 2 => rw [List.getElem?_eq_none (by simp; omega), List.getElem?_eq_none (by simp)]
end Go.Proofs.Ytjhohnbdhopllaa.HL
end
section
namespace Go.Proofs.Ytjhohnbdhopllaa.HL
open Go Go.Proofs
set_option linter.unusedSimpArgs false
set_option linter.unusedVariables false
attribute [local irreducible] Lt Lq CW OW TW CallH
set_option maxRecDepth 100000 in
set_option maxHeartbeats 1000000 in
theorem rless_ok (G : Hp) (a b : En) (d : Bool) : CallH Try.prog 40 #[.agg a.c.toArray, .agg b.c.toArray, .bool d] G (fun v G' => v = .bool (decide (ltD d a b)) ∧ G' = G) := by
 refine zaB (l := [_, _, _]) (rl := [.tmp 6]) (n := 24) Try.func40 rfl rfl rfl rfl rfl ?_
 simp only [envOf, Nat.reduceAdd]
 refine zad (fun K1 hK1 => ?_)
 refine zab ?_
 refine zac (fun K hK r => ?_)
 simp only [x_box, Value.cells, eX, ↓reduceIte, Nat.reduceEqDiff, Int.reduceToNat]
 intro b3 hb3
 have f3_G : G b3 = none := zaj lhA hb3
 try simp only [eX, ↓reduceIte, Nat.reduceEqDiff, Int.reduceToNat]
 refine hK _ _ ?_; clear hK K
 refine zac (fun K hK r => ?_)
 simp only [x_box, Value.cells, eX, ↓reduceIte, Nat.reduceEqDiff, Int.reduceToNat]
 intro b4 hb4
 try have n4_b3 : b3 ≠ b4 := zaz hbA hb4
 have f4_G : G b4 = none := zaj lhA hb4
 try simp only [eX, ↓reduceIte, Nat.reduceEqDiff, Int.reduceToNat]
 refine hK _ _ ?_; clear hK K
 refine zao rfl ?_
 refine zae ?_
 try simp only [Ex.thnH, Ex.inBlockH, ↓reduceIte, Nat.reduceEqDiff]
 refine hK1 _ _ ?_; try clear hK1 K1
 refine zad (fun K2 hK2 => ?_)
 refine zad (fun K3 hK3 => ?_)
 refine zab ?_
 refine zac (fun K hK r => ?_)
 simp only [zah, fa56_0, zaA, Nat.reduceAdd, Nat.zero_add, eX, ↓reduceIte, Nat.reduceEqDiff, Int.reduceToNat]
 refine hK _ _ ?_; clear hK K
 refine zac (fun K hK r => ?_)
 simp only [zar, eX, ↓reduceIte, Nat.reduceEqDiff, Int.reduceToNat]
 refine zak Try.underlying3 rfl hbA ldA ?_
 try simp only [eX, ↓reduceIte, Nat.reduceEqDiff, Int.reduceToNat]
 refine hK _ _ ?_; clear hK K
 refine zac (fun K hK r => ?_)
 simp only [zah, fa56_0, zaA, Nat.reduceAdd, Nat.zero_add, eX, ↓reduceIte, Nat.reduceEqDiff, Int.reduceToNat]
 refine hK _ _ ?_; clear hK K
 refine zac (fun K hK r => ?_)
 simp only [zar, eX, ↓reduceIte, Nat.reduceEqDiff, Int.reduceToNat]
 refine zak Try.underlying3 rfl hbA ldA ?_
 try simp only [eX, ↓reduceIte, Nat.reduceEqDiff, Int.reduceToNat]
 refine hK _ _ ?_; clear hK K
 refine zac (fun K hK r => ?_)
 simp (disch := (first | omega | decide)) only [zaI, zaM, b_neq, zau, zaw, zat, zax, zas, zay, Bool.not_true, Bool.not_false, eX, ↓reduceIte, Nat.reduceEqDiff, Int.reduceToNat]
 refine hK _ _ ?_; clear hK K
 refine zae ?_
 try simp only [Ex.thnH, Ex.inBlockH, ↓reduceIte, Nat.reduceEqDiff]
 refine hK3 _ _ ?_; try clear hK3 K3
 refine zaH (fun r => rfl) (fun c11 => ?_) (fun c11 => ?_)
 ·first
  |(exfalso; exact cnA c11; done)
  |skip
   (try simp only [decide_eq_true_eq, decide_eq_false_iff_not, Bool.not_eq_true, Bool.not_eq_false, Bool.and_eq_true, Bool.or_eq_true, Bool.or_eq_false_iff, Bool.not_eq_eq_eq_not, Bool.not_true, Bool.not_false] at c11)
   refine zad (fun K4 hK4 => ?_)
   refine zab ?_
   refine zac (fun K hK r => ?_)
   simp only [zah, fa56_0, zaA, Nat.reduceAdd, Nat.zero_add, eX, ↓reduceIte, Nat.reduceEqDiff, Int.reduceToNat]
   refine hK _ _ ?_; clear hK K
   refine zac (fun K hK r => ?_)
   simp only [zar, eX, ↓reduceIte, Nat.reduceEqDiff, Int.reduceToNat]
   refine zak Try.underlying3 rfl hbA ldA ?_
   try simp only [eX, ↓reduceIte, Nat.reduceEqDiff, Int.reduceToNat]
   refine hK _ _ ?_; clear hK K
   refine zac (fun K hK r => ?_)
   simp only [zah, fa56_0, zaA, Nat.reduceAdd, Nat.zero_add, eX, ↓reduceIte, Nat.reduceEqDiff, Int.reduceToNat]
   refine hK _ _ ?_; clear hK K
   refine zac (fun K hK r => ?_)
   simp only [zar, eX, ↓reduceIte, Nat.reduceEqDiff, Int.reduceToNat]
   refine zak Try.underlying3 rfl hbA ldA ?_
   try simp only [eX, ↓reduceIte, Nat.reduceEqDiff, Int.reduceToNat]
   refine hK _ _ ?_; clear hK K
   refine zac (fun K hK r => ?_)
   simp (disch := (first | omega | decide)) only [zaI, zaM, b_lss, zau, zaw, zat, zax, zas, zay, Bool.not_true, Bool.not_false, eX, ↓reduceIte, Nat.reduceEqDiff, Int.reduceToNat]
   refine hK _ _ ?_; clear hK K
   refine zag rfl ?_
   refine zac (fun K hK r => ?_)
   simp only [zaI, zaM, g_bool, g_string, g_pointer, g_slice, g_map, g_func, g_nilFunc, g_iface, g_nil_iface, g_nil_r, g_nil_l, eX, ↓reduceIte, Nat.reduceEqDiff, Int.reduceToNat]
   rw [e_neq _ _ _ _ (by simp)]
   rw [q_equal, q_bool _ _ Try.underlying4]
   try simp only [eX, ↓reduceIte, Nat.reduceEqDiff, Int.reduceToNat]
   refine hK _ _ ?_; clear hK K
   refine zao rfl ?_
   refine zae ?_
   try simp only [Ex.thnH, Ex.inBlockH, ↓reduceIte, Nat.reduceEqDiff]
   refine hK4 _ _ ?_; try clear hK4 K4
   refine zaV ?_
   try simp only [Ex.thnH, Ex.inBlockH, ↓reduceIte, Nat.reduceEqDiff]
   refine ⟨[_], ⟨rfl, trivial⟩, G, lhA, ?_, rfl⟩
   show Value.bool _ = Value.bool _
   congr 1
   unfold ltD glE En.lt
   (try simp only [decide_eq_true_eq, decide_eq_false_iff_not, Bool.not_eq_true, Bool.not_eq_false, Bool.and_eq_true, Bool.or_eq_true, Bool.or_eq_false_iff, Bool.not_eq_eq_eq_not, Bool.not_true, Bool.not_false] at c11)
   by_cases h1 : a.v < b.v
   ·have h2 : ¬ b.v < a.v := by omega
    cases d <;> simp [h1, h2, c11]
   ·have h2 : b.v < a.v := by omega
    cases d <;> simp [h1, h2, c11]
 ·first
  |(exfalso; exact cnA c11; done)
  |skip
   (try simp only [decide_eq_true_eq, decide_eq_false_iff_not, Bool.not_eq_true, Bool.not_eq_false, Bool.and_eq_true, Bool.or_eq_true, Bool.or_eq_false_iff, Bool.not_eq_eq_eq_not, Bool.not_true, Bool.not_false] at c11)
   refine zaL ?_
   try simp only [Ex.thnH, Ex.inBlockH, ↓reduceIte, Nat.reduceEqDiff]
   refine hK2 _ _ ?_; try clear hK2 K2
   refine zad (fun K5 hK5 => ?_)
   refine zab ?_
   refine zac (fun K hK r => ?_)
   simp only [zah, fa56_1, zaA, Nat.reduceAdd, Nat.zero_add, eX, ↓reduceIte, Nat.reduceEqDiff, Int.reduceToNat]
   refine hK _ _ ?_; clear hK K
   refine zac (fun K hK r => ?_)
   simp only [zar, eX, ↓reduceIte, Nat.reduceEqDiff, Int.reduceToNat]
   refine zak Try.underlying3 rfl hbA ldA ?_
   try simp only [eX, ↓reduceIte, Nat.reduceEqDiff, Int.reduceToNat]
   refine hK _ _ ?_; clear hK K
   refine zac (fun K hK r => ?_)
   simp only [zah, fa56_1, zaA, Nat.reduceAdd, Nat.zero_add, eX, ↓reduceIte, Nat.reduceEqDiff, Int.reduceToNat]
   refine hK _ _ ?_; clear hK K
   refine zac (fun K hK r => ?_)
   simp only [zar, eX, ↓reduceIte, Nat.reduceEqDiff, Int.reduceToNat]
   refine zak Try.underlying3 rfl hbA ldA ?_
   try simp only [eX, ↓reduceIte, Nat.reduceEqDiff, Int.reduceToNat]
   refine hK _ _ ?_; clear hK K
   refine zac (fun K hK r => ?_)
   simp (disch := (first | omega | decide)) only [zaI, zaM, b_lss, zau, zaw, zat, zax, zas, zay, Bool.not_true, Bool.not_false, eX, ↓reduceIte, Nat.reduceEqDiff, Int.reduceToNat]
   refine hK _ _ ?_; clear hK K
   refine zao rfl ?_
   refine zae ?_
   try simp only [Ex.thnH, Ex.inBlockH, ↓reduceIte, Nat.reduceEqDiff]
   refine hK5 _ _ ?_; try clear hK5 K5
   refine zaV ?_
   try simp only [Ex.thnH, Ex.inBlockH, ↓reduceIte, Nat.reduceEqDiff]
   refine ⟨[_], ⟨rfl, trivial⟩, G, lhA, ?_, rfl⟩
   show Value.bool _ = Value.bool _
   congr 1
   unfold ltD glE En.lt
   (try simp only [decide_eq_true_eq, decide_eq_false_iff_not, Bool.not_eq_true, Bool.not_eq_false, Bool.and_eq_true, Bool.or_eq_true, Bool.or_eq_false_iff, Bool.not_eq_eq_eq_not, Bool.not_true, Bool.not_false] at c11)
   have h1 : ¬ a.v < b.v := by omega
   have h2 : ¬ b.v < a.v := by omega
   cases d <;> simp [h1, h2, c11]
set_option maxRecDepth 100000 in
set_option maxHeartbeats 1000000 in
theorem entries_ok (G : Hp) (a b : Option Addr) (c c2 : Nat) (A B : List En) (ha : Holds G 2 (.slice a A.length c) A.length (ens A)) (hb : Holds G 2 (.slice b B.length c2) B.length (ens B)) (hn : A.length ≤ 1000000) (he : A = B) : CallH Try.prog 19 #[.slice a A.length c, .slice b B.length c2] G (fun v G' => v = .bool true ∧ Le G G') := by
 refine zaB (l := [_, _]) (rl := [.tmp 4]) (n := 26) Try.func19 rfl rfl rfl rfl rfl ?_
 simp only [envOf, Nat.reduceAdd]
 subst he
 refine zad (fun K1 hK1 => ?_)
 refine zab ?_
 refine zao rfl ?_
 refine zae ?_
 try simp only [Ex.thnH, Ex.inBlockH, ↓reduceIte, Nat.reduceEqDiff]
 refine hK1 _ _ ?_; try clear hK1 K1
 refine zad (fun K2 hK2 => ?_)
 refine zad (fun K3 hK3 => ?_)
 refine zab ?_
 refine zag rfl ?_
 refine zac (fun K hK r => ?_)
 simp only [zaC, l_len, List.map_toArray, List.map_cons, List.map_nil, zaF _ _ Try.underlying33, eX, ↓reduceIte, Nat.reduceEqDiff, Int.reduceToNat]
 refine hK _ _ ?_; clear hK K
 refine zag rfl ?_
 refine zac (fun K hK r => ?_)
 simp only [zaC, l_len, List.map_toArray, List.map_cons, List.map_nil, zaF _ _ Try.underlying53, eX, ↓reduceIte, Nat.reduceEqDiff, Int.reduceToNat]
 refine hK _ _ ?_; clear hK K
 refine zac (fun K hK r => ?_)
 simp (disch := (first | omega | decide)) only [zaI, zaM, b_neq, zau, zaw, zat, zax, zas, zay, Bool.not_true, Bool.not_false, eX, ↓reduceIte, Nat.reduceEqDiff, Int.reduceToNat]
 refine hK _ _ ?_; clear hK K
 refine zae ?_
 try simp only [Ex.thnH, Ex.inBlockH, ↓reduceIte, Nat.reduceEqDiff]
 refine hK3 _ _ ?_; try clear hK3 K3
 refine zaH (fun r => rfl) (fun c11 => ?_) (fun c11 => ?_)
 ·exfalso; exact cnA c11
 refine zaL ?_
 try simp only [Ex.thnH, Ex.inBlockH, ↓reduceIte, Nat.reduceEqDiff]
 refine hK2 _ _ ?_; try clear hK2 K2
 refine zad (fun K4 hK4 => ?_)
 refine zad (fun K5 hK5 => ?_)
 refine zab ?_
 refine zag rfl ?_
 refine zac (fun K hK r => ?_)
 simp only [zaC, l_len, List.map_toArray, List.map_cons, List.map_nil, zaF _ _ Try.underlying33, eX, ↓reduceIte, Nat.reduceEqDiff, Int.reduceToNat]
 refine hK _ _ ?_; clear hK K
 refine zag rfl ?_
 refine zae ?_
 try simp only [Ex.thnH, Ex.inBlockH, ↓reduceIte, Nat.reduceEqDiff]
 refine hK5 _ _ ?_; try clear hK5 K5
 refine zaP ?_
 refine CW_loop (fun m e H_ => ∃ k : Nat, k ≤ A.length ∧ m = A.length - k ∧ Le G H_ ∧ Env.has [(1, .slice b A.length c2), (12, .slice a A.length c), (13, .int .i64 A.length), (14, .int .i64 k)] e) (A.length) ?_ ?_
 ·skip
  exact ⟨0, by omega, by omega, Le.refl _, rfl, rfl, rfl, rfl, trivial⟩
 intro m_ e_ H_ hI_
 obtain ⟨k, hk, rfl, hl_, he⟩ := hI_
 refine CW_env he.sub ?_; clear he e_
 refine zad (fun K6 hK6 => ?_)
 refine zab ?_
 refine zac (fun K hK r => ?_)
 simp (disch := (first | omega | decide)) only [zaI, zaM, b_lss, zau, zaw, zat, zax, zas, zay, Bool.not_true, Bool.not_false, eX, ↓reduceIte, Nat.reduceEqDiff, Int.reduceToNat]
 refine hK _ _ ?_; clear hK K
 refine zae ?_
 try simp only [Ex.thnH, Ex.inBlockH, ↓reduceIte, Nat.reduceEqDiff]
 refine hK6 _ _ ?_; try clear hK6 K6
 refine zad (fun K7 hK7 => ?_)
 refine zaH (fun r => rfl) (fun c15 => ?_) (fun c15 => ?_)
 ·first
  |(exfalso; exact cnA c15; done)
  |skip
   (try simp only [decide_eq_true_eq, decide_eq_false_iff_not, Bool.not_eq_true, Bool.not_eq_false, Bool.and_eq_true, Bool.or_eq_true, Bool.or_eq_false_iff, Bool.not_eq_eq_eq_not, Bool.not_true, Bool.not_false] at c15)
   obtain ⟨bw, ow, cw, Tw, Fw, ew, hbw, hsw, atw⟩ := (ha.le hl_).at (by omega)
   obtain ⟨bu, ou, cu, Tu, Fu, eu, hbu, hsu, atu⟩ := (hb.le hl_).at (by omega)
   refine zaL ?_
   try simp only [Ex.thnH, Ex.inBlockH, ↓reduceIte, Nat.reduceEqDiff]
   refine hK7 _ _ ?_; try clear hK7 K7
   refine zad (fun K8 hK8 => ?_)
   refine zaP ?_
   refine zad (fun K9 hK9 => ?_)
   refine zab ?_
   refine zag rfl ?_
   refine zac (fun K hK r => ?_)
   simp only [zav, eX, ↓reduceIte, Nat.reduceEqDiff, Int.reduceToNat]
   refine zaN Try.underlying33 sz38 ew ixA ixA ?_
   try simp only [Int.toNat_natCast]
   refine hK _ _ ?_; clear hK K
   refine zac (fun K hK r => ?_)
   simp only [zar, eX, ↓reduceIte, Nat.reduceEqDiff, Int.reduceToNat]
   refine zaS Try.underlying38 rfl sz38 hbw (by omega) ?_
   rw [ext_at En.len atw rfl k (by omega) hsw]
   refine hK _ _ ?_; clear hK K
   refine zac (fun K hK r => ?_)
   simp only [x_alloc, zr38, zai, Value.cells, eX, ↓reduceIte, Nat.reduceEqDiff, Int.reduceToNat]
   intro b6 hb6
   try have n6_bw : bw ≠ b6 := zaz hbA hb6
   try have n6_bu : bu ≠ b6 := zaz hbA hb6
   try simp only [eX, ↓reduceIte, Nat.reduceEqDiff, Int.reduceToNat]
   refine hK _ _ ?_; clear hK K
   refine zao rfl ?_
   refine OW_op rfl (lt_none) (fun K hK r => ?_)
   simp only [x_store, eX, ↓reduceIte, Nat.reduceEqDiff, Int.reduceToNat]
   first | refine Lt_storeAll sz38 bdA hbA bdA plA (by decide) ?_ | refine Lt_storeAtA sz38 bdA hbA bdA plA (by decide) ?_
   try simp only [eX, ↓reduceIte, Nat.reduceEqDiff, Int.reduceToNat]
   refine hK _ _ ?_; clear hK K
   refine zae ?_
   try simp only [Ex.thnH, Ex.inBlockH, ↓reduceIte, Nat.reduceEqDiff]
   refine hK9 _ _ ?_; try clear hK9 K9
   refine zad (fun K10 hK10 => ?_)
   obtain ⟨R6, hR6⟩ : ∃ R : Hp, R = H_.upd b6 (.cells (A.getD k default).c.toArray 38) := ⟨_, rfl⟩
   refine CW_drawR [1, 0, 0, 0, 1, 0] [0, 1, 2, 3, 4, 5] R6 (by kernel_rfl) (by kernel_rfl) (by subst hR6; exact Le.refl _) (fun lR6 => ?_)
   have hRw : R6 bu = some (.cells cu Tu Fu) := by rw [hR6, zaE _ _ (zaz hbu hb6)]; exact hbu
   have hRx : R6 b6 = some (.cells (A.getD k default).c.toArray 38) := by rw [hR6]; exact zap _ _ _
   apply zaW rfl (zaa (by decide)) rfl
   ·intro r
    simp only [zar, eX, ↓reduceIte, Nat.reduceEqDiff]
    first | refine Lt_loadAll Try.underlying38 rfl sz38 hbA bdA ?_ | refine zaS Try.underlying38 rfl sz38 hbA bdA ?_
    try simp only [List.extract_toArray, List.extract_eq_take_drop, Nat.zero_add, Nat.reduceAdd, Nat.reduceSub, Nat.sub_zero, List.drop_succ_cons, List.drop_zero, List.take_succ_cons, List.take_zero, List.take_nil, List.drop_nil]
    exact ⟨rfl, Le.refl _⟩
   simp only [eX, ↓reduceIte, Nat.reduceEqDiff, Int.reduceToNat]
   apply zaf rfl (zaa (by decide)) rfl
   ·intro r
    simp only [zaq, eX, ↓reduceIte, Nat.reduceEqDiff]
    exact ⟨rfl, Le.refl _⟩
   simp only [eX, ↓reduceIte, Nat.reduceEqDiff, Int.reduceToNat]
   apply zaf rfl (zaa (by decide)) rfl
   ·intro r
    simp only [zaq, eX, ↓reduceIte, Nat.reduceEqDiff]
    exact ⟨rfl, Le.refl _⟩
   simp only [eX, ↓reduceIte, Nat.reduceEqDiff, Int.reduceToNat]
   apply zaf rfl (zaa (by decide)) rfl
   ·intro r
    simp only [zav, eX, ↓reduceIte, Nat.reduceEqDiff]
    refine zaN Try.underlying53 sz56 eu ixA ixA ?_
    try simp only [Int.toNat_natCast]
    exact ⟨rfl, Le.refl _⟩
   simp only [eX, ↓reduceIte, Nat.reduceEqDiff, Int.reduceToNat]
   apply zaW rfl (zaa (by decide)) rfl
   ·intro r
    simp only [zar, eX, ↓reduceIte, Nat.reduceEqDiff]
    refine zaS Try.underlying56 rfl sz56 hRw (by omega) ?_
    rw [ext_at En.len atu rfl k (by omega) hsu]
    exact ⟨rfl, Le.refl _⟩
   simp only [eX, ↓reduceIte, Nat.reduceEqDiff, Int.reduceToNat]
   apply zaf rfl (zaa (by decide)) rfl
   ·intro r
    simp only [zaI, g_agg _ _ _ _ _ _ eqg56, eX, ↓reduceIte, Nat.reduceEqDiff]
    rw [e_neq _ _ _ _ (by simp)]
    rw [q_equal, qs56]
    exact ⟨rfl, Le.refl _⟩
   simp only [eX, ↓reduceIte, Nat.reduceEqDiff, Int.reduceToNat]
   refine TW_nil ?_
   try simp only [Ex.thnH, Ex.inBlockH, ↓reduceIte, Nat.reduceEqDiff]
   refine hK10 _ _ ?_; try clear hK10 K10
   refine zaH (fun r => rfl) (fun c24 => ?_) (fun c24 => ?_)
   ·exfalso; exact cnA c24
   refine zaL ?_
   try simp only [Ex.thnH, Ex.inBlockH, ↓reduceIte, Nat.reduceEqDiff]
   refine hK8 _ _ ?_; try clear hK8 K8
   refine zab ?_
   refine zac (fun K hK r => ?_)
   simp (disch := (first | omega | decide)) only [zaI, zaM, b_add, zaG, zaK, zaJ, zaR, eX, ↓reduceIte, Nat.reduceEqDiff, Int.reduceToNat]
   refine hK _ _ ?_; clear hK K
   refine zag rfl ?_
   refine zae ?_
   try simp only [Ex.thnH, Ex.inBlockH, ↓reduceIte, Nat.reduceEqDiff]
   exact ⟨A.length - (k + 1), by omega, k + 1, by omega, rfl, (zal hl_ (zaj hl_ hb6)), rfl, rfl, rfl, rfl, trivial⟩
 ·first
  |(exfalso; exact cnA c15; done)
  |skip
   skip
   refine CW_exit ?_
   try simp only [Ex.thnH, Ex.inBlockH, ↓reduceIte, Nat.reduceEqDiff]
   refine hK4 _ _ ?_; try clear hK4 K4
   refine zad (fun K11 hK11 => ?_)
   refine zab ?_
   refine zao rfl ?_
   refine zae ?_
   try simp only [Ex.thnH, Ex.inBlockH, ↓reduceIte, Nat.reduceEqDiff]
   refine hK11 _ _ ?_; try clear hK11 K11
   refine zaV ?_
   try simp only [Ex.thnH, Ex.inBlockH, ↓reduceIte, Nat.reduceEqDiff]
   exact ⟨[_], ⟨rfl, trivial⟩, _, Le.refl _, rfl, hl_⟩
end Go.Proofs.Ytjhohnbdhopllaa.HL
end
section
namespace Go.Proofs.Ytjhohnbdhopllaa.HL
open Go Go.Proofs
set_option linter.unusedSimpArgs false
set_option linter.unusedVariables false
attribute [local irreducible] Lt Lq CW OW TW CallH
theorem filt_snoc {X : List Wr} {j : Nat} (h : j < X.length) (p : Wr → Bool) : (X.take (j + 1)).filter p = (X.take j).filter p ++ (if p (X.getD j default) then [X.getD j default] else []) := by
  rw [take_snocA h, List.filter_append]
  congr 1
  cases hw : p (X.getD j default)
  · rw [List.filter_cons_of_neg (by rw [hw]; simp)]; rfl
  · rw [List.filter_cons_of_pos hw]; rfl
theorem own_new {H : Hp} {E : TypeId} {w n : Nat} {v : Value} {cs : List Value} {rs : Option Nat} (h : OwnS H E w v n cs rs) : ∃ N : Hp, Le N H ∧ (∀ x, N x ≠ none → rs = some x) ∧ OwnS N E w v n cs rs := by
  refine ⟨fun x => if rs = some x then H x else none, fun x o hx => ?_, fun x hx => ?_, h.stay (fun x o hx ho => ?_)⟩
  · try simp only at hx
    split at hx
    · exact hx
    · cases hx
  · try simp only at hx
    split at hx
    · assumption
    · exact absurd rfl hx
  · try simp only
    rw [if_pos hx]; exact ho
theorem filt_len (X : List Wr) (j : Nat) (p : Wr → Bool) : ((X.take j).filter p).length ≤ X.length := Nat.le_trans (List.length_filter_le _ _) (by rw [List.length_take]; omega)
set_option maxRecDepth 100000 in
set_option maxHeartbeats 4000000 in
theorem rtell_ok (G0 G : Hp) (h0 : Le G0 G) (a b : Option Addr) (cap c2 : Nat) (M L : List Wr) (hv : Holds G0 4 (.slice a M.length cap) M.length (wrs M)) (hv2 : Holds G 4 (.slice b L.length c2) L.length (wrs L)) (hn : M.length + L.length ≤ 100000) : CallH Try.prog 16 #[.slice a M.length cap, .slice b L.length c2] G (fun v G' => Le G G' ∧ ∃ a' c' N, v = .tuple #[.slice a' (refM M L).length c', .int .i64 (if L.any farW then 1 else 0)] ∧ Le N G' ∧ (∀ x, N x ≠ none → G0 x ≠ none ∨ G x = none) ∧ Holds N 4 (.slice a' (refM M L).length c') (refM M L).length (wrs (refM M L))) := by
 refine zaB (l := [_, _]) (rl := [.tmp 4, .tmp 5]) (n := 78) Try.func16 rfl rfl rfl rfl rfl ?_
 simp only [envOf, Nat.reduceAdd]
 refine zad (fun K1 hK1 => ?_)
 refine zab ?_
 refine zao rfl ?_
 refine zao rfl ?_
 refine zae ?_
 try simp only [Ex.thnH, Ex.inBlockH, ↓reduceIte, Nat.reduceEqDiff]
 refine hK1 _ _ ?_; try clear hK1 K1
 refine zad (fun K2 hK2 => ?_)
 refine zad (fun K3 hK3 => ?_)
 refine zab ?_
 refine zao rfl ?_
 refine zae ?_
 try simp only [Ex.thnH, Ex.inBlockH, ↓reduceIte, Nat.reduceEqDiff]
 refine hK3 _ _ ?_; try clear hK3 K3
 refine zaP ?_
 refine CW_loop (fun m e H_ => ∃ k : Nat, k ≤ L.length ∧ m = L.length - k ∧ (L.take k).any farW = false ∧ H_ = G ∧ Env.has [(0, .slice a M.length cap), (1, .slice b L.length c2), (6, .int .i64 k)] e) (L.length) ?_ ?_
 ·skip
  exact ⟨0, by omega, by omega, by simp, rfl, rfl, rfl, rfl, trivial⟩
 intro m_ e_ H_ hI_
 obtain ⟨k, hk, rfl, hno, hH_, he⟩ := hI_
 have hH_ := hH_.symm; subst hH_
 refine CW_env he.sub ?_; clear he e_
 refine zad (fun K4 hK4 => ?_)
 refine zad (fun K5 hK5 => ?_)
 refine zab ?_
 refine zag rfl ?_
 refine zag rfl ?_
 refine zac (fun K hK r => ?_)
 simp only [zaC, l_len, List.map_toArray, List.map_cons, List.map_nil, zaF _ _ Try.underlying29, eX, ↓reduceIte, Nat.reduceEqDiff, Int.reduceToNat]
 refine hK _ _ ?_; clear hK K
 refine zac (fun K hK r => ?_)
 simp (disch := (first | omega | decide)) only [zaI, zaM, b_lss, zau, zaw, zat, zax, zas, zay, Bool.not_true, Bool.not_false, eX, ↓reduceIte, Nat.reduceEqDiff, Int.reduceToNat]
 refine hK _ _ ?_; clear hK K
 refine zae ?_
 try simp only [Ex.thnH, Ex.inBlockH, ↓reduceIte, Nat.reduceEqDiff]
 refine hK5 _ _ ?_; try clear hK5 K5
 refine zaH (fun r => rfl) (fun c13 => ?_) (fun c13 => ?_)
 ·first
  |(exfalso; exact cnA c13; done)
  |skip
   (try simp only [decide_eq_true_eq, decide_eq_false_iff_not, Bool.not_eq_true, Bool.not_eq_false, Bool.and_eq_true, Bool.or_eq_true, Bool.or_eq_false_iff, Bool.not_eq_eq_eq_not, Bool.not_true, Bool.not_false] at c13)
   obtain ⟨bw, ow, cw, Tw, Fw, ew, hbw, hsw, atw⟩ := hv2.at (by omega)
   obtain ⟨w, hw⟩ : ∃ w, w = L.getD k default := ⟨_, rfl⟩
   have hwm : w ∈ L := by rw [hw, List.getD_eq_getElem?_getD, List.getElem?_eq_getElem (by omega)]; exact List.getElem_mem (by omega)
   refine zaL ?_
   try simp only [Ex.thnH, Ex.inBlockH, ↓reduceIte, Nat.reduceEqDiff]
   refine hK4 _ _ ?_; try clear hK4 K4
   refine zad (fun K6 hK6 => ?_)
   refine zaP ?_
   refine zad (fun K7 hK7 => ?_)
   refine zab ?_
   refine zag rfl ?_
   refine zag rfl ?_
   refine zac (fun K hK r => ?_)
   simp only [zav, eX, ↓reduceIte, Nat.reduceEqDiff, Int.reduceToNat]
   refine zaN Try.underlying29 sz46 ew ixA ixA ?_
   try simp only [Int.toNat_natCast]
   refine hK _ _ ?_; clear hK K
   refine zac (fun K hK r => ?_)
   simp only [zah, fa46_0, zaA, Nat.reduceAdd, Nat.zero_add, eX, ↓reduceIte, Nat.reduceEqDiff, Int.reduceToNat]
   refine hK _ _ ?_; clear hK K
   refine zac (fun K hK r => ?_)
   simp only [zah, fa44_0, zaA, Nat.reduceAdd, Nat.zero_add, eX, ↓reduceIte, Nat.reduceEqDiff, Int.reduceToNat]
   refine hK _ _ ?_; clear hK K
   refine zac (fun K hK r => ?_)
   simp only [zar, eX, ↓reduceIte, Nat.reduceEqDiff, Int.reduceToNat]
   refine zak Try.underlying3 rfl hbw (v := .int .i64 w.t) (by rw [hw]; first | exact cell_at Wr.len atw rfl k (by omega) 0 (by decide) | (rw [cell_at Wr.len atw rfl k (by omega) 0 (by decide)]; rfl)) ?_
   refine hK _ _ ?_; clear hK K
   refine zac (fun K hK r => ?_)
   simp (disch := (first | omega | decide)) only [zaI, zaM, b_lss, zau, zaw, zat, zax, zas, zay, Bool.not_true, Bool.not_false, eX, ↓reduceIte, Nat.reduceEqDiff, Int.reduceToNat]
   refine hK _ _ ?_; clear hK K
   refine zag rfl ?_
   (first | refine OW_split (d := 23) rfl (fun g23 => ?_) (fun g23 => ?_) | skip)
   all_goals try (exfalso; exact cnA g23)
   all_goals (try simp only [decide_eq_true_eq, decide_eq_false_iff_not, Bool.not_eq_true, Bool.not_eq_false, Bool.and_eq_true, Bool.or_eq_true, Bool.or_eq_false_iff, Bool.not_eq_eq_eq_not, Bool.not_true, Bool.not_false] at g23)
   all_goals
    try simp only [eX, ↓reduceIte, Nat.reduceEqDiff, Int.reduceToNat]
    first
    |refine zam rfl (zaa (by decide)) rfl (fun K hK r => ?_)
     simp only [zaq, eX, ↓reduceIte, Nat.reduceEqDiff, Int.reduceToNat]
     refine hK _ _ ?_; clear hK K
    |refine zan rfl (zaa (by decide)) rfl ?_
     simp only [eX, ↓reduceIte, Nat.reduceEqDiff, Int.reduceToNat]
    first
    |refine zam rfl (zaa (by decide)) rfl (fun K hK r => ?_)
     simp only [zaq, eX, ↓reduceIte, Nat.reduceEqDiff, Int.reduceToNat]
     refine hK _ _ ?_; clear hK K
    |refine zan rfl (zaa (by decide)) rfl ?_
     simp only [eX, ↓reduceIte, Nat.reduceEqDiff, Int.reduceToNat]
    first
    |refine zam rfl (zaa (by decide)) rfl (fun K hK r => ?_)
     simp only [zav, eX, ↓reduceIte, Nat.reduceEqDiff, Int.reduceToNat]
     refine zaN Try.underlying29 sz46 ew ixA ixA ?_
     try simp only [Int.toNat_natCast]
     refine hK _ _ ?_; clear hK K
    |refine zan rfl (zaa (by decide)) rfl ?_
     simp only [eX, ↓reduceIte, Nat.reduceEqDiff, Int.reduceToNat]
    first
    |refine zam rfl (zaa (by decide)) rfl (fun K hK r => ?_)
     simp only [zah, fa46_0, zaA, Nat.reduceAdd, Nat.zero_add, eX, ↓reduceIte, Nat.reduceEqDiff, Int.reduceToNat]
     refine hK _ _ ?_; clear hK K
    |refine zan rfl (zaa (by decide)) rfl ?_
     simp only [eX, ↓reduceIte, Nat.reduceEqDiff, Int.reduceToNat]
    first
    |refine zam rfl (zaa (by decide)) rfl (fun K hK r => ?_)
     simp only [zah, fa44_0, zaA, Nat.reduceAdd, Nat.zero_add, eX, ↓reduceIte, Nat.reduceEqDiff, Int.reduceToNat]
     refine hK _ _ ?_; clear hK K
    |refine zan rfl (zaa (by decide)) rfl ?_
     simp only [eX, ↓reduceIte, Nat.reduceEqDiff, Int.reduceToNat]
    first
    |refine zam rfl (zaa (by decide)) rfl (fun K hK r => ?_)
     simp only [zar, eX, ↓reduceIte, Nat.reduceEqDiff, Int.reduceToNat]
     refine zak Try.underlying3 rfl hbw (v := .int .i64 w.t) (by rw [hw]; first | exact cell_at Wr.len atw rfl k (by omega) 0 (by decide) | (rw [cell_at Wr.len atw rfl k (by omega) 0 (by decide)]; rfl)) ?_
     refine hK _ _ ?_; clear hK K
    |refine zan rfl (zaa (by decide)) rfl ?_
     simp only [eX, ↓reduceIte, Nat.reduceEqDiff, Int.reduceToNat]
    first
    |refine zam rfl (zaa (by decide)) rfl (fun K hK r => ?_)
     simp (disch := (first | omega | decide)) only [zaI, zaM, b_gtr, zau, zaw, zat, zax, zas, zay, Bool.not_true, Bool.not_false, eX, ↓reduceIte, Nat.reduceEqDiff, Int.reduceToNat]
     refine hK _ _ ?_; clear hK K
    |refine zan rfl (zaa (by decide)) rfl ?_
     simp only [eX, ↓reduceIte, Nat.reduceEqDiff, Int.reduceToNat]
    refine zac (fun K hK r => ?_)
    simp only [x_pick, l_asBool, HL.ite_bool, if_true, if_false, Bool.false_eq_true, eX, ↓reduceIte, Nat.reduceEqDiff, Int.reduceToNat]
    refine hK _ _ ?_; clear hK K
    refine zae ?_
    try simp only [Ex.thnH, Ex.inBlockH, ↓reduceIte, Nat.reduceEqDiff]
    refine hK7 _ _ ?_; try clear hK7 K7
    refine zaH (fun r => rfl) (fun c31 => ?_) (fun c31 => ?_)
    ·first
     |(exfalso; exact cnA c31; done)
     |skip
      have hfar : farW w = true := by
       unfold farW
       first
       |(simp; omega)
       |(simp at c31; simp; omega)
      refine zad (fun K8 hK8 => ?_)
      refine zab ?_
      refine zag rfl ?_
      refine zao rfl ?_
      refine zao rfl ?_
      refine zae ?_
      try simp only [Ex.thnH, Ex.inBlockH, ↓reduceIte, Nat.reduceEqDiff]
      refine hK8 _ _ ?_; try clear hK8 K8
      refine zaV ?_
      try simp only [Ex.thnH, Ex.inBlockH, ↓reduceIte, Nat.reduceEqDiff]
      have hany : L.any farW = true := List.any_eq_true.2 ⟨w, hwm, hfar⟩
      have hM : refM M L = M := by unfold refM; rw [if_pos hany]
      rw [hM, hany]
      exact ⟨[_, _], ⟨rfl, rfl, trivial⟩, _, Le.refl _, Le.refl _, a, cap, G0, rfl, h0, (fun x hx => .inl hx), hv⟩
    ·first
     |(exfalso; exact cnA c31; done)
     |skip
      have hfar : farW w = false := by
       unfold farW
       simp at c31
       simp; omega
      refine zaL ?_
      try simp only [Ex.thnH, Ex.inBlockH, ↓reduceIte, Nat.reduceEqDiff]
      refine hK6 _ _ ?_; try clear hK6 K6
      refine zab ?_
      refine zag rfl ?_
      refine zac (fun K hK r => ?_)
      simp (disch := (first | omega | decide)) only [zaI, zaM, b_add, zaG, zaK, zaJ, zaR, eX, ↓reduceIte, Nat.reduceEqDiff, Int.reduceToNat]
      refine hK _ _ ?_; clear hK K
      refine zao rfl ?_
      refine zae ?_
      try simp only [Ex.thnH, Ex.inBlockH, ↓reduceIte, Nat.reduceEqDiff]
      refine ⟨L.length - (k + 1), by omega, k + 1, by omega, rfl, ?_, rfA, rfl, rfl, rfl, trivial⟩
      rw [take_snocA (by omega), List.any_append, hno, ← hw]
      simp only [List.any_cons, List.any_nil, Bool.or_false, Bool.false_or]
      exact hfar
 ·first
  |(exfalso; exact cnA c13; done)
  |skip
   (try simp only [decide_eq_true_eq, decide_eq_false_iff_not, Bool.not_eq_true, Bool.not_eq_false, Bool.and_eq_true, Bool.or_eq_true, Bool.or_eq_false_iff, Bool.not_eq_eq_eq_not, Bool.not_true, Bool.not_false] at c13)
   obtain rfl : k = L.length := by omega
   have hany : L.any farW = false := by rw [List.take_length] at hno; exact hno
   refine CW_exit ?_
   try simp only [Ex.thnH, Ex.inBlockH, ↓reduceIte, Nat.reduceEqDiff]
   refine hK2 _ _ ?_; try clear hK2 K2
   refine zad (fun K9 hK9 => ?_)
   refine zad (fun K10 hK10 => ?_)
   refine zab ?_
   refine zao rfl ?_
   refine zae ?_
   try simp only [Ex.thnH, Ex.inBlockH, ↓reduceIte, Nat.reduceEqDiff]
   refine hK10 _ _ ?_; try clear hK10 K10
   refine zaP ?_
   refine CW_loop (fun m e H_ => ∃ (k : Nat) (X : List Wr) (xa : Option Addr) (xc : Nat), k ≤ L.length ∧ m = L.length - k ∧ X = (L.take k).foldl stepM M ∧ Le G H_ ∧ (∃ N, Le N H_ ∧ (∀ x, N x ≠ none → G0 x ≠ none ∨ G x = none) ∧ Holds N 4 (.slice xa X.length xc) X.length (wrs X)) ∧ Env.has [(0, .slice xa X.length xc), (1, .slice b L.length c2), (7, .int .i64 k)] e) (L.length) ?_ ?_
   ·skip
    exact ⟨0, M, a, cap, by omega, by omega, rfl, Le.refl _, ⟨G0, h0, fun x hx => .inl hx, hv⟩, rfl, rfl, rfl, trivial⟩
   intro m_ e_ H_ hI_
   obtain ⟨k, X, xa, xc, hk, rfl, hX, hl_, ⟨N_, hNl_, hNn_, hvN_⟩, he⟩ := hI_
   have hvX := hvN_.le hNl_
   have hXl : X.length ≤ M.length + k := by rw [hX]; have := foldM_len (L.take k) M; rw [List.length_take] at this; omega
   refine CW_env he.sub ?_; clear he e_
   refine zad (fun K11 hK11 => ?_)
   refine zad (fun K12 hK12 => ?_)
   refine zab ?_
   refine zag rfl ?_
   refine zag rfl ?_
   refine zac (fun K hK r => ?_)
   simp only [zaC, l_len, List.map_toArray, List.map_cons, List.map_nil, zaF _ _ Try.underlying29, eX, ↓reduceIte, Nat.reduceEqDiff, Int.reduceToNat]
   refine hK _ _ ?_; clear hK K
   refine zac (fun K hK r => ?_)
   simp (disch := (first | omega | decide)) only [zaI, zaM, b_lss, zau, zaw, zat, zax, zas, zay, Bool.not_true, Bool.not_false, eX, ↓reduceIte, Nat.reduceEqDiff, Int.reduceToNat]
   refine hK _ _ ?_; clear hK K
   refine zae ?_
   try simp only [Ex.thnH, Ex.inBlockH, ↓reduceIte, Nat.reduceEqDiff]
   refine hK12 _ _ ?_; try clear hK12 K12
   refine zaH (fun r => rfl) (fun c36 => ?_) (fun c36 => ?_)
   ·first
    |(exfalso; exact cnA c36; done)
    |skip
     (try simp only [decide_eq_true_eq, decide_eq_false_iff_not, Bool.not_eq_true, Bool.not_eq_false, Bool.and_eq_true, Bool.or_eq_true, Bool.or_eq_false_iff, Bool.not_eq_eq_eq_not, Bool.not_true, Bool.not_false] at c36)
     obtain ⟨H1, hH1⟩ : ∃ H1 : Hp, H1 = H_ := ⟨_, rfl⟩
     subst hH1
     obtain ⟨w, hw⟩ : ∃ w, w = L.getD k default := ⟨_, rfl⟩
     have hwm : w ∈ L := by rw [hw, List.getD_eq_getElem?_getD, List.getElem?_eq_getElem (by omega)]; exact List.getElem_mem (by omega)
     refine zaL ?_
     try simp only [Ex.thnH, Ex.inBlockH, ↓reduceIte, Nat.reduceEqDiff]
     refine hK11 _ _ ?_; try clear hK11 K11
     refine zad (fun K13 hK13 => ?_)
     refine zaP ?_
     refine zad (fun K14 hK14 => ?_)
     refine zab ?_
     refine zao rfl ?_
     refine zae ?_
     try simp only [Ex.thnH, Ex.inBlockH, ↓reduceIte, Nat.reduceEqDiff]
     refine hK14 _ _ ?_; try clear hK14 K14
     refine zad (fun K15 hK15 => ?_)
     refine zad (fun K16 hK16 => ?_)
     refine zab ?_
     refine zao rfl ?_
     refine zae ?_
     try simp only [Ex.thnH, Ex.inBlockH, ↓reduceIte, Nat.reduceEqDiff]
     refine hK16 _ _ ?_; try clear hK16 K16
     refine zaP ?_
     refine CW_loop (fun m e H_ => ∃ (j : Nat) (v8 : Value) (rs : Option Nat), j ≤ X.length ∧ m = X.length - j ∧ Le H1 H_ ∧ OwnS H_ 46 4 v8 ((X.take j).filter (fun x => !keyW x w)).length (wrs ((X.take j).filter (fun x => !keyW x w))) rs ∧ (∀ r, rs = some r → H1 r = none) ∧ Env.has [(0, .slice xa X.length xc), (1, .slice b L.length c2), (7, .int .i64 k), (8, v8), (9, .int .i64 j)] e) (X.length) ?_ ?_
     ·skip
      exact ⟨0, _, none, by omega, by omega, Le.refl _, OwnS.nil _ _ _, (fun r hr => by cases hr), rfl, rfl, rfl, rfl, rfl, trivial⟩
     intro m_ e_ H_ hI_
     obtain ⟨j, v8, rs_, hj, rfl, hl2_, ho_, hr_, he⟩ := hI_
     have hfl := filt_len X j (fun x => !keyW x w)
     obtain ⟨sa_, sc_, rfl⟩ := ho_.holds.form
     refine CW_env he.sub ?_; clear he e_
     refine zad (fun K17 hK17 => ?_)
     refine zad (fun K18 hK18 => ?_)
     refine zab ?_
     refine zag rfl ?_
     refine zag rfl ?_
     refine zac (fun K hK r => ?_)
     simp only [zaC, l_len, List.map_toArray, List.map_cons, List.map_nil, zaF _ _ Try.underlying29, eX, ↓reduceIte, Nat.reduceEqDiff, Int.reduceToNat]
     refine hK _ _ ?_; clear hK K
     refine zac (fun K hK r => ?_)
     simp (disch := (first | omega | decide)) only [zaI, zaM, b_lss, zau, zaw, zat, zax, zas, zay, Bool.not_true, Bool.not_false, eX, ↓reduceIte, Nat.reduceEqDiff, Int.reduceToNat]
     refine hK _ _ ?_; clear hK K
     refine zae ?_
     try simp only [Ex.thnH, Ex.inBlockH, ↓reduceIte, Nat.reduceEqDiff]
     refine hK18 _ _ ?_; try clear hK18 K18
     refine zaH (fun r => rfl) (fun c42 => ?_) (fun c42 => ?_)
     ·first
      |(exfalso; exact cnA c42; done)
      |skip
       (try simp only [decide_eq_true_eq, decide_eq_false_iff_not, Bool.not_eq_true, Bool.not_eq_false, Bool.and_eq_true, Bool.or_eq_true, Bool.or_eq_false_iff, Bool.not_eq_eq_eq_not, Bool.not_true, Bool.not_false] at c42)
       obtain ⟨bw, ow, cw, Tw, Fw, ew, hbw, hsw, atw⟩ := (hv2.le (Le.trans hl_ hl2_)).at (by omega)
       obtain ⟨bu, ou, cu, Tu, Fu, eu, hbu, hsu, atu⟩ := (hvX.le hl2_).at (by omega)
       obtain ⟨x, hx⟩ : ∃ x, x = X.getD j default := ⟨_, rfl⟩
       refine zaL ?_
       try simp only [Ex.thnH, Ex.inBlockH, ↓reduceIte, Nat.reduceEqDiff]
       refine hK17 _ _ ?_; try clear hK17 K17
       refine zad (fun K19 hK19 => ?_)
       refine zaP ?_
       refine zad (fun K20 hK20 => ?_)
       obtain ⟨R13, hR13⟩ : ∃ R : Hp, R = H_ := ⟨_, rfl⟩
       refine CW_drawR [0, 0, 0, 0, 1, 0, 0, 0, 0, 1, 0] [0, 1, 2, 3, 4, 5, 6, 7, 8, 9, 10] R13 (by kernel_rfl) (by kernel_rfl) (by subst hR13; exact Le.refl _) (fun lR13 => ?_)
       have hRw : R13 bw = some (.cells cw Tw Fw) := by rw [hR13]; exact hbw
       have hRu : R13 bu = some (.cells cu Tu Fu) := by rw [hR13]; exact hbu
       apply zaf rfl (zaa (by decide)) rfl
       ·intro r
        simp only [zaq, eX, ↓reduceIte, Nat.reduceEqDiff]
        exact ⟨rfl, Le.refl _⟩
       simp only [eX, ↓reduceIte, Nat.reduceEqDiff, Int.reduceToNat]
       apply zaf rfl (zaa (by decide)) rfl
       ·intro r
        simp only [zaq, eX, ↓reduceIte, Nat.reduceEqDiff]
        exact ⟨rfl, Le.refl _⟩
       simp only [eX, ↓reduceIte, Nat.reduceEqDiff, Int.reduceToNat]
       apply zaf rfl (zaa (by decide)) rfl
       ·intro r
        simp only [zav, eX, ↓reduceIte, Nat.reduceEqDiff]
        refine zaN Try.underlying29 sz46 eu ixA ixA ?_
        try simp only [Int.toNat_natCast]
        exact ⟨rfl, Le.refl _⟩
       simp only [eX, ↓reduceIte, Nat.reduceEqDiff, Int.reduceToNat]
       apply zaf rfl (zaa (by decide)) rfl
       ·intro r
        simp only [zah, fa46_0, zaA, Nat.reduceAdd, Nat.zero_add, eX, ↓reduceIte, Nat.reduceEqDiff]
        exact ⟨rfl, Le.refl _⟩
       simp only [eX, ↓reduceIte, Nat.reduceEqDiff, Int.reduceToNat]
       apply zaW rfl (zaa (by decide)) rfl
       ·intro r
        simp only [zar, eX, ↓reduceIte, Nat.reduceEqDiff]
        refine zaS Try.underlying44 rfl sz44 hRu (by omega) ?_
        simp only [Nat.add_zero]
        rw [ext_key atu rfl j (by omega) hsu, ← hx]
        exact ⟨rfl, Le.refl _⟩
       simp only [eX, ↓reduceIte, Nat.reduceEqDiff, Int.reduceToNat]
       apply zaf rfl (zaa (by decide)) rfl
       ·intro r
        simp only [zaq, eX, ↓reduceIte, Nat.reduceEqDiff]
        exact ⟨rfl, Le.refl _⟩
       simp only [eX, ↓reduceIte, Nat.reduceEqDiff, Int.reduceToNat]
       apply zaf rfl (zaa (by decide)) rfl
       ·intro r
        simp only [zaq, eX, ↓reduceIte, Nat.reduceEqDiff]
        exact ⟨rfl, Le.refl _⟩
       simp only [eX, ↓reduceIte, Nat.reduceEqDiff, Int.reduceToNat]
       apply zaf rfl (zaa (by decide)) rfl
       ·intro r
        simp only [zav, eX, ↓reduceIte, Nat.reduceEqDiff]
        refine zaN Try.underlying29 sz46 ew ixA ixA ?_
        try simp only [Int.toNat_natCast]
        exact ⟨rfl, Le.refl _⟩
       simp only [eX, ↓reduceIte, Nat.reduceEqDiff, Int.reduceToNat]
       apply zaf rfl (zaa (by decide)) rfl
       ·intro r
        simp only [zah, fa46_0, zaA, Nat.reduceAdd, Nat.zero_add, eX, ↓reduceIte, Nat.reduceEqDiff]
        exact ⟨rfl, Le.refl _⟩
       simp only [eX, ↓reduceIte, Nat.reduceEqDiff, Int.reduceToNat]
       apply zaW rfl (zaa (by decide)) rfl
       ·intro r
        simp only [zar, eX, ↓reduceIte, Nat.reduceEqDiff]
        refine zaS Try.underlying44 rfl sz44 hRw (by omega) ?_
        simp only [Nat.add_zero]
        rw [ext_key atw rfl k (by omega) hsw, ← hw]
        exact ⟨rfl, Le.refl _⟩
       simp only [eX, ↓reduceIte, Nat.reduceEqDiff, Int.reduceToNat]
       apply zaf rfl (zaa (by decide)) rfl
       ·intro r
        simp only [zaI, g_agg _ _ _ _ _ _ eqg44, eX, ↓reduceIte, Nat.reduceEqDiff]
        rw [e_neq _ _ _ _ (by simp)]
        rw [q_equal, qs44]
        exact ⟨rfl, Le.refl _⟩
       simp only [eX, ↓reduceIte, Nat.reduceEqDiff, Int.reduceToNat]
       refine TW_nil ?_
       try simp only [Ex.thnH, Ex.inBlockH, ↓reduceIte, Nat.reduceEqDiff]
       refine hK20 _ _ ?_; try clear hK20 K20
       refine zaH (fun r => rfl) (fun c55 => ?_) (fun c55 => ?_)
       ·first
        |(exfalso; exact cnA c55; done)
        |skip
         have hkx : keyW x w = false := by unfold keyW; simp at c55; rw [Bool.and_eq_false_iff, decide_eq_false_iff_not, decide_eq_false_iff_not]; exact c55
         refine zab ?_
         refine zag rfl ?_
         refine zag rfl ?_
         refine zag rfl ?_
         refine zac (fun K hK r => ?_)
         simp only [zav, eX, ↓reduceIte, Nat.reduceEqDiff, Int.reduceToNat]
         refine zaN Try.underlying29 sz46 eu ixA ixA ?_
         try simp only [Int.toNat_natCast]
         refine hK _ _ ?_; clear hK K
         refine zac (fun K hK r => ?_)
         simp only [zar, eX, ↓reduceIte, Nat.reduceEqDiff, Int.reduceToNat]
         refine zaS Try.underlying46 rfl sz46 hbu (by omega) ?_
         rw [ext_at Wr.len atu rfl j (by omega) hsu, ← hx]
         refine hK _ _ ?_; clear hK K
         refine zac (fun K hK r => ?_)
         simp only [x_buildSlice, List.map_toArray, List.map_cons, List.map_nil, eX, ↓reduceIte, Nat.reduceEqDiff, Int.reduceToNat]
         refine Lt_buildSlice (vs := [_]) Try.underlying29 sz46 zr46 rfl bsA (by first | decide | (simp; done)) ?_
         simp only [List.flatMap_cons, List.flatMap_nil, Value.cells, List.append_nil, List.cons_append, List.nil_append, List.length_cons, List.length_nil, Nat.zero_add, Nat.reduceAdd]
         intro b61 hb61
         try simp only [eX, ↓reduceIte, Nat.reduceEqDiff, Int.reduceToNat]
         refine hK _ _ ?_; clear hK K
         refine zac (fun K hK r => ?_)
         simp only [zaC, l_append, List.map_toArray, List.map_cons, List.map_nil, eX, ↓reduceIte, Nat.reduceEqDiff, Int.reduceToNat]
         refine Lt_append Try.underlying29 Try.underlying29 (by simp) sz46 by46 (by decide) zr46 rfl _ (n := ((X.take j).filter (fun x => !keyW x w)).length) (m := 1) (cs := wrs ((X.take j).filter (fun x => !keyW x w))) (ds := x.c) (rs := rs_) (OwnS.make ho_ hb61) (len_slice _ _ _) (fun Kx => first_slice (w := 4) (n := 1) (cs := x.c) ⟨rfl, .inr ⟨b61, 0, 1, _, _, _, rfl, hbA, by simp, by simp⟩⟩ Kx) rfl (by intro z hz; simp at hz; rcases hz with rfl | rfl | rfl | rfl <;> rfl) (by omega) ?_
         intro v62 H62 rs62 hg62 ho62 hr62
         have l62 : Le H1 H62 := hg62.le (H0 := H1) (zal hl2_ (zaj hl2_ hb61)) hr_
         have hr62n : ∀ r, rs62 = some r → H1 r = none := fun r hr => by
          rcases hr62 r hr with h9 | h9
          ·exact hr_ r h9
          ·exact zaj (zal hl2_ (zaj hl2_ hb61)) h9
         rw [show wrs ((X.take j).filter (fun x => !keyW x w)) ++ x.c = wrs (((X.take j).filter (fun x => !keyW x w)) ++ [x]) from by simp [wrs]] at ho62
         obtain ⟨sa62, sc62, rfl⟩ := ho62.holds.form
         refine hK _ _ ?_; clear hK K
         refine zao rfl ?_
         refine zae ?_
         try simp only [Ex.thnH, Ex.inBlockH, ↓reduceIte, Nat.reduceEqDiff]
         refine hK19 _ _ ?_; try clear hK19 K19
         refine zab ?_
         refine zag rfl ?_
         refine zac (fun K hK r => ?_)
         simp (disch := (first | omega | decide)) only [zaI, zaM, b_add, zaG, zaK, zaJ, zaR, eX, ↓reduceIte, Nat.reduceEqDiff, Int.reduceToNat]
         refine hK _ _ ?_; clear hK K
         refine zao rfl ?_
         refine zae ?_
         try simp only [Ex.thnH, Ex.inBlockH, ↓reduceIte, Nat.reduceEqDiff]
         first
         |(refine ⟨X.length - (j + 1), by omega, j + 1, _, rs62, by omega, rfl, l62, ?_, hr62n, rfl, rfl, rfl, rfl, rfl, trivial⟩
           rw [filt_snoc (by omega), ← hx, if_pos (by rw [hkx]; rfl), List.length_append]
           exact ho62)
         |(refine ⟨X.length - (j + 1), by omega, j + 1, _, rs_, by omega, rfl, hl2_, ?_, hr_, rfl, rfl, rfl, rfl, rfl, trivial⟩
           rw [filt_snoc (by omega), ← hx, if_neg (by rw [hkx]; simp), List.append_nil]
           exact ho_)
       ·first
        |(exfalso; exact cnA c55; done)
        |skip
         have hkx : keyW x w = true := by unfold keyW; simpa using c55
         refine zaL ?_
         try simp only [Ex.thnH, Ex.inBlockH, ↓reduceIte, Nat.reduceEqDiff]
         refine hK19 _ _ ?_; try clear hK19 K19
         refine zab ?_
         refine zag rfl ?_
         refine zac (fun K hK r => ?_)
         simp (disch := (first | omega | decide)) only [zaI, zaM, b_add, zaG, zaK, zaJ, zaR, eX, ↓reduceIte, Nat.reduceEqDiff, Int.reduceToNat]
         refine hK _ _ ?_; clear hK K
         refine zao rfl ?_
         refine zae ?_
         try simp only [Ex.thnH, Ex.inBlockH, ↓reduceIte, Nat.reduceEqDiff]
         first
         |(refine ⟨X.length - (j + 1), by omega, j + 1, _, rs62, by omega, rfl, l62, ?_, hr62n, rfl, rfl, rfl, rfl, rfl, trivial⟩
           rw [filt_snoc (by omega), ← hx, if_pos (by rw [hkx]; rfl), List.length_append]
           exact ho62)
         |(refine ⟨X.length - (j + 1), by omega, j + 1, _, rs_, by omega, rfl, hl2_, ?_, hr_, rfl, rfl, rfl, rfl, rfl, trivial⟩
           rw [filt_snoc (by omega), ← hx, if_neg (by rw [hkx]; simp), List.append_nil]
           exact ho_)
     ·first
      |(exfalso; exact cnA c42; done)
      |skip
       (try simp only [decide_eq_true_eq, decide_eq_false_iff_not, Bool.not_eq_true, Bool.not_eq_false, Bool.and_eq_true, Bool.or_eq_true, Bool.or_eq_false_iff, Bool.not_eq_eq_eq_not, Bool.not_true, Bool.not_false] at c42)
       obtain rfl : j = X.length := by omega
       rw [List.take_length] at ho_ hfl ⊢
       obtain ⟨bw, ow, cw, Tw, Fw, ew, hbw, hsw, atw⟩ := (hv2.le (Le.trans hl_ hl2_)).at (by omega)
       refine CW_exit ?_
       try simp only [Ex.thnH, Ex.inBlockH, ↓reduceIte, Nat.reduceEqDiff]
       refine hK15 _ _ ?_; try clear hK15 K15
       refine zad (fun K21 hK21 => ?_)
       refine zad (fun K22 hK22 => ?_)
       refine zab ?_
       refine zag rfl ?_
       refine zag rfl ?_
       refine zac (fun K hK r => ?_)
       simp only [zav, eX, ↓reduceIte, Nat.reduceEqDiff, Int.reduceToNat]
       refine zaN Try.underlying29 sz46 ew ixA ixA ?_
       try simp only [Int.toNat_natCast]
       refine hK _ _ ?_; clear hK K
       refine zac (fun K hK r => ?_)
       simp only [zah, fa46_2, zaA, Nat.reduceAdd, Nat.zero_add, eX, ↓reduceIte, Nat.reduceEqDiff, Int.reduceToNat]
       refine hK _ _ ?_; clear hK K
       refine zac (fun K hK r => ?_)
       simp only [zar, eX, ↓reduceIte, Nat.reduceEqDiff, Int.reduceToNat]
       refine zak Try.underlying4 rfl hbw (v := .bool w.dead) (by rw [hw]; first | exact cell_at Wr.len atw rfl k (by omega) 3 (by decide) | (rw [cell_at Wr.len atw rfl k (by omega) 3 (by decide)]; rfl)) ?_
       refine hK _ _ ?_; clear hK K
       refine zac (fun K hK r => ?_)
       simp only [x_un, u_not, eX, ↓reduceIte, Nat.reduceEqDiff, Int.reduceToNat]
       refine hK _ _ ?_; clear hK K
       refine zae ?_
       try simp only [Ex.thnH, Ex.inBlockH, ↓reduceIte, Nat.reduceEqDiff]
       refine hK22 _ _ ?_; try clear hK22 K22
       refine zaH (fun r => rfl) (fun c68 => ?_) (fun c68 => ?_)
       ·first
        |(exfalso; exact cnA c68; done)
        |skip
         have hd : w.dead = false := by simpa using c68
         have hstep : stepM X w = X.filter (fun x => !keyW x w) ++ [w] := by unfold stepM; rw [hd]; rfl
         refine zab ?_
         refine zag rfl ?_
         refine zag rfl ?_
         refine zag rfl ?_
         refine zac (fun K hK r => ?_)
         simp only [zav, eX, ↓reduceIte, Nat.reduceEqDiff, Int.reduceToNat]
         refine zaN Try.underlying29 sz46 ew ixA ixA ?_
         try simp only [Int.toNat_natCast]
         refine hK _ _ ?_; clear hK K
         refine zac (fun K hK r => ?_)
         simp only [zar, eX, ↓reduceIte, Nat.reduceEqDiff, Int.reduceToNat]
         refine zaS Try.underlying46 rfl sz46 hbw (by omega) ?_
         rw [ext_at Wr.len atw rfl k (by omega) hsw, ← hw]
         refine hK _ _ ?_; clear hK K
         refine zac (fun K hK r => ?_)
         simp only [x_buildSlice, List.map_toArray, List.map_cons, List.map_nil, eX, ↓reduceIte, Nat.reduceEqDiff, Int.reduceToNat]
         refine Lt_buildSlice (vs := [_]) Try.underlying29 sz46 zr46 rfl bsA (by first | decide | (simp; done)) ?_
         simp only [List.flatMap_cons, List.flatMap_nil, Value.cells, List.append_nil, List.cons_append, List.nil_append, List.length_cons, List.length_nil, Nat.zero_add, Nat.reduceAdd]
         intro b74 hb74
         try simp only [eX, ↓reduceIte, Nat.reduceEqDiff, Int.reduceToNat]
         refine hK _ _ ?_; clear hK K
         refine zac (fun K hK r => ?_)
         simp only [zaC, l_append, List.map_toArray, List.map_cons, List.map_nil, eX, ↓reduceIte, Nat.reduceEqDiff, Int.reduceToNat]
         refine Lt_append Try.underlying29 Try.underlying29 (by simp) sz46 by46 (by decide) zr46 rfl _ (n := (X.filter (fun x => !keyW x w)).length) (m := 1) (cs := wrs (X.filter (fun x => !keyW x w))) (ds := w.c) (rs := rs_) (OwnS.make ho_ hb74) (len_slice _ _ _) (fun Kx => first_slice (w := 4) (n := 1) (cs := w.c) ⟨rfl, .inr ⟨b74, 0, 1, _, _, _, rfl, hbA, by simp, by simp⟩⟩ Kx) rfl (by intro z hz; simp at hz; rcases hz with rfl | rfl | rfl | rfl <;> rfl) (by omega) ?_
         intro v75 H75 rs75 hg75 ho75 hr75
         have l75 : Le H1 H75 := hg75.le (H0 := H1) (zal hl2_ (zaj hl2_ hb74)) hr_
         have hr75n : ∀ r, rs75 = some r → H1 r = none := fun r hr => by
          rcases hr75 r hr with h9 | h9
          ·exact hr_ r h9
          ·exact zaj (zal hl2_ (zaj hl2_ hb74)) h9
         rw [show wrs (X.filter (fun x => !keyW x w)) ++ w.c = wrs ((X.filter (fun x => !keyW x w)) ++ [w]) from by simp [wrs]] at ho75
         obtain ⟨sa75, sc75, rfl⟩ := ho75.holds.form
         refine hK _ _ ?_; clear hK K
         refine zao rfl ?_
         refine zae ?_
         try simp only [Ex.thnH, Ex.inBlockH, ↓reduceIte, Nat.reduceEqDiff]
         refine hK21 _ _ ?_; try clear hK21 K21
         refine zab ?_
         refine zag rfl ?_
         refine zao rfl ?_
         refine zae ?_
         try simp only [Ex.thnH, Ex.inBlockH, ↓reduceIte, Nat.reduceEqDiff]
         refine hK13 _ _ ?_; try clear hK13 K13
         refine zab ?_
         refine zag rfl ?_
         refine zac (fun K hK r => ?_)
         simp (disch := (first | omega | decide)) only [zaI, zaM, b_add, zaG, zaK, zaJ, zaR, eX, ↓reduceIte, Nat.reduceEqDiff, Int.reduceToNat]
         refine hK _ _ ?_; clear hK K
         refine zao rfl ?_
         refine zae ?_
         try simp only [Ex.thnH, Ex.inBlockH, ↓reduceIte, Nat.reduceEqDiff]
         first
         |(refine ⟨L.length - (k + 1), by omega, k + 1, stepM X w, sa75, sc75, by omega, rfl, ?_, Le.trans hl_ l75, ?_, ?_, rfl, rfl, trivial⟩
           ·rw [foldl_take _ _ (by omega), ← hw, ← hX]
           ·obtain ⟨N, hN1, hN2, hN3⟩ := own_new ho75
            refine ⟨N, hN1, fun x hx => .inr (zaj hl_ (hr75n x (hN2 x hx))), ?_⟩
            rw [hstep, List.length_append]; exact hN3.holds
           ·rw [hstep, List.length_append]; rfl)
         |(refine ⟨L.length - (k + 1), by omega, k + 1, stepM X w, sa_, sc_, by omega, rfl, ?_, Le.trans hl_ hl2_, ?_, ?_, rfl, rfl, trivial⟩
           ·rw [foldl_take _ _ (by omega), ← hw, ← hX]
           ·obtain ⟨N, hN1, hN2, hN3⟩ := own_new ho_
            refine ⟨N, hN1, fun x hx => .inr (zaj hl_ (hr_ x (hN2 x hx))), ?_⟩
            rw [hstep]; exact hN3.holds
           ·rw [hstep]; rfl)
       ·first
        |(exfalso; exact cnA c68; done)
        |skip
         have hd : w.dead = true := by simpa using c68
         have hstep : stepM X w = X.filter (fun x => !keyW x w) := by unfold stepM; rw [hd]; exact List.append_nil _
         refine zaL ?_
         try simp only [Ex.thnH, Ex.inBlockH, ↓reduceIte, Nat.reduceEqDiff]
         refine hK21 _ _ ?_; try clear hK21 K21
         refine zab ?_
         refine zag rfl ?_
         refine zao rfl ?_
         refine zae ?_
         try simp only [Ex.thnH, Ex.inBlockH, ↓reduceIte, Nat.reduceEqDiff]
         refine hK13 _ _ ?_; try clear hK13 K13
         refine zab ?_
         refine zag rfl ?_
         refine zac (fun K hK r => ?_)
         simp (disch := (first | omega | decide)) only [zaI, zaM, b_add, zaG, zaK, zaJ, zaR, eX, ↓reduceIte, Nat.reduceEqDiff, Int.reduceToNat]
         refine hK _ _ ?_; clear hK K
         refine zao rfl ?_
         refine zae ?_
         try simp only [Ex.thnH, Ex.inBlockH, ↓reduceIte, Nat.reduceEqDiff]
         first
         |(refine ⟨L.length - (k + 1), by omega, k + 1, stepM X w, sa75, sc75, by omega, rfl, ?_, Le.trans hl_ l75, ?_, ?_, rfl, rfl, trivial⟩
           ·rw [foldl_take _ _ (by omega), ← hw, ← hX]
           ·obtain ⟨N, hN1, hN2, hN3⟩ := own_new ho75
            refine ⟨N, hN1, fun x hx => .inr (zaj hl_ (hr75n x (hN2 x hx))), ?_⟩
            rw [hstep, List.length_append]; exact hN3.holds
           ·rw [hstep, List.length_append]; rfl)
         |(refine ⟨L.length - (k + 1), by omega, k + 1, stepM X w, sa_, sc_, by omega, rfl, ?_, Le.trans hl_ hl2_, ?_, ?_, rfl, rfl, trivial⟩
           ·rw [foldl_take _ _ (by omega), ← hw, ← hX]
           ·obtain ⟨N, hN1, hN2, hN3⟩ := own_new ho_
            refine ⟨N, hN1, fun x hx => .inr (zaj hl_ (hr_ x (hN2 x hx))), ?_⟩
            rw [hstep]; exact hN3.holds
           ·rw [hstep]; rfl)
   ·first
    |(exfalso; exact cnA c36; done)
    |skip
     (try simp only [decide_eq_true_eq, decide_eq_false_iff_not, Bool.not_eq_true, Bool.not_eq_false, Bool.and_eq_true, Bool.or_eq_true, Bool.or_eq_false_iff, Bool.not_eq_eq_eq_not, Bool.not_true, Bool.not_false] at c36)
     obtain rfl : k = L.length := by omega
     rw [List.take_length] at hX
     refine CW_exit ?_
     try simp only [Ex.thnH, Ex.inBlockH, ↓reduceIte, Nat.reduceEqDiff]
     refine hK9 _ _ ?_; try clear hK9 K9
     refine zad (fun K23 hK23 => ?_)
     refine zab ?_
     refine zag rfl ?_
     refine zao rfl ?_
     refine zao rfl ?_
     refine zae ?_
     try simp only [Ex.thnH, Ex.inBlockH, ↓reduceIte, Nat.reduceEqDiff]
     refine hK23 _ _ ?_; try clear hK23 K23
     refine zaV ?_
     try simp only [Ex.thnH, Ex.inBlockH, ↓reduceIte, Nat.reduceEqDiff]
     have hM : refM M L = X := by unfold refM; rw [if_neg (by rw [hany]; simp), hX]
     rw [hM, hany]
     exact ⟨[_, _], ⟨rfl, rfl, trivial⟩, _, Le.refl _, hl_, xa, xc, N_, rfl, hNl_, hNn_, hvN_⟩
end Go.Proofs.Ytjhohnbdhopllaa.HL
end
