/- Parts of the proof, one behind the other: V82, V83, V84. -/
import Derived.Test.YtigofhhonnbkmaaX6
set_option linter.unusedSimpArgs false
set_option linter.unusedVariables false
section
namespace Go.Proofs.Ytigofhhonnbkmaa.HL
open Go Go.Proofs
set_option linter.unusedSimpArgs false
set_option linter.unusedVariables false
attribute [local irreducible] Lt Lq CW OW TW CallH
set_option maxRecDepth 100000 in
set_option maxHeartbeats 1000000 in
theorem write_nil (H : Hp) (dev i : Int) (x : Sec) : CallH Try.prog 24 #[.pointer none, .int .i64 dev, .int .i64 i, x.v] H (fun v H' => v = errV (some 3) ∧ H' = H) := by
 refine zam (l := [_, _, _, _]) (rl := [.tmp 8]) (n := 43) Try.func24 rfl rfl rfl rfl rfl ?_
 refine yaa ?_
 refine zac (fun K1 hK1 => ?_)
 refine zaa ?_
 refine zab (fun K hK r => ?_)
 refine yaW ?_
 intro b7 hb7
 have f7_H : H b7 = none := zag lhA hb7
 refine yaf ?_
 refine hK _ _ ?_; clear hK K
 refine zaj rfl ?_
 refine zad ?_
 refine yab ?_
 refine hK1 _ _ ?_; try clear hK1 K1
 refine zac (fun K2 hK2 => ?_)
 refine zaa ?_
 refine zah rfl ?_
 refine zah rfl ?_
 refine zab (fun K hK r => ?_)
 refine ybH ?_
 refine (device_nil _ dev).mono ?_
 rintro v H' ⟨rfl, rfl⟩
 refine yaf ?_
 refine hK _ _ ?_; clear hK K
 refine zaj rfl ?_
 refine zad ?_
 refine yab ?_
 refine hK2 _ _ ?_; try clear hK2 K2
 refine zac (fun K3 hK3 => ?_)
 refine zaB ?_
 refine zac (fun K4 hK4 => ?_)
 refine zaa ?_
 refine zah rfl ?_
 refine zab (fun K hK r => ?_)
 refine yan ?_
 rw [e_eql _ _ _ _ (by simp)]
 rw [zaM]
 first | rw [q_ptr_nil _ _ _ Try.underlying47] | rw [q_nil_ptr _ _ _ Try.underlying47]
 refine yaf ?_
 refine hK _ _ ?_; clear hK K
 refine zaj rfl ?_
 refine zad ?_
 refine yab ?_
 refine hK4 _ _ ?_; try clear hK4 K4
 refine zar (fun r => rfl) (fun c14 => ?_) (fun c14 => ?_)
 rotate_left; exfalso; exact cnA c14
 refine zac (fun K5 hK5 => ?_)
 refine zaa ?_
 refine zab (fun K hK r => ?_)
 refine yaF ?_
 refine hK _ _ ?_; clear hK K
 refine zaj rfl ?_
 refine zad ?_
 refine yab ?_
 refine hK5 _ _ ?_; try clear hK5 K5
 refine zaz ?_
 refine yab ?_
 first | refine ⟨[_], ⟨rfl, trivial⟩, H, lhA, ?_, rfl⟩ | refine ⟨[_], ⟨rfl, trivial⟩, _, Le.refl _, ?_, rfl⟩
 first | rfl | (simp; done) | (simp; rfl)
set_option maxRecDepth 100000 in
set_option maxHeartbeats 1000000 in
theorem arm_nil (H : Hp) (dev : Int) : CallH Try.prog 29 #[.pointer none, .int .i64 dev] H (fun v H' => v = errV (some 3) ∧ H' = H) := by
 refine zam (l := [_, _]) (rl := [.tmp 4]) (n := 22) Try.func29 rfl rfl rfl rfl rfl ?_
 refine yaa ?_
 refine zac (fun K1 hK1 => ?_)
 refine zaa ?_
 refine zaj rfl ?_
 refine zad ?_
 refine yab ?_
 refine hK1 _ _ ?_; try clear hK1 K1
 refine zac (fun K2 hK2 => ?_)
 refine zaB ?_
 refine zac (fun K3 hK3 => ?_)
 refine zaa ?_
 refine zah rfl ?_
 refine zab (fun K hK r => ?_)
 refine yan ?_
 rw [e_eql _ _ _ _ (by simp)]
 rw [zaM]
 first | rw [q_ptr_nil _ _ _ Try.underlying47] | rw [q_nil_ptr _ _ _ Try.underlying47]
 refine yaf ?_
 refine hK _ _ ?_; clear hK K
 refine zaj rfl ?_
 refine zad ?_
 refine yab ?_
 refine hK3 _ _ ?_; try clear hK3 K3
 refine zar (fun r => rfl) (fun c5 => ?_) (fun c5 => ?_)
 rotate_left; exfalso; exact cnA c5
 refine zac (fun K4 hK4 => ?_)
 refine zaa ?_
 refine zab (fun K hK r => ?_)
 refine yaF ?_
 refine hK _ _ ?_; clear hK K
 refine zaj rfl ?_
 refine zad ?_
 refine yab ?_
 refine hK4 _ _ ?_; try clear hK4 K4
 refine zaz ?_
 refine yab ?_
 first | refine ⟨[_], ⟨rfl, trivial⟩, H, lhA, ?_, rfl⟩ | refine ⟨[_], ⟨rfl, trivial⟩, _, Le.refl _, ?_, rfl⟩
 first | rfl | (simp; done) | (simp; rfl)
set_option maxRecDepth 100000 in
set_option maxHeartbeats 1000000 in
theorem crash_nil (H : Hp) (kv : Value) (hk : plainCell kv = true) : CallH Try.prog 26 #[.pointer none, kv] H (fun _ H' => H' = H) := by
 refine zam (l := [_, _]) (rl := []) (n := 30) Try.func26 rfl rfl rfl rfl rfl ?_
 refine yaa ?_
 refine zac (fun K1 hK1 => ?_)
 refine zaa ?_
 refine zab (fun K hK r => ?_)
 refine yaW ?_
 intro b3 hb3
 have f3_H : H b3 = none := zag lhA hb3
 refine yaf ?_
 refine hK _ _ ?_; clear hK K
 refine zad ?_
 refine yab ?_
 refine hK1 _ _ ?_; try clear hK1 K1
 refine zac (fun K2 hK2 => ?_)
 refine zac (fun K3 hK3 => ?_)
 refine zaa ?_
 refine zah rfl ?_
 refine zab (fun K hK r => ?_)
 refine yan ?_
 rw [e_eql _ _ _ _ (by simp)]
 rw [zaM]
 first | rw [q_ptr_nil _ _ _ Try.underlying47] | rw [q_nil_ptr _ _ _ Try.underlying47]
 refine yaf ?_
 refine hK _ _ ?_; clear hK K
 refine zad ?_
 refine yab ?_
 refine hK3 _ _ ?_; try clear hK3 K3
 refine zar (fun r => rfl) (fun c7 => ?_) (fun c7 => ?_)
 rotate_left; exfalso; exact cnA c7
 refine zaz ?_
 refine yab ?_
 exact ⟨[], trivial, H, lhA, rfl⟩
set_option maxRecDepth 100000 in
set_option maxHeartbeats 1000000 in
theorem save_nilB (H : Hp) (m : Mf) (ma : Option Addr) (mc : Nat) (hm : Holds H 1 (.slice ma m.hd.length mc) m.hd.length (i64s m.hd)) (hml : m.hd.length ≤ 1000000) (hgd : m.good = false) : CallH Try.prog 22 #[.pointer none, .agg #[.int .i64 m.gen, .int .i64 m.ep, .int .i64 m.ba, .int .i64 m.ar, .int .i64 m.ln, .slice ma m.hd.length mc]] H (fun v H' => v = errV (some 2) ∧ Le H H') := by
 refine zam (l := [_, _]) (rl := [.tmp 4]) (n := 33) Try.func22 rfl rfl rfl rfl rfl ?_
 refine yaa ?_
 have hsl := m.seal_len
 have hsl2 := m.sec.h
 have hbd : m.bad = some 2 := by unfold Mf.bad; rw [if_neg (by rw [hgd]; simp)]
 refine zac (fun K1 hK1 => ?_)
 refine zaa ?_
 refine zab (fun K hK r => ?_)
 refine yaW ?_
 intro b3 hb3
 have f3_H : H b3 = none := zag lhA hb3
 refine yaf ?_
 refine hK _ _ ?_; clear hK K
 refine zaj rfl ?_
 refine zad ?_
 refine yab ?_
 refine hK1 _ _ ?_; try clear hK1 K1
 refine zac (fun K2 hK2 => ?_)
 refine zaa ?_
 refine zab (fun K hK r => ?_)
 refine yap ?_
 first | refine zax Try.underlying27 rfl sz27 hbA bdA ?_ | refine zaq Try.underlying27 rfl sz27 hbA bdA ?_
 refine ybg ?_
 refine yaf ?_
 refine hK _ _ ?_; clear hK K
 refine zab (fun K hK r => ?_)
 refine ybG ?_
 refine (mSeal_ok _ m ma mc (hm.le lhA) hml).mono ?_
 rintro v10 H10 ⟨rfl, l10⟩
 rw [hbd]
 have lH10 : Le H H10 := Le.trans (le_upd _ _ _ hb3) l10
 refine yaf ?_
 refine hK _ _ ?_; clear hK K
 refine zah rfl ?_
 refine zab (fun K hK r => ?_)
 refine yah ?_
 refine hK _ _ ?_; clear hK K
 refine zab (fun K hK r => ?_)
 refine yah ?_
 refine hK _ _ ?_; clear hK K
 refine zab (fun K hK r => ?_)
 refine yaX ?_
 intro b5 hb5
 try have n5_b3 : b3 ≠ b5 := zaf hbA hb5
 have f5_H : H b5 = none := zag lhA hb5
 refine yaf ?_
 refine hK _ _ ?_; clear hK K
 refine zaI rfl (zas) (fun K hK r => ?_)
 refine yaD ?_
 first | refine zak sz30 bdA hbA bdA plA (by decide) ?_ | refine zal sz30 bdA hbA bdA plA (by decide) ?_
 refine yaf ?_
 refine hK _ _ ?_; clear hK K
 refine zaj rfl ?_
 refine zad ?_
 refine yab ?_
 refine hK2 _ _ ?_; try clear hK2 K2
 refine zac (fun K3 hK3 => ?_)
 refine zaB ?_
 refine zac (fun K4 hK4 => ?_)
 refine zaa ?_
 refine zah rfl ?_
 refine zab (fun K hK r => ?_)
 refine yae ?_
 first | rw [b_err_neq _ _ Try.underlying32] | (rw [e_neq _ _ _ _ (by simp), zaM]; first | rw [q_iface_nil _ _ _ Try.underlying32] | rw [q_nil_iface _ _ _ Try.underlying32] | rw [q_nil_nil _ _ _ Try.underlying32])
 refine yaf ?_
 refine hK _ _ ?_; clear hK K
 refine zaj rfl ?_
 refine zad ?_
 refine yab ?_
 refine hK4 _ _ ?_; try clear hK4 K4
 refine zar (fun r => rfl) (fun c13 => ?_) (fun c13 => ?_)
 rotate_left; exfalso; exact cnA c13
 refine zac (fun K5 hK5 => ?_)
 refine zaa ?_
 refine zah rfl ?_
 refine zaj rfl ?_
 refine zad ?_
 refine yab ?_
 refine hK5 _ _ ?_; try clear hK5 K5
 refine zaz ?_
 refine yab ?_
 exact ⟨[_], ⟨rfl, trivial⟩, _, Le.refl _, rfl, lhA⟩
def SV (v : Value) (Q K F : Hp) (p : Nat) (s : St) : Prop := (v = ptrV p ∧ Stn Q K F p s) ∨ (v = .pointer none ∧ Le Q K ∧ F = emptyHp ∧ s.sz 0 < 2)
theorem SV.old {v : Value} {Q K F : Hp} {p : Nat} {s : St} (h : SV v Q K F p s) : Le Q K := by
  rcases h with ⟨_, h⟩ | ⟨_, h, _⟩
  · exact h.old
  · exact h
theorem SV.le {v : Value} {Q K F : Hp} {p : Nat} {s : St} (h : SV v Q K F p s) : Le F K := by
  rcases h with ⟨_, h⟩ | ⟨_, _, h, _⟩
  · exact h.le
  · rw [h]; exact zaN _
theorem SV.ap {v : Value} {Q K F : Hp} {p : Nat} {s : St} (h : SV v Q K F p s) : ∀ b, Q b ≠ none → F b = none := by
  rcases h with ⟨_, h⟩ | ⟨_, _, h, _⟩
  · exact h.ap
  · rw [h]; exact fun _ _ => rfl
theorem SV.less {v : Value} {Q Q' K F : Hp} {p : Nat} {s : St} (h : SV v Q K F p s) (l : Le Q' Q) : SV v Q' K F p s := by
  rcases h with ⟨e, h⟩ | ⟨e, h, h2, h3⟩
  · exact .inl ⟨e, h.less l⟩
  · exact .inr ⟨e, Le.trans l h, h2, h3⟩
theorem SV.more {v : Value} {Q K K' F : Hp} {p : Nat} {s : St} (h : SV v Q K F p s) (l : Le K K') : SV v Q K' F p s := by
  rcases h with ⟨e, h⟩ | ⟨e, h, h2, h3⟩
  · exact .inl ⟨e, h.more l⟩
  · exact .inr ⟨e, Le.trans h l, h2, h3⟩
theorem SV.put {v : Value} {Q K F : Hp} {p : Nat} {s : St} (h : SV v Q K F p s) {b : Nat} (hb : K b = none) (o : Obj) : SV v (Q.upd b o) (K.upd b o) F p s := by
  rcases h with ⟨e, h⟩ | ⟨e, h, h2, h3⟩
  · exact .inl ⟨e, h.put (h.fresh hb) o⟩
  · refine .inr ⟨e, fun x o' hx => ?_, h2, h3⟩
    by_cases hxb : x = b
    · rw [hxb, zan] at hx ⊢; exact hx
    · rw [zap _ _ hxb] at hx ⊢; exact h x o' hx
theorem SV.with {v : Value} {Q K F : Hp} {p : Nat} {s : St} (h : SV v Q K F p s) {b : Nat} {o : Obj} (hK : K b = some o) (hF : F b = none) : SV v (Q.upd b o) K F p s := by
  rcases h with ⟨e, h⟩ | ⟨e, h, h2, h3⟩
  · exact .inl ⟨e, h.with hK hF⟩
  · exact .inr ⟨e, le_put h hK, h2, h3⟩
theorem SV.side {v : Value} {H K F : Hp} {p : Nat} {s : St} (h : SV v H K F p s) {G K' : Hp} (lG : Le G K') (hk : ∀ b o, K b = some o → H b = none → K' b = some o ∧ G b = none) : SV v G K' F p s := by
  rcases h with ⟨e, h⟩ | ⟨e, h, h2, h3⟩
  · exact .inl ⟨e, h.side lG hk⟩
  · exact .inr ⟨e, lG, h2, h3⟩
theorem SV.off {v : Value} {H K F : Hp} {p : Nat} {s : St} (h : SV v H K F p s) {b : Nat} (hF : F b = none) (hH : H b = none) (o : Obj) : SV v H (K.upd b o) F p s := by
  rcases h with ⟨e, h⟩ | ⟨e, h, h2, h3⟩
  · exact .inl ⟨e, h.off hF hH o⟩
  · exact .inr ⟨e, zaw h hH, h2, h3⟩
theorem SV.plain {v : Value} {Q K F : Hp} {p : Nat} {s : St} (h : SV v Q K F p s) : plainCell v = true := by
  rcases h with ⟨rfl, _⟩ | ⟨rfl, _⟩ <;> rfl
theorem saveX {v : Value} {Q H F : Hp} {p : Nat} {s : St} (hA : SV v Q H F p s) {n : Nat} (hs : Sm n s) (hn : n ≤ 100000) (m : Mf) (ma : Option Addr) (mc : Nat) (hm : Holds H 1 (.slice ma m.hd.length mc) m.hd.length (i64s m.hd)) (hml : m.hd.length ≤ 1000000) : CallH Try.prog 22 #[v, .agg #[.int .i64 m.gen, .int .i64 m.ep, .int .i64 m.ba, .int .i64 m.ar, .int .i64 m.ln, .slice ma m.hd.length mc]] H (fun v' H' => v' = errV (s.saveM m).2 ∧ ∃ F', SV v Q H' F' p (s.saveM m).1) := by
  rcases hA with ⟨rfl, h⟩ | ⟨rfl, h, h2, h3⟩
  · exact (saveL h hs hn m ma mc hm hml).mono (fun v' H' ⟨e, F', hS⟩ => ⟨e, F', .inl ⟨rfl, hS⟩⟩)
  · cases hg : m.good with
    | true => exact (save_nil H m ma mc hm hml hg).mono (fun v' H' ⟨e, l⟩ => by rw [saveM_few hg h3]; exact ⟨e, F, .inr ⟨rfl, Le.trans h l, h2, h3⟩⟩)
    | false => exact (save_nilB H m ma mc hm hml hg).mono (fun v' H' ⟨e, l⟩ => by rw [saveM_no hg]; exact ⟨e, F, .inr ⟨rfl, Le.trans h l, h2, h3⟩⟩)
theorem loadX {v : Value} {Q H F : Hp} {p : Nat} {s : St} (hA : SV v Q H F p s) {n : Nat} (hs : Sm n s) (hn : n ≤ 100000) (hby : ∀ k : Nat, k < 2 → ByteL (s.rd 0 k).1.b) : CallH Try.prog 30 #[v] H (fun v H' => Le H H' ∧ ∃ x rs, v = .tuple #[.agg #[.int .i64 s.loadM.1.gen, .int .i64 s.loadM.1.ep, .int .i64 s.loadM.1.ba, .int .i64 s.loadM.1.ar, .int .i64 s.loadM.1.ln, x], errV s.loadM.2] ∧ OwnS H' 3 1 x s.loadM.1.hd.length (i64s s.loadM.1.hd) rs ∧ ∀ r, rs = some r → H r = none) := by
  rcases hA with ⟨rfl, h⟩ | ⟨rfl, h, h2, h3⟩
  · exact loadL h hs hn hby
  · refine (load_nil H).mono (fun v' H' hh => ?_)
    obtain ⟨e, e2⟩ := hh
    have hld : s.loadM = (zM, some 1) := by unfold St.loadM; rw [if_pos h3]
    rw [hld]
    subst e2
    exact ⟨Le.refl _, .slice none 0 0, none, e, OwnS.nil _ _ _, fun r hr => by cases hr⟩
theorem writeX {v : Value} {Q K F : Hp} {p : Nat} {s : St} (hA : SV v Q K F p s) {n : Nat} (hs : Sm n s) (hn : n ≤ 1000000) (i : Int) (x : Sec) : CallH Try.prog 24 #[v, .int .i64 0, .int .i64 i, x.v] K (fun v' K' => ∃ e t F', v' = errV e ∧ SV v Q K' F' p t ∧ ((e = (s.wr 0 i x).2 ∧ t = (s.wr 0 i x).1) ∨ (e = some 3 ∧ t = s ∧ s.sz 0 < 2))) := by
  rcases hA with ⟨rfl, h⟩ | ⟨rfl, h, h2, h3⟩
  · exact (writeL h hs hn 0 i x).mono (fun v' H' ⟨e, F', hS⟩ => ⟨_, _, F', e, .inl ⟨rfl, hS⟩, .inl ⟨rfl, rfl⟩⟩)
  · refine (write_nil K 0 i x).mono (fun v' H' hh => ?_)
    obtain ⟨e, e2⟩ := hh
    subst e2
    exact ⟨_, _, F, e, .inr ⟨rfl, h, h2, h3⟩, .inr ⟨rfl, rfl, h3⟩⟩
theorem armX {v : Value} {Q K F : Hp} {p : Nat} {s : St} (hA : SV v Q K F p s) (n : Int) (hn : 0 ≤ n) : CallH Try.prog 29 #[v, .int .i64 n] K (fun v' K' => ∃ e t F', v' = errV e ∧ SV v Q K' F' p t ∧ ((e = none ∧ t = { s with armed := true, left := n }) ∨ (e = some 3 ∧ t = s ∧ s.sz 0 < 2))) := by
  rcases hA with ⟨rfl, h⟩ | ⟨rfl, h, h2, h3⟩
  · refine (armL h n).mono (fun v' H' hh => ?_)
    obtain ⟨e, F', hS⟩ := hh
    rw [if_neg (by omega)] at hS e
    exact ⟨_, _, F', e, .inl ⟨rfl, hS⟩, .inl ⟨rfl, rfl⟩⟩
  · refine (arm_nil K n).mono (fun v' H' hh => ?_)
    obtain ⟨e, e2⟩ := hh
    subst e2
    exact ⟨_, _, F, e, .inr ⟨rfl, h, h2, h3⟩, .inr ⟨rfl, rfl, h3⟩⟩
theorem crashX {v : Value} {Q K F : Hp} {p : Nat} {s : St} (hA : SV v Q K F p s) {n : Nat} (hs : Sm n s) (hn : n ≤ 1000000) {G : Hp} (hG : Le G K) (hGF : ∀ x, G x ≠ none → F x = none) (hGQ : ∀ x, G x ≠ none → Q x = none) (a : Option Addr) (cap : Nat) (l : List Kp) (hv : Holds G 3 (.slice a l.length cap) l.length (kps l)) (hl : l.length ≤ 1000) : CallH Try.prog 26 #[v, .slice a l.length cap] K (fun _ K' => ∃ t F', SV v Q K' F' p t ∧ (t = s.cr l ∨ (t = s ∧ s.sz 0 < 2))) := by
  rcases hA with ⟨rfl, h⟩ | ⟨rfl, h, h2, h3⟩
  · exact (crashL h hs hn hG hGF hGQ a cap l hv hl).mono (fun v' H' ⟨F', hS⟩ => ⟨_, F', .inl ⟨rfl, hS⟩, .inl rfl⟩)
  · exact (crash_nil K _ rfl).mono (fun v' H' e => by subst e; exact ⟨_, F, .inr ⟨rfl, h, h2, h3⟩, .inr ⟨rfl, h3⟩⟩)
end Go.Proofs.Ytigofhhonnbkmaa.HL
end
section
namespace Go.Proofs.Ytigofhhonnbkmaa.HL
open Go Go.Proofs
set_option linter.unusedSimpArgs false
set_option linter.unusedVariables false
attribute [local irreducible] Lt Lq CW OW TW CallH
theorem wr_szE (s : St) (dev i : Int) (x : Sec) (z : Int) : (s.wr dev i x).1.sz z = s.sz z := by
  rcases wr_cases s dev i x with ⟨e, _⟩ | ⟨e, _⟩ | ⟨e, _⟩
  · rw [e]
  · rw [e]; unfold St.sz; rw [step_dv]
  · rw [e]
    unfold St.sz
    show (if 0 ≤ z ∧ z < ((s.dv.set dev.toNat _).length : Int) then ((s.dv.set dev.toNat _).getD z.toNat default).size else 0) = _
    rw [List.length_set]
    by_cases h : 0 ≤ z ∧ z < s.dv.length
    · rw [if_pos h, if_pos h, getD_set]
      split
      · rename_i e2; rw [e2.1]; rfl
      · rfl
    · rw [if_neg h, if_neg h]
theorem fl_szE (s : St) (dev : Int) (z : Int) : (s.fl dev).1.sz z = s.sz z := by
  rcases fl_cases s dev with ⟨e, _⟩ | ⟨e, _⟩ | ⟨e, _⟩
  · rw [e]
  · rw [e]; unfold St.sz; rw [step_dv]
  · rw [e]
    unfold St.sz
    show (if 0 ≤ z ∧ z < ((s.dv.set dev.toNat _).length : Int) then ((s.dv.set dev.toNat _).getD z.toNat default).size else 0) = _
    rw [List.length_set]
    by_cases h : 0 ≤ z ∧ z < s.dv.length
    · rw [if_pos h, if_pos h, getD_set]
      split
      · rename_i e2; rw [e2.1]; rfl
      · rfl
    · rw [if_neg h, if_neg h]
theorem cr_szE (s : St) (l : List Kp) (z : Int) : (s.cr l).sz z = s.sz z := by
  unfold St.sz
  have e : (s.cr l).dv.length = s.dv.length := by simp [St.cr]
  rw [e]
  by_cases h : 0 ≤ z ∧ z < s.dv.length
  · rw [if_pos h, if_pos h]
    simp only [St.cr, List.getD_eq_getElem?_getD, List.getElem?_mapIdx, List.getElem?_eq_getElem (show z.toNat < s.dv.length by omega), Option.map_some, Option.getD_some]
    rfl
  · rw [if_neg h, if_neg h]
theorem saveM_szE (s : St) (m : Mf) (z : Int) : (s.saveM m).1.sz z = s.sz z := by
  rcases s.saveM_cases m with e | e | e | e <;> rw [e]
  · exact wr_szE _ _ _ _ _
  · rw [fl_szE, wr_szE]
theorem BS.crA {s : St} (h : BS s) (l : List Kp) : BS (s.cr l) := by
  by_cases hl : 0 < s.dv.length
  · exact h.cr l hl
  · have : s.dv = [] := List.eq_nil_of_length_eq_zero (by omega)
    have hd : (s.cr l).dv = [] := by simp [St.cr, this]
    exact ⟨by rw [hd]; exact fun z => zero_byte, by rw [hd]; exact fun w hw => by cases hw⟩
structure RS (k : Nat) (s : St) (m : RSt) : Prop where
  sm : Sm k s
  bs : BS s
  pr : ∃ s', PR k s' m ∧ (s = s' ∨ (s.sz 0 < 2 ∧ s'.sz 0 < 2))
theorem RS.up {k n : Nat} {s : St} {m : RSt} (h : RS k s m) (hn : k ≤ n) : RS n s m := by
  obtain ⟨s', h1, h2⟩ := h.pr
  exact ⟨h.sm.up hn, h.bs, s', h1.up hn, h2⟩
theorem RS.save {k : Nat} {s : St} {m : RSt} (h : RS k s m) (x : Mf) : RS (k + 1) (s.saveM x).1 (m.saveM x).1 ∧ (m.saveM x).2 = (s.saveM x).2.getD 0 := by
  obtain ⟨s', h1, h2⟩ := h.pr
  obtain ⟨p1, p2⟩ := h1.saveM x
  rcases h2 with rfl | ⟨a, b⟩
  · exact ⟨⟨h.sm.saveM x, h.bs.saveM x, s.saveM x |>.1, p1, .inl rfl⟩, p2⟩
  · refine ⟨⟨h.sm.saveM x, h.bs.saveM x, _, p1, .inr ⟨by rw [saveM_szE]; exact a, by rw [saveM_szE]; exact b⟩⟩, ?_⟩
    rw [p2]
    cases hg : x.good with
    | false => rw [saveM_no hg, saveM_no hg]
    | true => rw [saveM_few hg a, saveM_few hg b]
theorem RS.crash {k : Nat} {s t : St} {m : RSt} (h : RS k s m) (l : List Kp) (ht : t = s.cr l ∨ (t = s ∧ s.sz 0 < 2)) : RS k t (m.cr l) := by
  obtain ⟨s', h1, h2⟩ := h.pr
  have p1 := h1.crash l
  rcases ht with rfl | ⟨rfl, hs⟩
  · refine ⟨h.sm.cr l, h.bs.crA l, _, p1, ?_⟩
    rcases h2 with rfl | ⟨a, b⟩
    · exact .inl rfl
    · exact .inr ⟨by rw [cr_szE]; exact a, by rw [cr_szE]; exact b⟩
  · refine ⟨h.sm, h.bs, _, p1, .inr ⟨hs, ?_⟩⟩
    rw [cr_szE]
    rcases h2 with rfl | ⟨a, b⟩
    · exact hs
    · exact b
theorem RS.arm {k : Nat} {s : St} {m : RSt} (h : RS k s m) {n : Int} (h0 : 0 ≤ n) (h1 : n ≤ 9223372036854775807) : RS k { s with armed := true, left := n } { m with armed := true, left := n } := by
  obtain ⟨s', p1, h2⟩ := h.pr
  refine ⟨h.sm.of_dv rfl, h.bs.congr rfl, _, p1.arm h0 h1, ?_⟩
  rcases h2 with rfl | ⟨a, b⟩
  · exact .inl rfl
  · exact .inr ⟨a, b⟩
theorem RS.put {k : Nat} {s t : St} {m : RSt} (h : RS k s m) {i : Int} {x : Sec} (hx : ByteL x.b) {e : Option Int} (ht : (e = (s.wr 0 i x).2 ∧ t = (s.wr 0 i x).1) ∨ (e = some 3 ∧ t = s ∧ s.sz 0 < 2)) : RS (k + 1) t (m.put 0 i x).1 := by
  obtain ⟨s', p1, h2⟩ := h.pr
  have p2 := p1.put 0 i x
  rcases ht with ⟨_, rfl⟩ | ⟨_, rfl, hs⟩
  · refine ⟨h.sm.wr _ _ _, h.bs.wr _ hx, _, p2, ?_⟩
    rcases h2 with rfl | ⟨a, b⟩
    · exact .inl rfl
    · exact .inr ⟨by rw [wr_szE]; exact a, by rw [wr_szE]; exact b⟩
  · refine ⟨h.sm.up (by omega), h.bs, _, p2, .inr ⟨hs, ?_⟩⟩
    rw [wr_szE]
    rcases h2 with rfl | ⟨a, b⟩
    · exact hs
    · exact b
theorem RS.skip {k : Nat} {s t : St} {m : RSt} (h : RS k s m) {i : Int} {x : Sec} (hx : ByteL x.b) {e : Option Int} (ht : (e = (s.wr 0 i x).2 ∧ t = (s.wr 0 i x).1) ∨ (e = some 3 ∧ t = s ∧ s.sz 0 < 2)) (hm : m.sz0 < 2) : RS (k + 1) t m := by
  obtain ⟨s', p1, h2⟩ := h.pr
  have hz := p1.sz0.1
  have hs : s.sz 0 < 2 := by
    rcases h2 with rfl | ⟨a, b⟩
    · omega
    · exact a
  rcases ht with ⟨_, rfl⟩ | ⟨_, rfl, _⟩
  · exact ⟨h.sm.wr _ _ _, h.bs.wr _ hx, _, p1.up (by omega), .inr ⟨by rw [wr_szE]; exact hs, by omega⟩⟩
  · exact (h.up (by omega))
theorem RS.load {k : Nat} {s : St} {m : RSt} (h : RS k s m) : ∃ s', PR k s' m ∧ s'.loadM = s.loadM ∧ (∀ j : Nat, j < 2 → m.sz0 < 2 ∨ ByteL (s'.rd 0 j).1.b) := by
  obtain ⟨s', p1, h2⟩ := h.pr
  refine ⟨s', p1, ?_, fun j hj => ?_⟩
  · rcases h2 with rfl | ⟨a, b⟩
    · rfl
    · unfold St.loadM; rw [if_pos a, if_pos b]
  · rcases h2 with rfl | ⟨a, b⟩
    · exact .inr (h.bs.rd _)
    · exact .inl (by rw [← p1.sz0.1]; exact b)
theorem RS.new (l : List Int) (h : goodN l = true) : RS 0 (newSt l) (newRs l) := ⟨(PR.new h).sm, BS.newL l, _, PR.new h, .inl rfl⟩
theorem PR.zero : PR 0 (newSt []) (newRs []) := ⟨⟨rfl, rfl, rfl, fun h => (by cases h), rfl, fun i hi => by simp [newRs] at hi⟩, Sm.new (by simp), fun i hi => by simp [newRs] at hi, fun h => by cases h⟩
theorem RS.zero : RS 0 (newSt []) (newRs []) := ⟨PR.zero.sm, BS.newL [], _, PR.zero, .inl rfl⟩
theorem RX.zero (H : Hp) : RX H none 0 [] := ⟨⟨rfl, .inl ⟨none, 0, rfl, rfl⟩⟩, fun x hx => by cases hx⟩
theorem RS.rg {k : Nat} {s : St} {m : RSt} (h : RS k s m) {X : List RDX} (hm : m.dv = rdv X) : (∀ i, i < X.length → RG k (X.getD i default).d) ∧ (∀ i, (m.dv.getD i default).wait.length ≤ k) ∧ X.length ≤ 5 := by
  obtain ⟨s', p1, _⟩ := h.pr
  exact ⟨p1.rg hm, p1.wt, (p1.len hm).1⟩
end Go.Proofs.Ytigofhhonnbkmaa.HL
end
section
namespace Go.Proofs.Ytigofhhonnbkmaa.HL
open Go Go.Proofs
set_option linter.unusedSimpArgs false
set_option linter.unusedVariables false
attribute [local irreducible] Lt Lq CW OW TW CallH
theorem mod_any (x k : Int) (hk : 0 < k) (hk2 : k ≤ 100000) : ∃ o : Int, IntKind.i64.wrap ((IntKind.u64.wrap x).tmod k) = o ∧ 0 ≤ o ∧ o < k := by
  have h0 : 0 ≤ IntKind.u64.wrap x := by rw [u64_def]; omega
  have e : (IntKind.u64.wrap x).tmod k = (IntKind.u64.wrap x) % k := Int.tmod_eq_emod_of_nonneg h0
  have h1 := Int.emod_nonneg (IntKind.u64.wrap x) (show k ≠ 0 by omega)
  have h2 := Int.emod_lt_of_pos (IntKind.u64.wrap x) hk
  rw [← e] at h1 h2
  exact ⟨_, wrap_i64 _ (by omega) (by omega), h1, h2⟩
structure BP (H0 Q K F : Hp) (v : Value) (p : Nat) (s : St) (a : Option Addr) (cap : Nat) (X : List RDX) (m : RSt) (n b : Nat) : Prop where
  old : Le H0 Q
  st : SV v Q K F p s
  rx : RX Q a cap X
  dv : m.dv = rdv X
  rs : RS n s m
  q : Q b = none
  f : F b = none
  box : K b = some (.cells (m.c (.slice a X.length cap)).toArray 52)
theorem BP.fin {H0 Q K F : Hp} {v : Value} {p : Nat} {s : St} {a : Option Addr} {cap : Nat} {X : List RDX} {m : RSt} {n b : Nat} (h1 : Le H0 Q) (h2 : SV v Q K F p s) (h3 : RX Q a cap X) (h4 : m.dv = rdv X) (h5 : RS n s m) (h6 : Q b = none) (h7 : F b = none) : BP H0 Q (K.upd b (.cells (m.c (.slice a X.length cap)).toArray 52)) F v p s a cap X m n b := ⟨h1, h2.off h7 h6 _, h3, h4, h5, h6, h7, zan _ _ _⟩
theorem newX (H : Hp) (a : Option Addr) (cap : Nat) (l : List Int) (hv : Holds H 1 (.slice a l.length cap) l.length (l.map (Value.int .i64))) (hl : l.length ≤ 1000) : CallH Try.prog 19 #[.slice a l.length cap] H (fun v H' => ∃ sv p F s e, v = .tuple #[sv, errV e] ∧ SV sv H H' F p s ∧ ((goodN l = true ∧ s = newSt l ∧ e = none) ∨ (goodN l = false ∧ s = newSt [] ∧ e = some 1))) := by
  cases hg : goodN l with
  | true =>
    refine (newL H a cap l hv hg hl).mono (fun v H' hh => ?_)
    obtain ⟨p, F, e, h⟩ := hh
    exact ⟨_, p, F, _, none, e, .inl ⟨rfl, h⟩, .inl ⟨rfl, rfl, rfl⟩⟩
  | false =>
    refine (new_ok H a cap l hv hl).mono (fun v H' hh => ?_)
    rcases hh with ⟨_, e, e2⟩ | ⟨h, _⟩
    · subst e2
      exact ⟨_, 0, emptyHp, newSt [], some 1, e, .inr ⟨rfl, Le.refl _, rfl, by decide⟩, .inr ⟨rfl, rfl, rfl⟩⟩
    · rw [hg] at h; cases h
theorem rnewX (H : Hp) (a : Option Addr) (cap : Nat) (l : List Int) (hv : Holds H 1 (.slice a l.length cap) l.length (l.map (Value.int .i64))) (hl : l.length ≤ 1000) {s : St} {e : Option Int} (hs : (goodN l = true ∧ s = newSt l ∧ e = none) ∨ (goodN l = false ∧ s = newSt [] ∧ e = some 1)) : CallH Try.prog 20 #[.slice a l.length cap] H (fun v H' => ∃ (m : RSt) (a' : Option Addr) (cap' : Nat) (X : List RDX), v = .tuple #[m.v (.slice a' X.length cap'), .int .i64 (e.getD 0)] ∧ Le H H' ∧ RX H' a' cap' X ∧ m.dv = rdv X ∧ RS 0 s m) := by
  refine (rnew_ok H a cap l hv hl).mono (fun v H' hh => ?_)
  rcases hh with ⟨h1, h2, h3⟩ | ⟨h1, h2, a', cap', X, h3, h4, h5⟩
  · rcases hs with ⟨h, _⟩ | ⟨_, rfl, rfl⟩
    · rw [h1] at h; cases h
    · subst h3
      exact ⟨newRs [], none, 0, [], h2, Le.refl _, RX.zero _, rfl, RS.zero⟩
  · rcases hs with ⟨_, rfl, rfl⟩ | ⟨h, _⟩
    · exact ⟨newRs l, a', cap', X, h3, h2, h4, h5, RS.new l h1⟩
    · rw [h1] at h; cases h
theorem ycG {p q : Prop} (h : q) (e : p = q := by simp only [zao, fa58_1, zaH, Nat.reduceAdd, Nat.zero_add, eX, ↓reduceIte, Nat.reduceEqDiff, Int.reduceToNat]; exact rfl) : p := e.mpr h
theorem ycH {p q : Prop} (h : q) (e : p = q := by simp (disch := (first | omega | decide)) only [x_convert, c_int _ _ _ _ Try.underlying3 Try.underlying62, wrap_i64, wrap_u64, wrap_u32, wrap_u8, eX, ↓reduceIte, Nat.reduceEqDiff, Int.reduceToNat]; exact rfl) : p := e.mpr h
theorem ycI {p q : Prop} (h : q) (e : p = q := by simp (disch := (first | omega | decide)) only [x_convert, c_int _ _ _ _ Try.underlying62 Try.underlying3, wrap_i64, wrap_u64, wrap_u32, wrap_u8, eX, ↓reduceIte, Nat.reduceEqDiff, Int.reduceToNat]; exact rfl) : p := e.mpr h
theorem ycJ {p q : Prop} (h : q) (e : p = q := by simp only [zao, fa58_3, zaH, Nat.reduceAdd, Nat.zero_add, eX, ↓reduceIte, Nat.reduceEqDiff, Int.reduceToNat]; exact rfl) : p := e.mpr h
set_option maxRecDepth 100000 in
set_option maxHeartbeats 16000000 in
theorem lawPlays (H : Hp) (a0 : Option Addr) (cap0 : Nat) (l0 : List Int) (hv0 : Holds H 1 (.slice a0 l0.length cap0) l0.length (i64s l0)) (hl0 : l0.length ≤ 9223372036854775807) (a : Option Addr) (cap : Nat) (l : List Op15) (hv : Holds H 73 (.slice a l.length cap) l.length (ops15 l)) (ho : ∀ x ∈ l, x.ok H ∧ ByteL x.x.b) : CallH Try.prog 5 #[.slice a0 l0.length cap0, .slice a l.length cap] H (fun v H' => v = .bool true ∧ Le H H') := by
 refine zam (l := [_, _]) (rl := [.tmp 4]) (n := 194) Try.func5 rfl rfl rfl rfl rfl ?_
 refine yaa ?_
 refine zac (fun K1 hK1 => ?_)
 refine zaa ?_
 refine zaj rfl ?_
 refine zad ?_
 refine yab ?_
 refine hK1 _ _ ?_; try clear hK1 K1
 refine zac (fun K2 hK2 => ?_)
 refine zac (fun K3 hK3 => ?_)
 refine zaa ?_
 refine zab (fun K hK r => ?_)
 simp only [zaF _ bd7, List.map_toArray, List.map_cons, List.map_nil, eX, ↓reduceIte, Nat.reduceEqDiff, Int.reduceToNat]
 refine (alive_ok _).mono ?_
 rintro v21 H' ⟨rfl, hq⟩
 have hq := hq.symm
 subst hq
 refine yaf ?_
 refine hK _ _ ?_; clear hK K
 refine zab (fun K hK r => ?_)
 refine yam ?_
 refine hK _ _ ?_; clear hK K
 refine zad ?_
 refine yab ?_
 refine hK3 _ _ ?_; try clear hK3 K3
 refine zar (fun r => rfl) (fun c22 => ?_) (fun c22 => ?_)
 ·exfalso; exact cnA c22
 refine zau ?_
 refine yab ?_
 refine hK2 _ _ ?_; try clear hK2 K2
 refine zac (fun K4 hK4 => ?_)
 refine zac (fun K5 hK5 => ?_)
 refine zaa ?_
 refine zah rfl ?_
 refine zab (fun K hK r => ?_)
 simp only [zaF _ bd18, List.map_toArray, List.map_cons, List.map_nil, eX, ↓reduceIte, Nat.reduceEqDiff, Int.reduceToNat]
 refine (long_ok _ a cap l hv (fun x hx => (ho x hx).1)).mono ?_
 rintro v24 H' ⟨tl, rfl, hsh, hq⟩
 have hq := hq.symm
 subst hq
 refine yaf ?_
 refine hK _ _ ?_; clear hK K
 refine zah rfl ?_
 (first | refine zaA (d := 25) rfl (fun g25 => ?_) (fun g25 => ?_) | skip)
 all_goals try (exfalso; exact cnA g25)
 all_goals (try replace g25 := yad g25)
 all_goals
  refine yaf ?_
  first
  |refine yGT (fun K hK r => ?_)
   refine yai ?_
   refine hK _ _ ?_; clear hK K
  |refine yGF ?_
   refine yaj ?_
  first
  |refine yGT (fun K hK r => ?_)
   refine ybt ?_
   refine hK _ _ ?_; clear hK K
  |refine yGF ?_
   refine yaj ?_
  first
  |refine yGT (fun K hK r => ?_)
   refine yaZ ?_
   refine hK _ _ ?_; clear hK K
  |refine yGF ?_
   refine yaj ?_
  refine zab (fun K hK r => ?_)
  refine yal ?_
  refine hK _ _ ?_; clear hK K
  refine zad ?_
  refine yab ?_
  refine hK5 _ _ ?_; try clear hK5 K5
  refine zar (fun r => rfl) (fun c29 => ?_) (fun c29 => ?_)
  ·first
   |(exfalso; exact cnA c29; done)
   |skip
    skip
    refine zac (fun K6 hK6 => ?_)
    refine zaa ?_
    refine zaj rfl ?_
    refine zad ?_
    refine yab ?_
    refine hK6 _ _ ?_; try clear hK6 K6
    refine zaz ?_
    refine yab ?_
    exact ⟨[_], ⟨rfl, trivial⟩, H, lhA, rfl, Le.refl _⟩
  ·first
   |(exfalso; exact cnA c29; done)
   |skip
    have hrest : tl = false ∧ l0.length ≤ 5 := by first | exact ⟨by assumption, by omega⟩ | (simp only [decide_eq_false_iff_not] at c29; exact ⟨by simpa using g25, by omega⟩) | (cases c29; done)
    have hsh1 := hsh hrest.1
    have hl41 := hsh1.1
    have hsh2 := hsh1.2
    have hl5a := hrest.2
    refine zau ?_
    refine yab ?_
    refine hK4 _ _ ?_; try clear hK4 K4
    refine zac (fun K7 hK7 => ?_)
    refine zac (fun K8 hK8 => ?_)
    refine zaa ?_
    refine zah rfl ?_
    refine zab (fun K hK r => ?_)
    refine ybt ?_
    refine hK _ _ ?_; clear hK K
    refine zah rfl ?_
    refine zad ?_
    refine yab ?_
    refine hK8 _ _ ?_; try clear hK8 K8
    refine zaB ?_
    refine CW_loop (fun m_ e H_ => ∃ k : Nat, k ≤ l0.length ∧ m_ = l0.length - k ∧ H_ = H ∧ Env.has [(0, .slice a0 l0.length cap0), (1, .slice a l.length cap), (30, .slice a0 l0.length cap0), (31, .int .i64 l0.length), (32, .int .i64 k)] e) (l0.length) ?_ ?_
    ·skip
     exact ⟨0, by omega, by omega, rfl, rfl, rfl, rfl, rfl, rfl, trivial⟩
    intro m_ e_ H_ hI_
    obtain ⟨k, hk, rfl, hH_, he⟩ := hI_
    have hH_ := hH_.symm; subst hH_
    refine CW_env he.sub ?_; clear he e_
    refine zac (fun K9 hK9 => ?_)
    refine zaa ?_
    refine zab (fun K hK r => ?_)
    refine yac ?_
    refine hK _ _ ?_; clear hK K
    refine zad ?_
    refine yab ?_
    refine hK9 _ _ ?_; try clear hK9 K9
    refine zac (fun K10 hK10 => ?_)
    refine zar (fun r => rfl) (fun c33 => ?_) (fun c33 => ?_)
    ·first
     |(exfalso; exact cnA c33; done)
     |skip
      (try replace c33 := yad c33)
      obtain ⟨bw, ow, qw, Tw, Fw, rfl, hbw, hsw, atw⟩ := hv0.at (by omega)
      refine zau ?_
      refine yab ?_
      refine hK10 _ _ ?_; try clear hK10 K10
      refine zac (fun K11 hK11 => ?_)
      refine zaB ?_
      refine zac (fun K12 hK12 => ?_)
      refine zaa ?_
      refine zab (fun K hK r => ?_)
      refine yaw ?_
      refine Lt_indexS Try.underlying22 sz3 ixA ixA ?_
      refine yax ?_
      refine yaf ?_
      refine hK _ _ ?_; clear hK K
      refine zab (fun K hK r => ?_)
      refine yap ?_
      refine zae Try.underlying3 rfl hbA (v := .int .i64 (l0.getD k 0)) (by first | exact ints_at atw rfl _ (by omega) | (simp only [Int.toNat_natCast, Nat.mul_one]; exact ints_at atw rfl _ (by omega))) ?_
      refine hK _ _ ?_; clear hK K
      refine zaj rfl ?_
      refine zad ?_
      refine yab ?_
      refine hK12 _ _ ?_; try clear hK12 K12
      refine zac (fun K13 hK13 => ?_)
      refine zaa ?_
      refine zah rfl ?_
      refine zab (fun K hK r => ?_)
      refine yaZ ?_
      refine hK _ _ ?_; clear hK K
      refine zah rfl ?_
      (first | refine zaA (d := 38) rfl (fun g38 => ?_) (fun g38 => ?_) | skip)
      all_goals try (exfalso; exact cnA g38)
      all_goals (try replace g38 := yad g38)
      all_goals
       refine yaf ?_
       first
       |refine yGT (fun K hK r => ?_)
        refine yai ?_
        refine hK _ _ ?_; clear hK K
       |refine yGF ?_
        refine yaj ?_
       first
       |refine yGT (fun K hK r => ?_)
        refine yaC ?_
        refine hK _ _ ?_; clear hK K
       |refine yGF ?_
        refine yaj ?_
       refine zab (fun K hK r => ?_)
       refine yal ?_
       refine hK _ _ ?_; clear hK K
       refine zad ?_
       refine yab ?_
       refine hK13 _ _ ?_; try clear hK13 K13
       refine zar (fun r => rfl) (fun c41 => ?_) (fun c41 => ?_)
       ·first
        |(exfalso; exact cnA c41; done)
        |skip
         skip
         refine zac (fun K14 hK14 => ?_)
         refine zaa ?_
         refine zaj rfl ?_
         refine zad ?_
         refine yab ?_
         refine hK14 _ _ ?_; try clear hK14 K14
         refine zaz ?_
         refine yab ?_
         exact ⟨[_], ⟨rfl, trivial⟩, H, lhA, rfl, Le.refl _⟩
       ·first
        |(exfalso; exact cnA c41; done)
        |skip
         skip
         refine zau ?_
         refine yab ?_
         refine hK11 _ _ ?_; try clear hK11 K11
         refine zaa ?_
         refine zab (fun K hK r => ?_)
         refine yaq ?_
         refine hK _ _ ?_; clear hK K
         refine zah rfl ?_
         refine zad ?_
         refine yab ?_
         exact ⟨l0.length - (k + 1), by omega, k + 1, by omega, rfl, rfA, rfl, rfl, rfl, rfl, rfl, trivial⟩
    ·first
     |(exfalso; exact cnA c33; done)
     |skip
      (try replace c33 := yad c33)
      refine CW_exit ?_
      refine yab ?_
      refine hK7 _ _ ?_; try clear hK7 K7
      refine zac (fun K15 hK15 => ?_)
      refine zaa ?_
      refine zah rfl ?_
      refine zab (fun K hK r => ?_)
      simp only [zaF _ bd19, List.map_toArray, List.map_cons, List.map_nil, eX, ↓reduceIte, Nat.reduceEqDiff, Int.reduceToNat]
      refine (newX _ a0 cap0 l0 hv0 (by omega)).mono ?_
      rintro v45 H45 ⟨sv, p, F45, s0, e0, rfl, hA45, hs0⟩
      have lH45 := hA45.old
      have hev0 : errOk e0 := by rcases hs0 with ⟨_, _, rfl⟩ | ⟨_, _, rfl⟩ <;> (intro k hk; cases hk); decide
      have hsvp := hA45.plain
      refine yaf ?_
      refine hK _ _ ?_; clear hK K
      refine zah rfl ?_
      refine zab (fun K hK r => ?_)
      refine yah ?_
      refine hK _ _ ?_; clear hK K
      refine zab (fun K hK r => ?_)
      refine yah ?_
      refine hK _ _ ?_; clear hK K
      refine zaj rfl ?_
      refine zaj rfl ?_
      refine zad ?_
      refine yab ?_
      refine hK15 _ _ ?_; try clear hK15 K15
      refine zac (fun K16 hK16 => ?_)
      refine zaa ?_
      refine zah rfl ?_
      refine zab (fun K hK r => ?_)
      simp only [zaF _ bd20, List.map_toArray, List.map_cons, List.map_nil, eX, ↓reduceIte, Nat.reduceEqDiff, Int.reduceToNat]
      refine (CallH.use (rnewX H a0 cap0 l0 hv0 (by omega) hs0) lH45).mono ?_
      rintro v50 H50 ⟨G, ⟨m0, a', cap', X0, rfl, lG0, hX0, hd0, hR0⟩, lG, hkeep⟩
      have hS50 := hA45.side lG hkeep
      have lH50 : Le H H50 := Le.trans lG0 lG
      refine yaf ?_
      refine hK _ _ ?_; clear hK K
      refine zah rfl ?_
      refine zab (fun K hK r => ?_)
      refine yah ?_
      refine hK _ _ ?_; clear hK K
      refine zab (fun K hK r => ?_)
      refine yah ?_
      refine hK _ _ ?_; clear hK K
      refine zab (fun K hK r => ?_)
      refine ycs ?_
      intro b9 hb9
      have f9_H : H b9 = none := zag lhA hb9
      refine yaf ?_
      refine hK _ _ ?_; clear hK K
      refine zaI rfl (zas) (fun K hK r => ?_)
      refine yaD ?_
      first | refine zak sz52 bdA hbA bdA plA (by decide) ?_ | refine zal sz52 bdA hbA bdA plA (by decide) ?_
      refine yaf ?_
      refine hK _ _ ?_; clear hK K
      refine zaj rfl ?_
      refine zad ?_
      refine yab ?_
      refine hK16 _ _ ?_; try clear hK16 K16
      refine zac (fun K17 hK17 => ?_)
      refine zac (fun K18 hK18 => ?_)
      refine zaa ?_
      refine zah rfl ?_
      refine zab (fun K hK r => ?_)
      refine yar ?_
      refine (num_Num _ e0 hev0).mono ?_
      rintro v H' ⟨rfl, hq⟩
      have hq := hq.symm
      subst hq
      refine yaf ?_
      refine hK _ _ ?_; clear hK K
      refine zah rfl ?_
      refine zab (fun K hK r => ?_)
      refine yak ?_
      refine hK _ _ ?_; clear hK K
      refine zad ?_
      refine yab ?_
      refine hK18 _ _ ?_; try clear hK18 K18
      refine zar (fun r => rfl) (fun c56 => ?_) (fun c56 => ?_)
      ·exfalso; first | (exact cnA c56; done) | (simp at c56; done)
      refine zau ?_
      refine yab ?_
      refine hK17 _ _ ?_; try clear hK17 K17
      refine zac (fun K19 hK19 => ?_)
      refine zac (fun K20 hK20 => ?_)
      refine zaa ?_
      refine zah rfl ?_
      refine zab (fun K hK r => ?_)
      simp only [x_builtin, l_len, List.map_toArray, List.map_cons, List.map_nil, i_len_slice _ _ Try.underlying45, eX, ↓reduceIte, Nat.reduceEqDiff, Int.reduceToNat]
      refine hK _ _ ?_; clear hK K
      refine zah rfl ?_
      refine zad ?_
      refine yab ?_
      refine hK20 _ _ ?_; try clear hK20 K20
      refine zaB ?_
      refine CW_loop (fun m_ e H_ => ∃ (k : Nat) (Q F : Hp) (s : St) (ma : Option Addr) (mc : Nat) (X : List RDX) (m : RSt), k ≤ l.length ∧ m_ = l.length - k ∧ BP H Q H_ F sv p s ma mc X m (2 * k) b9 ∧ Env.has [(7, sv), (9, .pointer (some ⟨b9, 0, none⟩)), (57, .slice a l.length cap), (58, .int .i64 l.length), (59, .int .i64 k)] e) (l.length) ?_ ?_
      ·skip
       exact ⟨0, G, F45, _, a', cap', X0, m0, by omega, by omega, BP.fin lG0 hS50 hX0 hd0 hR0 (zag lG hb9) (zag hS50.le hb9), rfl, rfl, rfl, rfl, rfl, trivial⟩
      intro m_ e_ H_ hI_
      obtain ⟨k, Q, F, s, ma, mc, X, m, hk, rfl, hB, he⟩ := hI_
      refine CW_env he.sub ?_; clear he e_
      have hHH : Le H H_ := Le.trans hB.old hB.st.old
      have kb9 := hB.box
      refine zac (fun K21 hK21 => ?_)
      refine zaa ?_
      refine zab (fun K hK r => ?_)
      refine yac ?_
      refine hK _ _ ?_; clear hK K
      refine zad ?_
      refine yab ?_
      refine hK21 _ _ ?_; try clear hK21 K21
      refine zac (fun K22 hK22 => ?_)
      refine zar (fun r => rfl) (fun c60 => ?_) (fun c60 => ?_)
      ·first
       |(exfalso; exact cnA c60; done)
       |skip
        (try replace c60 := yad c60)
        obtain ⟨bw, ow, cw, Tw, Fw, ew, hbw, hsw, atw⟩ := (hv.le (Le.trans hB.old hB.st.old)).at (by omega)
        have mo := Nat.mul_le_mul_right 73 (show k + 1 ≤ l.length by omega)
        obtain ⟨hok, hoX⟩ := ho (l.getD k default) (op15_mem (by omega))
        have hsk := hsh2 k (by omega)
        refine zau ?_
        refine yab ?_
        refine hK22 _ _ ?_; try clear hK22 K22
        refine CW_cut (fun e H_ => ∃ (Q F : Hp) (s : St) (ma : Option Addr) (mc : Nat) (X : List RDX) (m : RSt), BP H Q H_ F sv p s ma mc X m (2 * (k + 1)) b9 ∧ Env.has [(7, sv), (9, .pointer (some ⟨b9, 0, none⟩)), (57, .slice a l.length cap), (58, .int .i64 l.length), (59, .int .i64 k)] e) ?_ ?_
        ·skip
         refine zaB ?_
         refine zac (fun K23 hK23 => ?_)
         refine zaa ?_
         refine zab (fun K hK r => ?_)
         refine yaw ?_
         refine zaK Try.underlying45 sz58 ew ixA ixA ?_
         refine ybp ?_
         refine hK _ _ ?_; clear hK K
         refine zab (fun K hK r => ?_)
         refine yap ?_
         refine zaq Try.underlying58 rfl sz58 hbw (by omega) ?_
         rw [ext_at Op15.len atw rfl k (by omega) hsw]
         refine hK _ _ ?_; clear hK K
         refine zab (fun K hK r => ?_)
         simp only [x_alloc, zr58, zay, Value.cells, eX, ↓reduceIte, Nat.reduceEqDiff, Int.reduceToNat]
         intro b12 hb12
         try have n12_b9 : b9 ≠ b12 := zaf hbA hb12
         have f12_H : H b12 = none := zag lhA hb12
         have h9 := hB.st.with hB.box hB.f
         have hS12 : SV sv ((Q.upd b9 (.cells (m.c (.slice ma X.length mc)).toArray 52)).upd b12 (.cells (l.getD k default).c.toArray 58)) (H_.upd b12 (.cells (l.getD k default).c.toArray 58)) F p s := h9.put hb12 _
         have hO12 := hS12.old
         have n912 : b9 ≠ b12 := zaf hB.box hb12
         have q9 := hB.q
         have q12 : Q b12 = none := zag hB.st.old hb12
         have lQ12 : Le Q ((Q.upd b9 (.cells (m.c (.slice ma X.length mc)).toArray 52)).upd b12 (.cells (l.getD k default).c.toArray 58)) := zaw (le_upd _ _ _ hB.q) q12
         have z9 : ((Q.upd b9 (.cells (m.c (.slice ma X.length mc)).toArray 52)).upd b12 (.cells (l.getD k default).c.toArray 58)) b9 = some (.cells (m.c (.slice ma X.length mc)).toArray 52) := (zap _ _ n912).trans (zan _ _ _)
         have z12 : ((Q.upd b9 (.cells (m.c (.slice ma X.length mc)).toArray 52)).upd b12 (.cells (l.getD k default).c.toArray 58)) b12 = some (.cells (l.getD k default).c.toArray 58) := zan _ _ _
         have y9 := hO12 _ _ z9
         have y12 := hO12 _ _ z12
         have hH12 : Le H (H_.upd b12 (.cells (l.getD k default).c.toArray 58)) := Le.trans hB.old (Le.trans lQ12 hO12)
         have hSm := hB.rs.sm
         obtain ⟨hrg, hwt, hl5⟩ := hB.rs.rg hB.dv
         obtain ⟨s', hpr, _⟩ := hB.rs.pr
         have hXlen : m.dv.length = X.length := by rw [hB.dv]; simp
         have hszX : m.sz0 = if X.length = 0 then 0 else ((X.getD 0 default).d.sec.length : Int) := by
          unfold RSt.sz0
          rw [hXlen, hB.dv, rdv_at]
          by_cases h0 : X.length = 0
          ·rw [if_pos h0, if_neg (by omega)]
          ·rw [if_neg h0, if_pos (by omega)]
         refine yaf ?_
         refine hK _ _ ?_; clear hK K
         refine zaI rfl (zas) (fun K hK r => ?_)
         refine yaD ?_
         refine zak sz58 (by rw [List.size_toArray, Op15.len]) hbA (by simp [Sec.h]) (Op15.plain _) (by decide) ?_
         try simp only [upd_upd]
         refine hK _ _ ?_; clear hK K
         refine zad ?_
         refine yab ?_
         refine hK23 _ _ ?_; try clear hK23 K23
         refine zac (fun K24 hK24 => ?_)
         refine zaa ?_
         refine zaj rfl ?_
         refine zad ?_
         refine yab ?_
         refine hK24 _ _ ?_; try clear hK24 K24
         refine zac (fun K25 hK25 => ?_)
         refine zaa ?_
         refine zaj rfl ?_
         refine zad ?_
         refine yab ?_
         refine hK25 _ _ ?_; try clear hK25 K25
         refine CW_cut (fun e H_ => ∃ (Q F : Hp) (s : St) (ma : Option Addr) (mc : Nat) (X : List RDX) (m : RSt) (ev : Option Int), BP H Q H_ F sv p s ma mc X m (2 * (k + 1)) b9 ∧ errOk ev ∧ Env.has [(7, sv), (9, .pointer (some ⟨b9, 0, none⟩)), (57, .slice a l.length cap), (58, .int .i64 l.length), (59, .int .i64 k), (13, errV ev), (14, .int .i64 (ev.getD 0))] e) ?_ ?_
         ·skip
          refine zac (fun K26 hK26 => ?_)
          refine zaa ?_
          refine zab (fun K hK r => ?_)
          simp only [zao, fa58_0, zaH, Nat.reduceAdd, Nat.zero_add, eX, ↓reduceIte, Nat.reduceEqDiff, Int.reduceToNat]
          refine hK _ _ ?_; clear hK K
          refine zab (fun K hK r => ?_)
          refine yap ?_
          refine zae Try.underlying3 rfl hbA ldA ?_
          refine yaf ?_
          refine hK _ _ ?_; clear hK K
          refine zad ?_
          refine yab ?_
          refine hK26 _ _ ?_; try clear hK26 K26
          refine zaB ?_
          refine zac (fun K27 hK27 => ?_)
          refine zaa ?_
          refine zab (fun K hK r => ?_)
          refine yas ?_
          refine hK _ _ ?_; clear hK K
          refine zaj rfl ?_
          refine zad ?_
          refine yab ?_
          refine hK27 _ _ ?_; try clear hK27 K27
          refine zar (fun r => rfl) (fun c65 => ?_) (fun c65 => ?_)
          ·first
           |(exfalso; exact cnA c65; done)
           |skip
            (try replace c65 := yad c65)
            refine zac (fun K28 hK28 => ?_)
            refine zaa ?_
            refine zah rfl ?_
            refine zab (fun K hK r => ?_)
            refine ycm ?_
            refine hK _ _ ?_; clear hK K
            refine zab (fun K hK r => ?_)
            refine yap ?_
            refine zaq Try.underlying24 rfl sz24 hbA (by rw [List.size_toArray, Op15.len]; omega) ?_
            rw [Op15.man]
            refine hK _ _ ?_; clear hK K
            refine zab (fun K hK r => ?_)
            simp only [zaF _ bd9, List.map_toArray, List.map_cons, List.map_nil, eX, ↓reduceIte, Nat.reduceEqDiff, Int.reduceToNat]
            refine (program_ok _ (l.getD k default).m (l.getD k default).ma (l.getD k default).mc (hok.hm.le hH12) (by omega)).mono ?_
            rintro v70 H70 ⟨l70, xa, xc, rs70, rfl, ho70, hr70⟩
            refine yaf ?_
            refine hK _ _ ?_; clear hK K
            refine zab (fun K hK r => ?_)
            refine ybQ ?_
            refine (saveX (hS12.more l70) hSm (by omega) (l.getD k default).m xa xc ho70.holds (by omega)).mono ?_
            rintro v71 H71 ⟨rfl, F71, hS71⟩
            have hO71 := hS71.old
            have y71_9 := hO71 b9 _ z9
            have y71_12 := hO71 b12 _ z12
            refine yaf ?_
            refine hK _ _ ?_; clear hK K
            refine zaj rfl ?_
            refine zad ?_
            refine yab ?_
            refine hK28 _ _ ?_; try clear hK28 K28
            refine zaa ?_
            refine zab (fun K hK r => ?_)
            refine yap ?_
            first | refine zax Try.underlying52 rfl sz52 hbA bdA ?_ | refine zaq Try.underlying52 rfl sz52 hbA bdA ?_
            refine ybg ?_
            refine yaf ?_
            refine hK _ _ ?_; clear hK K
            refine zab (fun K hK r => ?_)
            refine ycm ?_
            refine hK _ _ ?_; clear hK K
            refine zab (fun K hK r => ?_)
            refine yap ?_
            refine zaq Try.underlying24 rfl sz24 hbA (by rw [List.size_toArray, Op15.len]; omega) ?_
            rw [Op15.man]
            refine hK _ _ ?_; clear hK K
            refine zab (fun K hK r => ?_)
            simp only [zaF _ bd23, List.map_toArray, List.map_cons, List.map_nil, eX, ↓reduceIte, Nat.reduceEqDiff, Int.reduceToNat]
            have x9 := hO71 b9 _ z9
            have x12 := hO71 b12 _ z12
            have f9 := hS71.ap b9 (by rw [z9]; simp)
            refine (CallH.use (rsaveL Q ma mc X hB.rx m hB.dv hpr (by omega) (l.getD k default).m (l.getD k default).ma (l.getD k default).mc (hok.hm.le hB.old) (by omega)) (Le.trans lQ12 hO71)).mono ?_
            rintro v76 H76 ⟨G, ⟨a', cap', X', hXl, lG0, rfl, hXn, hdn⟩, lG, hkeep⟩
            obtain ⟨kk9, kg9⟩ := hkeep b9 _ x9 q9
            obtain ⟨kk12, kg12⟩ := hkeep b12 _ x12 q12
            have hSn := (hS71.less lQ12).side lG hkeep
            have lHn : Le H H76 := Le.trans hB.old (Le.trans lG0 lG)
            rw [(hB.rs.save (l.getD k default).m).2]
            refine yaf ?_
            refine hK _ _ ?_; clear hK K
            refine zah rfl ?_
            refine zab (fun K hK r => ?_)
            refine yah ?_
            refine hK _ _ ?_; clear hK K
            refine zab (fun K hK r => ?_)
            refine yah ?_
            refine hK _ _ ?_; clear hK K
            refine zaI rfl (zas) (fun K hK r => ?_)
            refine yaD ?_
            first | refine zak sz52 bdA hbA bdA plA (by decide) ?_ | refine zal sz52 bdA hbA bdA plA (by decide) ?_
            refine yaf ?_
            refine hK _ _ ?_; clear hK K
            refine zaj rfl ?_
            refine zad ?_
            refine yab ?_
            first
            |exact ⟨G, F71, _, a', cap', X', _, _, BP.fin (Le.trans hB.old lG0) hSn hXn hdn ((hB.rs.save (l.getD k default).m).1.up (by omega)) kg9 f9, saveM_errOk _ _, rfl, rfl, rfl, rfl, rfl, rfl, rfl, trivial⟩
            |exact ⟨G, F89, _, a', cap', X', _, none, BP.fin (Le.trans hB.old lG0) hSn hXn hdn ((hB.rs.put hoX ht89).up (by omega)) kg9 f9, (fun z hz => by cases hz), rfl, rfl, rfl, rfl, rfl, rfl, rfl, trivial⟩
            |exact ⟨Q, F89, _, ma, mc, X, m, none, ⟨hB.old, hS89.less lQ12, hB.rx, hB.dv, (hB.rs.skip hoX ht89 hz2).up (by omega), hB.q, f89_9, y89_9⟩, (fun z hz => by cases hz), rfl, rfl, rfl, rfl, rfl, rfl, rfl, trivial⟩
            |exact ⟨G, F134, _, a', cap', X', _, none, BP.fin (Le.trans hB.old lG0) hSn hXn hdn ((hB.rs.crash (l.getD k default).keep ht134).up (by omega)) kg9 f9, (fun z hz => by cases hz), rfl, rfl, rfl, rfl, rfl, rfl, rfl, trivial⟩
            |(rcases ht148 with ⟨h1, h2⟩ | ⟨h1, h2, h3⟩
              ·subst h2
               exact ⟨Q, F148, _, ma, mc, X, { m with armed := true, left := (l.getD k default).n }, none, BP.fin (m := { m with armed := true, left := (l.getD k default).n }) hB.old (hS148.less lQ12) hB.rx hB.dv ((hB.rs.arm (show 0 ≤ (l.getD k default).n by omega) hok.n1).up (by omega)) hB.q f148_9, (fun z hz => by cases hz), rfl, rfl, rfl, rfl, rfl, rfl, rfl, trivial⟩
              ·exfalso; subst h1; first | (cases g148; done) | (simp at c150; done))
            |(rcases ht148 with ⟨h1, h2⟩ | ⟨h1, h2, h3⟩
              ·exfalso; subst h1; first | (simp at c150; done) | (cases c150; done)
              ·subst h2
               exact ⟨Q, F148, _, ma, mc, X, m, none, ⟨hB.old, hS148.less lQ12, hB.rx, hB.dv, hB.rs.up (by omega), hB.q, f148_9, y148_9⟩, (fun z hz => by cases hz), rfl, rfl, rfl, rfl, rfl, rfl, rfl, trivial⟩)
            |exact ⟨Q, F, s, ma, mc, X, m, none, ⟨hB.old, hB.st.more (le_upd _ _ _ hb12), hB.rx, hB.dv, hB.rs.up (by omega), hB.q, hB.f, y9⟩, (fun z hz => by cases hz), rfl, rfl, rfl, rfl, rfl, rfl, rfl, trivial⟩
          ·first
           |(exfalso; exact cnA c65; done)
           |skip
            (try replace c65 := yad c65)
            refine zac (fun K29 hK29 => ?_)
            refine zaa ?_
            refine zab (fun K hK r => ?_)
            refine yas ?_
            refine hK _ _ ?_; clear hK K
            refine zaj rfl ?_
            refine zad ?_
            refine yab ?_
            refine hK29 _ _ ?_; try clear hK29 K29
            refine zar (fun r => rfl) (fun c79 => ?_) (fun c79 => ?_)
            ·first
             |(exfalso; exact cnA c79; done)
             |skip
              (try replace c79 := yad c79)
              obtain ⟨i0, hi1, hi2, hi3⟩ := mod_any (l.getD k default).n 2 (by omega) (by omega)
              refine zac (fun K30 hK30 => ?_)
              refine zaa ?_
              refine zah rfl ?_
              refine zab (fun K hK r => ?_)
              refine ycG ?_
              refine hK _ _ ?_; clear hK K
              refine zab (fun K hK r => ?_)
              refine yap ?_
              refine zae Try.underlying3 rfl hbA ldA ?_
              refine yaf ?_
              refine hK _ _ ?_; clear hK K
              refine zab (fun K hK r => ?_)
              refine ycH ?_
              refine hK _ _ ?_; clear hK K
              refine zab (fun K hK r => ?_)
              refine ybP ?_
              refine hK _ _ ?_; clear hK K
              refine zab (fun K hK r => ?_)
              refine ycI ?_
              rw [hi1]
              refine hK _ _ ?_; clear hK K
              refine zab (fun K hK r => ?_)
              refine ycJ ?_
              refine hK _ _ ?_; clear hK K
              refine zab (fun K hK r => ?_)
              refine yap ?_
              refine zaq Try.underlying30 rfl sz30 hbA (by rw [List.size_toArray, Op15.len]; omega) ?_
              rw [Op15.sec]
              refine hK _ _ ?_; clear hK K
              refine zab (fun K hK r => ?_)
              simp only [zaF _ bd24, List.map_toArray, List.map_cons, List.map_nil, eX, ↓reduceIte, Nat.reduceEqDiff, Int.reduceToNat]
              refine (writeX hS12 hSm (by omega) i0 (l.getD k default).x).mono ?_
              rintro v89 H89 ⟨e89, t89, F89, rfl, hS89, ht89⟩
              have hO89 := hS89.old
              have y89_9 := hO89 b9 _ z9
              have y89_12 := hO89 b12 _ z12
              have f89_9 := hS89.ap b9 (by rw [z9]; simp)
              refine yaf ?_
              refine hK _ _ ?_; clear hK K
              refine zab (fun K hK r => ?_)
              refine yae ?_
              first | rw [b_err_eql _ _ Try.underlying32] | (rw [e_eql _ _ _ _ (by simp), zaM]; first | rw [q_iface_nil _ _ _ Try.underlying32] | rw [q_nil_iface _ _ _ Try.underlying32] | rw [q_nil_nil _ _ _ Try.underlying32])
              refine yaf ?_
              refine hK _ _ ?_; clear hK K
              refine zad ?_
              refine yab ?_
              refine hK30 _ _ ?_; try clear hK30 K30
              refine zar (fun r => rfl) (fun c90 => ?_) (fun c90 => ?_)
              ·first
               |(exfalso; exact cnA c90; done)
               |skip
                skip
                refine zaa ?_
                refine zab (fun K hK r => ?_)
                refine yap ?_
                first | refine zax Try.underlying52 rfl sz52 hbA bdA ?_ | refine zaq Try.underlying52 rfl sz52 hbA bdA ?_
                refine ybg ?_
                refine yaf ?_
                refine hK _ _ ?_; clear hK K
                refine zab (fun K hK r => ?_)
                refine ycG ?_
                refine hK _ _ ?_; clear hK K
                refine zab (fun K hK r => ?_)
                refine yap ?_
                refine zae Try.underlying3 rfl hbA ldA ?_
                refine yaf ?_
                refine hK _ _ ?_; clear hK K
                refine zab (fun K hK r => ?_)
                refine ycH ?_
                refine hK _ _ ?_; clear hK K
                refine zab (fun K hK r => ?_)
                refine ybP ?_
                refine hK _ _ ?_; clear hK K
                refine zab (fun K hK r => ?_)
                refine ycI ?_
                rw [hi1]
                refine hK _ _ ?_; clear hK K
                refine zab (fun K hK r => ?_)
                refine ycJ ?_
                refine hK _ _ ?_; clear hK K
                refine zab (fun K hK r => ?_)
                refine yap ?_
                refine zaq Try.underlying30 rfl sz30 hbA (by rw [List.size_toArray, Op15.len]; omega) ?_
                rw [Op15.sec]
                refine hK _ _ ?_; clear hK K
                refine zab (fun K hK r => ?_)
                refine ycF ?_
                have x9 := hO89 b9 _ z9
                have x12 := hO89 b12 _ z12
                have f9 := hS89.ap b9 (by rw [z9]; simp)
                refine (CallH.use (rput_ok Q ma mc X hB.rx m hB.dv hl5 (fun i => Nat.le_trans (hwt i) (by omega)) 0 i0 (l.getD k default).x) (Le.trans lQ12 hO89)).mono ?_
                rintro v100 H100 ⟨G, ⟨a', cap', X', hXl, lG0, rfl, hXn, hdn⟩, lG, hkeep⟩
                obtain ⟨kk9, kg9⟩ := hkeep b9 _ x9 q9
                obtain ⟨kk12, kg12⟩ := hkeep b12 _ x12 q12
                have hSn := (hS89.less lQ12).side lG hkeep
                have lHn : Le H H100 := Le.trans hB.old (Le.trans lG0 lG)
                refine yaf ?_
                refine hK _ _ ?_; clear hK K
                refine zah rfl ?_
                refine zab (fun K hK r => ?_)
                refine yah ?_
                refine hK _ _ ?_; clear hK K
                refine zab (fun K hK r => ?_)
                refine yah ?_
                refine hK _ _ ?_; clear hK K
                refine zaI rfl (zas) (fun K hK r => ?_)
                refine yaD ?_
                first | refine zak sz52 bdA hbA bdA plA (by decide) ?_ | refine zal sz52 bdA hbA bdA plA (by decide) ?_
                refine yaf ?_
                refine hK _ _ ?_; clear hK K
                refine zad ?_
                refine yab ?_
                first
                |exact ⟨G, F71, _, a', cap', X', _, _, BP.fin (Le.trans hB.old lG0) hSn hXn hdn ((hB.rs.save (l.getD k default).m).1.up (by omega)) kg9 f9, saveM_errOk _ _, rfl, rfl, rfl, rfl, rfl, rfl, rfl, trivial⟩
                |exact ⟨G, F89, _, a', cap', X', _, none, BP.fin (Le.trans hB.old lG0) hSn hXn hdn ((hB.rs.put hoX ht89).up (by omega)) kg9 f9, (fun z hz => by cases hz), rfl, rfl, rfl, rfl, rfl, rfl, rfl, trivial⟩
                |exact ⟨Q, F89, _, ma, mc, X, m, none, ⟨hB.old, hS89.less lQ12, hB.rx, hB.dv, (hB.rs.skip hoX ht89 hz2).up (by omega), hB.q, f89_9, y89_9⟩, (fun z hz => by cases hz), rfl, rfl, rfl, rfl, rfl, rfl, rfl, trivial⟩
                |exact ⟨G, F134, _, a', cap', X', _, none, BP.fin (Le.trans hB.old lG0) hSn hXn hdn ((hB.rs.crash (l.getD k default).keep ht134).up (by omega)) kg9 f9, (fun z hz => by cases hz), rfl, rfl, rfl, rfl, rfl, rfl, rfl, trivial⟩
                |(rcases ht148 with ⟨h1, h2⟩ | ⟨h1, h2, h3⟩
                  ·subst h2
                   exact ⟨Q, F148, _, ma, mc, X, { m with armed := true, left := (l.getD k default).n }, none, BP.fin (m := { m with armed := true, left := (l.getD k default).n }) hB.old (hS148.less lQ12) hB.rx hB.dv ((hB.rs.arm (show 0 ≤ (l.getD k default).n by omega) hok.n1).up (by omega)) hB.q f148_9, (fun z hz => by cases hz), rfl, rfl, rfl, rfl, rfl, rfl, rfl, trivial⟩
                  ·exfalso; subst h1; first | (cases g148; done) | (simp at c150; done))
                |(rcases ht148 with ⟨h1, h2⟩ | ⟨h1, h2, h3⟩
                  ·exfalso; subst h1; first | (simp at c150; done) | (cases c150; done)
                  ·subst h2
                   exact ⟨Q, F148, _, ma, mc, X, m, none, ⟨hB.old, hS148.less lQ12, hB.rx, hB.dv, hB.rs.up (by omega), hB.q, f148_9, y148_9⟩, (fun z hz => by cases hz), rfl, rfl, rfl, rfl, rfl, rfl, rfl, trivial⟩)
                |exact ⟨Q, F, s, ma, mc, X, m, none, ⟨hB.old, hB.st.more (le_upd _ _ _ hb12), hB.rx, hB.dv, hB.rs.up (by omega), hB.q, hB.f, y9⟩, (fun z hz => by cases hz), rfl, rfl, rfl, rfl, rfl, rfl, rfl, trivial⟩
              ·first
               |(exfalso; exact cnA c90; done)
               |skip
                skip
                refine zac (fun K31 hK31 => ?_)
                refine zaa ?_
                refine zab (fun K hK r => ?_)
                refine yco ?_
                refine hK _ _ ?_; clear hK K
                refine zab (fun K hK r => ?_)
                refine yap ?_
                refine zae Try.underlying50 rfl hbA ldA ?_
                refine yaf ?_
                refine hK _ _ ?_; clear hK K
                refine zab (fun K hK r => ?_)
                refine ycp ?_
                refine hK _ _ ?_; clear hK K
                refine zab (fun K hK r => ?_)
                refine yaZ ?_
                refine hK _ _ ?_; clear hK K
                refine zah rfl ?_
                (first | refine zaA (d := 107) rfl (fun g107 => ?_) (fun g107 => ?_) | skip)
                all_goals try (exfalso; exact cnA g107)
                all_goals (try replace g107 := yad g107)
                all_goals
                 refine yaf ?_
                 first
                 |refine yGT (fun K hK r => ?_)
                  refine yco ?_
                  refine hK _ _ ?_; clear hK K
                 |refine yGF ?_
                  refine yaj ?_
                 first
                 |refine yGT (fun K hK r => ?_)
                  refine yap ?_
                  refine zae Try.underlying50 rfl hbA ldA ?_
                  refine yaf ?_
                  refine hK _ _ ?_; clear hK K
                 |refine yGF ?_
                  refine yaj ?_
                 first
                 |refine yGT (fun K hK r => ?_)
                  refine yaw ?_
                  obtain ⟨bd, od, cd, Td, Fd, ed, hbd, hsd, atd⟩ := (hB.rx.h).at (by omega)
                  have mk2 := Nat.mul_le_mul_right 2 (show 0 + 1 ≤ X.length by omega)
                  refine zaK Try.underlying50 sz67 ed ixA ixA ?_
                  refine hK _ _ ?_; clear hK K
                 |refine yGF ?_
                  refine yaj ?_
                 first
                 |refine yGT (fun K hK r => ?_)
                  refine ycq ?_
                  refine hK _ _ ?_; clear hK K
                 |refine yGF ?_
                  refine yaj ?_
                 first
                 |refine yGT (fun K hK r => ?_)
                  refine yap ?_
                  refine zae Try.underlying64 rfl ((Le.trans lQ12 hO89) _ _ hbd) (v := .slice (X.getD 0 default).sa (X.getD 0 default).d.sec.length (X.getD 0 default).sc) (by first | exact cell_at RDX.len atd rfl 0 (by omega) 0 (by decide) | (have := cell_at RDX.len atd rfl 0 (by omega) 0 (by decide); simpa using this)) ?_
                  refine hK _ _ ?_; clear hK K
                 |refine yGF ?_
                  refine yaj ?_
                 first
                 |refine yGT (fun K hK r => ?_)
                  refine ycr ?_
                  refine hK _ _ ?_; clear hK K
                 |refine yGF ?_
                  refine yaj ?_
                 first
                 |refine yGT (fun K hK r => ?_)
                  refine yaZ ?_
                  refine hK _ _ ?_; clear hK K
                 |refine yGF ?_
                  refine yaj ?_
                 refine zab (fun K hK r => ?_)
                 refine yal ?_
                 refine hK _ _ ?_; clear hK K
                 refine zad ?_
                 refine yab ?_
                 refine hK31 _ _ ?_; try clear hK31 K31
                 refine zar (fun r => rfl) (fun c115 => ?_) (fun c115 => ?_)
                 ·first
                  |(exfalso; exact cnA c115; done)
                  |skip
                   skip
                   refine zaa ?_
                   refine zab (fun K hK r => ?_)
                   refine yap ?_
                   first | refine zax Try.underlying52 rfl sz52 hbA bdA ?_ | refine zaq Try.underlying52 rfl sz52 hbA bdA ?_
                   refine ybg ?_
                   refine yaf ?_
                   refine hK _ _ ?_; clear hK K
                   refine zab (fun K hK r => ?_)
                   refine ycG ?_
                   refine hK _ _ ?_; clear hK K
                   refine zab (fun K hK r => ?_)
                   refine yap ?_
                   refine zae Try.underlying3 rfl hbA ldA ?_
                   refine yaf ?_
                   refine hK _ _ ?_; clear hK K
                   refine zab (fun K hK r => ?_)
                   refine ycH ?_
                   refine hK _ _ ?_; clear hK K
                   refine zab (fun K hK r => ?_)
                   refine ybP ?_
                   refine hK _ _ ?_; clear hK K
                   refine zab (fun K hK r => ?_)
                   refine ycI ?_
                   rw [hi1]
                   refine hK _ _ ?_; clear hK K
                   refine zab (fun K hK r => ?_)
                   refine ycJ ?_
                   refine hK _ _ ?_; clear hK K
                   refine zab (fun K hK r => ?_)
                   refine yap ?_
                   refine zaq Try.underlying30 rfl sz30 hbA (by rw [List.size_toArray, Op15.len]; omega) ?_
                   rw [Op15.sec]
                   refine hK _ _ ?_; clear hK K
                   refine zab (fun K hK r => ?_)
                   refine ycF ?_
                   have x9 := hO89 b9 _ z9
                   have x12 := hO89 b12 _ z12
                   have f9 := hS89.ap b9 (by rw [z9]; simp)
                   refine (CallH.use (rput_ok Q ma mc X hB.rx m hB.dv hl5 (fun i => Nat.le_trans (hwt i) (by omega)) 0 i0 (l.getD k default).x) (Le.trans lQ12 hO89)).mono ?_
                   rintro v125 H125 ⟨G, ⟨a', cap', X', hXl, lG0, rfl, hXn, hdn⟩, lG, hkeep⟩
                   obtain ⟨kk9, kg9⟩ := hkeep b9 _ x9 q9
                   obtain ⟨kk12, kg12⟩ := hkeep b12 _ x12 q12
                   have hSn := (hS89.less lQ12).side lG hkeep
                   have lHn : Le H H125 := Le.trans hB.old (Le.trans lG0 lG)
                   refine yaf ?_
                   refine hK _ _ ?_; clear hK K
                   refine zah rfl ?_
                   refine zab (fun K hK r => ?_)
                   refine yah ?_
                   refine hK _ _ ?_; clear hK K
                   refine zab (fun K hK r => ?_)
                   refine yah ?_
                   refine hK _ _ ?_; clear hK K
                   refine zaI rfl (zas) (fun K hK r => ?_)
                   refine yaD ?_
                   first | refine zak sz52 bdA hbA bdA plA (by decide) ?_ | refine zal sz52 bdA hbA bdA plA (by decide) ?_
                   refine yaf ?_
                   refine hK _ _ ?_; clear hK K
                   refine zad ?_
                   refine yab ?_
                   first
                   |exact ⟨G, F71, _, a', cap', X', _, _, BP.fin (Le.trans hB.old lG0) hSn hXn hdn ((hB.rs.save (l.getD k default).m).1.up (by omega)) kg9 f9, saveM_errOk _ _, rfl, rfl, rfl, rfl, rfl, rfl, rfl, trivial⟩
                   |exact ⟨G, F89, _, a', cap', X', _, none, BP.fin (Le.trans hB.old lG0) hSn hXn hdn ((hB.rs.put hoX ht89).up (by omega)) kg9 f9, (fun z hz => by cases hz), rfl, rfl, rfl, rfl, rfl, rfl, rfl, trivial⟩
                   |exact ⟨Q, F89, _, ma, mc, X, m, none, ⟨hB.old, hS89.less lQ12, hB.rx, hB.dv, (hB.rs.skip hoX ht89 hz2).up (by omega), hB.q, f89_9, y89_9⟩, (fun z hz => by cases hz), rfl, rfl, rfl, rfl, rfl, rfl, rfl, trivial⟩
                   |exact ⟨G, F134, _, a', cap', X', _, none, BP.fin (Le.trans hB.old lG0) hSn hXn hdn ((hB.rs.crash (l.getD k default).keep ht134).up (by omega)) kg9 f9, (fun z hz => by cases hz), rfl, rfl, rfl, rfl, rfl, rfl, rfl, trivial⟩
                   |(rcases ht148 with ⟨h1, h2⟩ | ⟨h1, h2, h3⟩
                     ·subst h2
                      exact ⟨Q, F148, _, ma, mc, X, { m with armed := true, left := (l.getD k default).n }, none, BP.fin (m := { m with armed := true, left := (l.getD k default).n }) hB.old (hS148.less lQ12) hB.rx hB.dv ((hB.rs.arm (show 0 ≤ (l.getD k default).n by omega) hok.n1).up (by omega)) hB.q f148_9, (fun z hz => by cases hz), rfl, rfl, rfl, rfl, rfl, rfl, rfl, trivial⟩
                     ·exfalso; subst h1; first | (cases g148; done) | (simp at c150; done))
                   |(rcases ht148 with ⟨h1, h2⟩ | ⟨h1, h2, h3⟩
                     ·exfalso; subst h1; first | (simp at c150; done) | (cases c150; done)
                     ·subst h2
                      exact ⟨Q, F148, _, ma, mc, X, m, none, ⟨hB.old, hS148.less lQ12, hB.rx, hB.dv, hB.rs.up (by omega), hB.q, f148_9, y148_9⟩, (fun z hz => by cases hz), rfl, rfl, rfl, rfl, rfl, rfl, rfl, trivial⟩)
                   |exact ⟨Q, F, s, ma, mc, X, m, none, ⟨hB.old, hB.st.more (le_upd _ _ _ hb12), hB.rx, hB.dv, hB.rs.up (by omega), hB.q, hB.f, y9⟩, (fun z hz => by cases hz), rfl, rfl, rfl, rfl, rfl, rfl, rfl, trivial⟩
                 ·first
                  |(exfalso; exact cnA c115; done)
                  |skip
                   have hz2 : m.sz0 < 2 := by
                    rw [hszX]
                    split
                    ·omega
                    ·first | omega | (simp only [decide_eq_false_iff_not] at c115; omega) | (simp_all; omega)
                   refine zau ?_
                   refine yab ?_
                   first
                   |exact ⟨G, F71, _, a', cap', X', _, _, BP.fin (Le.trans hB.old lG0) hSn hXn hdn ((hB.rs.save (l.getD k default).m).1.up (by omega)) kg9 f9, saveM_errOk _ _, rfl, rfl, rfl, rfl, rfl, rfl, rfl, trivial⟩
                   |exact ⟨G, F89, _, a', cap', X', _, none, BP.fin (Le.trans hB.old lG0) hSn hXn hdn ((hB.rs.put hoX ht89).up (by omega)) kg9 f9, (fun z hz => by cases hz), rfl, rfl, rfl, rfl, rfl, rfl, rfl, trivial⟩
                   |exact ⟨Q, F89, _, ma, mc, X, m, none, ⟨hB.old, hS89.less lQ12, hB.rx, hB.dv, (hB.rs.skip hoX ht89 hz2).up (by omega), hB.q, f89_9, y89_9⟩, (fun z hz => by cases hz), rfl, rfl, rfl, rfl, rfl, rfl, rfl, trivial⟩
                   |exact ⟨G, F134, _, a', cap', X', _, none, BP.fin (Le.trans hB.old lG0) hSn hXn hdn ((hB.rs.crash (l.getD k default).keep ht134).up (by omega)) kg9 f9, (fun z hz => by cases hz), rfl, rfl, rfl, rfl, rfl, rfl, rfl, trivial⟩
                   |(rcases ht148 with ⟨h1, h2⟩ | ⟨h1, h2, h3⟩
                     ·subst h2
                      exact ⟨Q, F148, _, ma, mc, X, { m with armed := true, left := (l.getD k default).n }, none, BP.fin (m := { m with armed := true, left := (l.getD k default).n }) hB.old (hS148.less lQ12) hB.rx hB.dv ((hB.rs.arm (show 0 ≤ (l.getD k default).n by omega) hok.n1).up (by omega)) hB.q f148_9, (fun z hz => by cases hz), rfl, rfl, rfl, rfl, rfl, rfl, rfl, trivial⟩
                     ·exfalso; subst h1; first | (cases g148; done) | (simp at c150; done))
                   |(rcases ht148 with ⟨h1, h2⟩ | ⟨h1, h2, h3⟩
                     ·exfalso; subst h1; first | (simp at c150; done) | (cases c150; done)
                     ·subst h2
                      exact ⟨Q, F148, _, ma, mc, X, m, none, ⟨hB.old, hS148.less lQ12, hB.rx, hB.dv, hB.rs.up (by omega), hB.q, f148_9, y148_9⟩, (fun z hz => by cases hz), rfl, rfl, rfl, rfl, rfl, rfl, rfl, trivial⟩)
                   |exact ⟨Q, F, s, ma, mc, X, m, none, ⟨hB.old, hB.st.more (le_upd _ _ _ hb12), hB.rx, hB.dv, hB.rs.up (by omega), hB.q, hB.f, y9⟩, (fun z hz => by cases hz), rfl, rfl, rfl, rfl, rfl, rfl, rfl, trivial⟩
            ·first
             |(exfalso; exact cnA c79; done)
             |skip
              (try replace c79 := yad c79)
              refine zac (fun K32 hK32 => ?_)
              refine zaa ?_
              refine zab (fun K hK r => ?_)
              refine yas ?_
              refine hK _ _ ?_; clear hK K
              refine zaj rfl ?_
              refine zad ?_
              refine yab ?_
              refine hK32 _ _ ?_; try clear hK32 K32
              refine zar (fun r => rfl) (fun c128 => ?_) (fun c128 => ?_)
              ·first
               |(exfalso; exact cnA c128; done)
               |skip
                (try replace c128 := yad c128)
                refine zac (fun K33 hK33 => ?_)
                refine zaa ?_
                refine zah rfl ?_
                refine zab (fun K hK r => ?_)
                refine ycn ?_
                refine hK _ _ ?_; clear hK K
                refine zab (fun K hK r => ?_)
                refine yap ?_
                refine zae Try.underlying56 rfl hbA (Op15.keep' _) ?_
                refine hK _ _ ?_; clear hK K
                refine zab (fun K hK r => ?_)
                simp only [zaF _ bd27, List.map_toArray, List.map_cons, List.map_nil, eX, ↓reduceIte, Nat.reduceEqDiff, Int.reduceToNat]
                refine (keeps_ok _ (l.getD k default).ka (l.getD k default).kc (l.getD k default).keep (hok.hk.le hH12) (by omega)).mono ?_
                rintro v133 H133 ⟨l133, rs133, ho133, hr133⟩
                obtain ⟨G133, lG133, hG133, hx133⟩ := ho133.part
                obtain ⟨ka133, kc133, rfl⟩ := hG133.form
                have hS133 := hS12.more l133
                refine yaf ?_
                refine hK _ _ ?_; clear hK K
                refine zab (fun K hK r => ?_)
                simp only [zaF _ bd26, List.map_toArray, List.map_cons, List.map_nil, eX, ↓reduceIte, Nat.reduceEqDiff, Int.reduceToNat]
                refine (crashX hS133 hSm (by omega) (G := G133) lG133 (fun x hx => zag hS12.le (hr133 x (hx133 x hx))) (fun x hx => zag hS12.old (hr133 x (hx133 x hx))) ka133 kc133 (l.getD k default).keep hG133 (by omega)).mono ?_
                rintro v134 H134 ⟨t134, F134, hS134, ht134⟩
                have hO134 := hS134.old
                have y134_9 := hO134 b9 _ z9
                have y134_12 := hO134 b12 _ z12
                refine yaf ?_
                refine hK _ _ ?_; clear hK K
                refine zad ?_
                refine yab ?_
                refine hK33 _ _ ?_; try clear hK33 K33
                refine zaa ?_
                refine zab (fun K hK r => ?_)
                refine yap ?_
                first | refine zax Try.underlying52 rfl sz52 hbA bdA ?_ | refine zaq Try.underlying52 rfl sz52 hbA bdA ?_
                refine ybg ?_
                refine yaf ?_
                refine hK _ _ ?_; clear hK K
                refine zab (fun K hK r => ?_)
                refine ycn ?_
                refine hK _ _ ?_; clear hK K
                refine zab (fun K hK r => ?_)
                refine yap ?_
                refine zae Try.underlying56 rfl hbA (Op15.keep' _) ?_
                refine hK _ _ ?_; clear hK K
                refine zab (fun K hK r => ?_)
                simp only [zaF _ bd28, List.map_toArray, List.map_cons, List.map_nil, eX, ↓reduceIte, Nat.reduceEqDiff, Int.reduceToNat]
                have x9 := hO134 b9 _ z9
                have x12 := hO134 b12 _ z12
                have f9 := hS134.ap b9 (by rw [z9]; simp)
                refine (CallH.use (rcrash_ok Q ma mc X hB.rx m hB.dv hl5 (2 * k) (by omega) hrg (l.getD k default).ka (l.getD k default).kc (l.getD k default).keep (hok.hk.le hB.old) (by omega)) (Le.trans lQ12 hO134)).mono ?_
                rintro v138 H138 ⟨G, ⟨a', cap', X', hXl, lG0, rfl, hXn, hdn⟩, lG, hkeep⟩
                obtain ⟨kk9, kg9⟩ := hkeep b9 _ x9 q9
                obtain ⟨kk12, kg12⟩ := hkeep b12 _ x12 q12
                have hSn := (hS134.less lQ12).side lG hkeep
                have lHn : Le H H138 := Le.trans hB.old (Le.trans lG0 lG)
                refine yaf ?_
                refine hK _ _ ?_; clear hK K
                refine zaI rfl (zas) (fun K hK r => ?_)
                refine yaD ?_
                first | refine zak sz52 bdA hbA bdA plA (by decide) ?_ | refine zal sz52 bdA hbA bdA plA (by decide) ?_
                refine yaf ?_
                refine hK _ _ ?_; clear hK K
                refine zad ?_
                refine yab ?_
                first
                |exact ⟨G, F71, _, a', cap', X', _, _, BP.fin (Le.trans hB.old lG0) hSn hXn hdn ((hB.rs.save (l.getD k default).m).1.up (by omega)) kg9 f9, saveM_errOk _ _, rfl, rfl, rfl, rfl, rfl, rfl, rfl, trivial⟩
                |exact ⟨G, F89, _, a', cap', X', _, none, BP.fin (Le.trans hB.old lG0) hSn hXn hdn ((hB.rs.put hoX ht89).up (by omega)) kg9 f9, (fun z hz => by cases hz), rfl, rfl, rfl, rfl, rfl, rfl, rfl, trivial⟩
                |exact ⟨Q, F89, _, ma, mc, X, m, none, ⟨hB.old, hS89.less lQ12, hB.rx, hB.dv, (hB.rs.skip hoX ht89 hz2).up (by omega), hB.q, f89_9, y89_9⟩, (fun z hz => by cases hz), rfl, rfl, rfl, rfl, rfl, rfl, rfl, trivial⟩
                |exact ⟨G, F134, _, a', cap', X', _, none, BP.fin (Le.trans hB.old lG0) hSn hXn hdn ((hB.rs.crash (l.getD k default).keep ht134).up (by omega)) kg9 f9, (fun z hz => by cases hz), rfl, rfl, rfl, rfl, rfl, rfl, rfl, trivial⟩
                |(rcases ht148 with ⟨h1, h2⟩ | ⟨h1, h2, h3⟩
                  ·subst h2
                   exact ⟨Q, F148, _, ma, mc, X, { m with armed := true, left := (l.getD k default).n }, none, BP.fin (m := { m with armed := true, left := (l.getD k default).n }) hB.old (hS148.less lQ12) hB.rx hB.dv ((hB.rs.arm (show 0 ≤ (l.getD k default).n by omega) hok.n1).up (by omega)) hB.q f148_9, (fun z hz => by cases hz), rfl, rfl, rfl, rfl, rfl, rfl, rfl, trivial⟩
                  ·exfalso; subst h1; first | (cases g148; done) | (simp at c150; done))
                |(rcases ht148 with ⟨h1, h2⟩ | ⟨h1, h2, h3⟩
                  ·exfalso; subst h1; first | (simp at c150; done) | (cases c150; done)
                  ·subst h2
                   exact ⟨Q, F148, _, ma, mc, X, m, none, ⟨hB.old, hS148.less lQ12, hB.rx, hB.dv, hB.rs.up (by omega), hB.q, f148_9, y148_9⟩, (fun z hz => by cases hz), rfl, rfl, rfl, rfl, rfl, rfl, rfl, trivial⟩)
                |exact ⟨Q, F, s, ma, mc, X, m, none, ⟨hB.old, hB.st.more (le_upd _ _ _ hb12), hB.rx, hB.dv, hB.rs.up (by omega), hB.q, hB.f, y9⟩, (fun z hz => by cases hz), rfl, rfl, rfl, rfl, rfl, rfl, rfl, trivial⟩
              ·first
               |(exfalso; exact cnA c128; done)
               |skip
                (try replace c128 := yad c128)
                refine zac (fun K34 hK34 => ?_)
                refine zaa ?_
                refine zab (fun K hK r => ?_)
                refine yas ?_
                refine hK _ _ ?_; clear hK K
                refine zaj rfl ?_
                refine zad ?_
                refine yab ?_
                refine hK34 _ _ ?_; try clear hK34 K34
                refine zar (fun r => rfl) (fun c139 => ?_) (fun c139 => ?_)
                ·first
                 |(exfalso; exact cnA c139; done)
                 |skip
                  (try replace c139 := yad c139)
                  refine zac (fun K35 hK35 => ?_)
                  refine zaa ?_
                  refine zab (fun K hK r => ?_)
                  refine ycG ?_
                  refine hK _ _ ?_; clear hK K
                  refine zab (fun K hK r => ?_)
                  refine yap ?_
                  refine zae Try.underlying3 rfl hbA ldA ?_
                  refine yaf ?_
                  refine hK _ _ ?_; clear hK K
                  refine zab (fun K hK r => ?_)
                  refine yav ?_
                  refine hK _ _ ?_; clear hK K
                  refine zah rfl ?_
                  (first | refine zaA (d := 144) rfl (fun g144 => ?_) (fun g144 => ?_) | skip)
                  all_goals try (exfalso; exact cnA g144)
                  all_goals (try replace g144 := yad g144)
                  all_goals
                   refine yaf ?_
                   first
                   |refine yGT (fun K hK r => ?_)
                    refine yai ?_
                    refine hK _ _ ?_; clear hK K
                   |refine yGF ?_
                    refine yaj ?_
                   first
                   |refine yGT (fun K hK r => ?_)
                    refine ycG ?_
                    refine hK _ _ ?_; clear hK K
                   |refine yGF ?_
                    refine yaj ?_
                   first
                   |refine yGT (fun K hK r => ?_)
                    refine yap ?_
                    refine zae Try.underlying3 rfl hbA ldA ?_
                    refine yaf ?_
                    refine hK _ _ ?_; clear hK K
                   |refine yGF ?_
                    refine yaj ?_
                   first
                   |refine yGT (fun K hK r => ?_)
                    simp only [zaF _ bd29, List.map_toArray, List.map_cons, List.map_nil, eX, ↓reduceIte, Nat.reduceEqDiff, Int.reduceToNat]
                    refine (armX hS12 (l.getD k default).n (by omega)).mono ?_
                    rintro v148 H148 ⟨e148, t148, F148, rfl, hS148, ht148⟩
                    have hO148 := hS148.old
                    have y148_9 := hO148 b9 _ z9
                    have y148_12 := hO148 b12 _ z12
                    have f148_9 := hS148.ap b9 (by rw [z9]; simp)
                    refine yaf ?_
                    refine hK _ _ ?_; clear hK K
                   |refine yGF ?_
                    refine yaj ?_
                   first
                   |refine yGT (fun K hK r => ?_)
                    refine yae ?_
                    first | rw [b_err_eql _ _ Try.underlying32] | (rw [e_eql _ _ _ _ (by simp), zaM]; first | rw [q_iface_nil _ _ _ Try.underlying32] | rw [q_nil_iface _ _ _ Try.underlying32] | rw [q_nil_nil _ _ _ Try.underlying32])
                    refine yaf ?_
                    refine hK _ _ ?_; clear hK K
                   |refine yGF ?_
                    refine yaj ?_
                   refine zab (fun K hK r => ?_)
                   refine yal ?_
                   refine hK _ _ ?_; clear hK K
                   refine zad ?_
                   refine yab ?_
                   refine hK35 _ _ ?_; try clear hK35 K35
                   refine zar (fun r => rfl) (fun c150 => ?_) (fun c150 => ?_)
                   ·first
                    |(exfalso; exact cnA c150; done)
                    |skip
                     skip
                     obtain ⟨R34, hR34⟩ : ∃ R : Hp, R = emptyHp.upd b12 (.cells (l.getD k default).c.toArray 58) := ⟨_, rfl⟩
                     refine CW_drawR [0, 1, 0, 2, 0, 3] [0, 1, 2, 3, 4, 5] R34 (by kernel_rfl) (by kernel_rfl) (by subst hR34; exact le_put (zaN _) y148_12) (fun lR34 => ?_)
                     apply zat rfl (zai (by decide)) rfl
                     ·intro r
                      simp only [zao, fa58_1, zaH, Nat.reduceAdd, Nat.zero_add, eX, ↓reduceIte, Nat.reduceEqDiff]
                      exact ⟨rfl, Le.refl _⟩
                     refine yaj ?_
                     apply zaO rfl (zai (by decide)) rfl
                     ·intro r
                      refine yba ?_
                      refine zae Try.underlying3 rfl hbA ldA ?_
                      exact ⟨rfl, Le.refl _⟩
                     refine yaj ?_
                     apply zat rfl (zai (by decide)) rfl
                     ·intro r
                      simp only [zao, fa52_3, zaH, Nat.reduceAdd, Nat.zero_add, eX, ↓reduceIte, Nat.reduceEqDiff]
                      exact ⟨rfl, Le.refl _⟩
                     refine yaj ?_
                     refine TW_chain rfl (zas) rfl (fun K hK r => ?_)
                     refine yaD ?_
                     have r34n : R34 b9 = none := by rw [hR34]; exact zap _ _ n912
                     refine zaE sz4 hbA bdA plA fzA ?_
                     refine yaE ?_
                     refine hK _ _ leA ?_; clear hK K
                     apply zat rfl (zai (by decide)) rfl
                     ·intro r
                      simp only [zao, fa52_2, zaH, Nat.reduceAdd, Nat.zero_add, eX, ↓reduceIte, Nat.reduceEqDiff]
                      exact ⟨rfl, Le.refl _⟩
                     refine yaj ?_
                     refine TW_last rfl (zas) rfl (fun K hK r => ?_)
                     refine yaD ?_
                     refine zaE sz3 hbA bdA plA fzA ?_
                     refine yaE ?_
                     refine yaf ?_
                     refine hK _ _ ?_; clear hK K
                     refine TW_nil ?_
                     refine yab ?_
                     first
                     |exact ⟨G, F71, _, a', cap', X', _, _, BP.fin (Le.trans hB.old lG0) hSn hXn hdn ((hB.rs.save (l.getD k default).m).1.up (by omega)) kg9 f9, saveM_errOk _ _, rfl, rfl, rfl, rfl, rfl, rfl, rfl, trivial⟩
                     |exact ⟨G, F89, _, a', cap', X', _, none, BP.fin (Le.trans hB.old lG0) hSn hXn hdn ((hB.rs.put hoX ht89).up (by omega)) kg9 f9, (fun z hz => by cases hz), rfl, rfl, rfl, rfl, rfl, rfl, rfl, trivial⟩
                     |exact ⟨Q, F89, _, ma, mc, X, m, none, ⟨hB.old, hS89.less lQ12, hB.rx, hB.dv, (hB.rs.skip hoX ht89 hz2).up (by omega), hB.q, f89_9, y89_9⟩, (fun z hz => by cases hz), rfl, rfl, rfl, rfl, rfl, rfl, rfl, trivial⟩
                     |exact ⟨G, F134, _, a', cap', X', _, none, BP.fin (Le.trans hB.old lG0) hSn hXn hdn ((hB.rs.crash (l.getD k default).keep ht134).up (by omega)) kg9 f9, (fun z hz => by cases hz), rfl, rfl, rfl, rfl, rfl, rfl, rfl, trivial⟩
                     |(rcases ht148 with ⟨h1, h2⟩ | ⟨h1, h2, h3⟩
                       ·subst h2
                        exact ⟨Q, F148, _, ma, mc, X, { m with armed := true, left := (l.getD k default).n }, none, BP.fin (m := { m with armed := true, left := (l.getD k default).n }) hB.old (hS148.less lQ12) hB.rx hB.dv ((hB.rs.arm (show 0 ≤ (l.getD k default).n by omega) hok.n1).up (by omega)) hB.q f148_9, (fun z hz => by cases hz), rfl, rfl, rfl, rfl, rfl, rfl, rfl, trivial⟩
                       ·exfalso; subst h1; first | (cases g148; done) | (simp at c150; done))
                     |(rcases ht148 with ⟨h1, h2⟩ | ⟨h1, h2, h3⟩
                       ·exfalso; subst h1; first | (simp at c150; done) | (cases c150; done)
                       ·subst h2
                        exact ⟨Q, F148, _, ma, mc, X, m, none, ⟨hB.old, hS148.less lQ12, hB.rx, hB.dv, hB.rs.up (by omega), hB.q, f148_9, y148_9⟩, (fun z hz => by cases hz), rfl, rfl, rfl, rfl, rfl, rfl, rfl, trivial⟩)
                     |exact ⟨Q, F, s, ma, mc, X, m, none, ⟨hB.old, hB.st.more (le_upd _ _ _ hb12), hB.rx, hB.dv, hB.rs.up (by omega), hB.q, hB.f, y9⟩, (fun z hz => by cases hz), rfl, rfl, rfl, rfl, rfl, rfl, rfl, trivial⟩
                   ·first
                    |(exfalso; exact cnA c150; done)
                    |skip
                     skip
                     refine zau ?_
                     refine yab ?_
                     first
                     |exact ⟨G, F71, _, a', cap', X', _, _, BP.fin (Le.trans hB.old lG0) hSn hXn hdn ((hB.rs.save (l.getD k default).m).1.up (by omega)) kg9 f9, saveM_errOk _ _, rfl, rfl, rfl, rfl, rfl, rfl, rfl, trivial⟩
                     |exact ⟨G, F89, _, a', cap', X', _, none, BP.fin (Le.trans hB.old lG0) hSn hXn hdn ((hB.rs.put hoX ht89).up (by omega)) kg9 f9, (fun z hz => by cases hz), rfl, rfl, rfl, rfl, rfl, rfl, rfl, trivial⟩
                     |exact ⟨Q, F89, _, ma, mc, X, m, none, ⟨hB.old, hS89.less lQ12, hB.rx, hB.dv, (hB.rs.skip hoX ht89 hz2).up (by omega), hB.q, f89_9, y89_9⟩, (fun z hz => by cases hz), rfl, rfl, rfl, rfl, rfl, rfl, rfl, trivial⟩
                     |exact ⟨G, F134, _, a', cap', X', _, none, BP.fin (Le.trans hB.old lG0) hSn hXn hdn ((hB.rs.crash (l.getD k default).keep ht134).up (by omega)) kg9 f9, (fun z hz => by cases hz), rfl, rfl, rfl, rfl, rfl, rfl, rfl, trivial⟩
                     |(rcases ht148 with ⟨h1, h2⟩ | ⟨h1, h2, h3⟩
                       ·subst h2
                        exact ⟨Q, F148, _, ma, mc, X, { m with armed := true, left := (l.getD k default).n }, none, BP.fin (m := { m with armed := true, left := (l.getD k default).n }) hB.old (hS148.less lQ12) hB.rx hB.dv ((hB.rs.arm (show 0 ≤ (l.getD k default).n by omega) hok.n1).up (by omega)) hB.q f148_9, (fun z hz => by cases hz), rfl, rfl, rfl, rfl, rfl, rfl, rfl, trivial⟩
                       ·exfalso; subst h1; first | (cases g148; done) | (simp at c150; done))
                     |(rcases ht148 with ⟨h1, h2⟩ | ⟨h1, h2, h3⟩
                       ·exfalso; subst h1; first | (simp at c150; done) | (cases c150; done)
                       ·subst h2
                        exact ⟨Q, F148, _, ma, mc, X, m, none, ⟨hB.old, hS148.less lQ12, hB.rx, hB.dv, hB.rs.up (by omega), hB.q, f148_9, y148_9⟩, (fun z hz => by cases hz), rfl, rfl, rfl, rfl, rfl, rfl, rfl, trivial⟩)
                     |exact ⟨Q, F, s, ma, mc, X, m, none, ⟨hB.old, hB.st.more (le_upd _ _ _ hb12), hB.rx, hB.dv, hB.rs.up (by omega), hB.q, hB.f, y9⟩, (fun z hz => by cases hz), rfl, rfl, rfl, rfl, rfl, rfl, rfl, trivial⟩
                ·first
                 |(exfalso; exact cnA c139; done)
                 |skip
                  (try replace c139 := yad c139)
                  refine zau ?_
                  refine yab ?_
                  first
                  |exact ⟨G, F71, _, a', cap', X', _, _, BP.fin (Le.trans hB.old lG0) hSn hXn hdn ((hB.rs.save (l.getD k default).m).1.up (by omega)) kg9 f9, saveM_errOk _ _, rfl, rfl, rfl, rfl, rfl, rfl, rfl, trivial⟩
                  |exact ⟨G, F89, _, a', cap', X', _, none, BP.fin (Le.trans hB.old lG0) hSn hXn hdn ((hB.rs.put hoX ht89).up (by omega)) kg9 f9, (fun z hz => by cases hz), rfl, rfl, rfl, rfl, rfl, rfl, rfl, trivial⟩
                  |exact ⟨Q, F89, _, ma, mc, X, m, none, ⟨hB.old, hS89.less lQ12, hB.rx, hB.dv, (hB.rs.skip hoX ht89 hz2).up (by omega), hB.q, f89_9, y89_9⟩, (fun z hz => by cases hz), rfl, rfl, rfl, rfl, rfl, rfl, rfl, trivial⟩
                  |exact ⟨G, F134, _, a', cap', X', _, none, BP.fin (Le.trans hB.old lG0) hSn hXn hdn ((hB.rs.crash (l.getD k default).keep ht134).up (by omega)) kg9 f9, (fun z hz => by cases hz), rfl, rfl, rfl, rfl, rfl, rfl, rfl, trivial⟩
                  |(rcases ht148 with ⟨h1, h2⟩ | ⟨h1, h2, h3⟩
                    ·subst h2
                     exact ⟨Q, F148, _, ma, mc, X, { m with armed := true, left := (l.getD k default).n }, none, BP.fin (m := { m with armed := true, left := (l.getD k default).n }) hB.old (hS148.less lQ12) hB.rx hB.dv ((hB.rs.arm (show 0 ≤ (l.getD k default).n by omega) hok.n1).up (by omega)) hB.q f148_9, (fun z hz => by cases hz), rfl, rfl, rfl, rfl, rfl, rfl, rfl, trivial⟩
                    ·exfalso; subst h1; first | (cases g148; done) | (simp at c150; done))
                  |(rcases ht148 with ⟨h1, h2⟩ | ⟨h1, h2, h3⟩
                    ·exfalso; subst h1; first | (simp at c150; done) | (cases c150; done)
                    ·subst h2
                     exact ⟨Q, F148, _, ma, mc, X, m, none, ⟨hB.old, hS148.less lQ12, hB.rx, hB.dv, hB.rs.up (by omega), hB.q, f148_9, y148_9⟩, (fun z hz => by cases hz), rfl, rfl, rfl, rfl, rfl, rfl, rfl, trivial⟩)
                  |exact ⟨Q, F, s, ma, mc, X, m, none, ⟨hB.old, hB.st.more (le_upd _ _ _ hb12), hB.rx, hB.dv, hB.rs.up (by omega), hB.q, hB.f, y9⟩, (fun z hz => by cases hz), rfl, rfl, rfl, rfl, rfl, rfl, rfl, trivial⟩
         rintro e_ HE ⟨Q2, F2, s2, ma2, mc2, X2, m2, ev, hB2, hev, he⟩
         refine CW_env he.sub ?_; clear he e_
         have hHE : Le H HE := Le.trans hB2.old hB2.st.old
         obtain ⟨s3, hP3, hld3, hby3⟩ := hB2.rs.load
         have k2_9 := hB2.box
         refine zac (fun K36 hK36 => ?_)
         refine zaa ?_
         refine zah rfl ?_
         refine zab (fun K hK r => ?_)
         refine ybR ?_
         refine (loadX hB2.st hB2.rs.sm (by omega) (fun j hj => hB2.rs.bs.rd _)).mono ?_
         rintro v157 H157 ⟨l157, x157, rs157, rfl, ho157, hr157⟩
         obtain ⟨ya, yc, rfl⟩ := ho157.holds.form
         have k157_9 := l157 _ _ hB2.box
         have lH157 : Le H H157 := Le.trans hHE l157
         refine yaf ?_
         refine hK _ _ ?_; clear hK K
         refine zah rfl ?_
         refine zab (fun K hK r => ?_)
         refine yah ?_
         refine hK _ _ ?_; clear hK K
         refine zab (fun K hK r => ?_)
         refine yah ?_
         refine hK _ _ ?_; clear hK K
         refine zab (fun K hK r => ?_)
         refine ybD ?_
         intro b15 hb15
         try have n15_b9 : b9 ≠ b15 := zaf hbA hb15
         try have n15_b12 : b12 ≠ b15 := zaf hbA hb15
         have f15_H : H b15 = none := zag lhA hb15
         refine yaf ?_
         refine hK _ _ ?_; clear hK K
         refine zaI rfl (zas) (fun K hK r => ?_)
         refine yaD ?_
         first | refine zak sz27 bdA hbA bdA plA (by decide) ?_ | refine zal sz27 bdA hbA bdA plA (by decide) ?_
         refine yaf ?_
         refine hK _ _ ?_; clear hK K
         refine zaj rfl ?_
         refine zad ?_
         refine yab ?_
         refine hK36 _ _ ?_; try clear hK36 K36
         refine zac (fun K37 hK37 => ?_)
         refine zaa ?_
         refine zab (fun K hK r => ?_)
         refine yap ?_
         first | refine zax Try.underlying52 rfl sz52 hbA bdA ?_ | refine zaq Try.underlying52 rfl sz52 hbA bdA ?_
         refine ybg ?_
         refine yaf ?_
         refine hK _ _ ?_; clear hK K
         refine zab (fun K hK r => ?_)
         simp only [zaF _ bd31, List.map_toArray, List.map_cons, List.map_nil, eX, ↓reduceIte, Nat.reduceEqDiff, Int.reduceToNat]
         refine (rloadL _ ma2 mc2 X2 (hB2.rx.le (Le.trans hB2.st.old (Le.trans l157 (le_upd _ _ _ hb15)))) m2 hB2.dv hP3 (by omega) hby3).mono ?_
         rintro v162 H162 ⟨l162, x162, rs162, rfl, ho162, hr162⟩
         rw [hld3] at ho162 ⊢
         obtain ⟨za, zc, rfl⟩ := ho162.holds.form
         have hh157 := (ho157.make hb15).le l162
         have k162_9 := l162 _ _ ((zap _ _ (zaf k157_9 hb15)).trans k157_9)
         have k162_15 := l162 b15 _ (zan _ _ _)
         have lH162 : Le H H162 := Le.trans lH157 (Le.trans (le_upd _ _ _ hb15) l162)
         refine yaf ?_
         refine hK _ _ ?_; clear hK K
         refine zah rfl ?_
         refine zab (fun K hK r => ?_)
         refine yah ?_
         refine hK _ _ ?_; clear hK K
         refine zab (fun K hK r => ?_)
         refine yah ?_
         refine hK _ _ ?_; clear hK K
         refine zab (fun K hK r => ?_)
         refine yci ?_
         intro b17 hb17
         try have n17_b9 : b9 ≠ b17 := zaf hbA hb17
         try have n17_b12 : b12 ≠ b17 := zaf hbA hb17
         try have n17_b15 : b15 ≠ b17 := zaf hbA hb17
         have f17_H : H b17 = none := zag lhA hb17
         refine yaf ?_
         refine hK _ _ ?_; clear hK K
         refine zaI rfl (zas) (fun K hK r => ?_)
         refine yaD ?_
         first | refine zak sz24 bdA hbA bdA plA (by decide) ?_ | refine zal sz24 bdA hbA bdA plA (by decide) ?_
         refine yaf ?_
         refine hK _ _ ?_; clear hK K
         refine zaj rfl ?_
         refine zad ?_
         refine yab ?_
         refine hK37 _ _ ?_; try clear hK37 K37
         refine zac (fun K38 hK38 => ?_)
         refine zaa ?_
         refine zah rfl ?_
         refine zab (fun K hK r => ?_)
         refine yar ?_
         refine (num_Num _ ev hev).mono ?_
         rintro v H' ⟨rfl, hq⟩
         have hq := hq.symm
         subst hq
         refine yaf ?_
         refine hK _ _ ?_; clear hK K
         refine zah rfl ?_
         refine zab (fun K hK r => ?_)
         refine yak ?_
         refine hK _ _ ?_; clear hK K
         refine zah rfl ?_
         (first | refine zaA (d := 169) rfl (fun g169 => ?_) (fun g169 => ?_) | skip)
         all_goals try (exfalso; exact cnA g169)
         all_goals (try replace g169 := yad g169)
         all_goals
          refine yaf ?_
          first
          |refine yGT (fun K hK r => ?_)
           refine yai ?_
           refine hK _ _ ?_; clear hK K
          |refine yGF ?_
           refine yaj ?_
          first
          |refine yGT (fun K hK r => ?_)
           refine yar ?_
           refine (num_Num _ s2.loadM.2 (loadM_err s2)).mono ?_
           rintro v H' ⟨rfl, hq⟩
           have hq := hq.symm
           subst hq
           refine yaf ?_
           refine hK _ _ ?_; clear hK K
          |refine yGF ?_
           refine yaj ?_
          first
          |refine yGT (fun K hK r => ?_)
           refine yai ?_
           refine hK _ _ ?_; clear hK K
          |refine yGF ?_
           refine yaj ?_
          first
          |refine yGT (fun K hK r => ?_)
           refine yak ?_
           refine hK _ _ ?_; clear hK K
          |refine yGF ?_
           refine yaj ?_
          refine zab (fun K hK r => ?_)
          refine yal ?_
          refine hK _ _ ?_; clear hK K
          refine zah rfl ?_
          (first | refine zaA (d := 175) rfl (fun g175 => ?_) (fun g175 => ?_) | skip)
          all_goals try (exfalso; exact cnA g175)
          all_goals (try replace g175 := yad g175)
          all_goals
           refine yaf ?_
           first
           |refine yGT (fun K hK r => ?_)
            refine yap ?_
            first | refine zax Try.underlying27 rfl sz27 hbA bdA ?_ | refine zaq Try.underlying27 rfl sz27 hbA bdA ?_
            refine ybg ?_
            refine yaf ?_
            refine hK _ _ ?_; clear hK K
           |refine yGF ?_
            refine yaj ?_
           first
           |refine yGT (fun K hK r => ?_)
            refine yap ?_
            first | refine zax Try.underlying24 rfl sz24 hbA bdA ?_ | refine zaq Try.underlying24 rfl sz24 hbA bdA ?_
            refine ybg ?_
            refine yaf ?_
            refine hK _ _ ?_; clear hK K
           |refine yGF ?_
            refine yaj ?_
           first
           |refine yGT (fun K hK r => ?_)
            simp only [zaF _ bd13, List.map_toArray, List.map_cons, List.map_nil, eX, ↓reduceIte, Nat.reduceEqDiff, Int.reduceToNat]
            refine (same_ok _ s2.loadM.1 ya yc ((hh157.make hb17).holds) s2.loadM.1 za zc ((ho162.make hb17).holds) (loadM_small s2)).mono ?_
            rintro v H' ⟨rfl, hq⟩
            have hq := hq.symm
            subst hq
            refine yaf ?_
            refine hK _ _ ?_; clear hK K
           |refine yGF ?_
            refine yaj ?_
           first
           |refine yGT (fun K hK r => ?_)
            refine yam ?_
            refine hK _ _ ?_; clear hK K
           |refine yGF ?_
            refine yaj ?_
           refine zab (fun K hK r => ?_)
           refine yal ?_
           refine hK _ _ ?_; clear hK K
           refine zad ?_
           refine yab ?_
           refine hK38 _ _ ?_; try clear hK38 K38
           refine zar (fun r => rfl) (fun c180 => ?_) (fun c180 => ?_)
           ·exfalso; first | (exact cnA c180; done) | (simp at c180; done)
           refine zau ?_
           refine yab ?_
           exact ⟨Q2, F2, s2, ma2, mc2, X2, m2, ⟨hB2.old, hB2.st.more (Le.trans l157 (Le.trans (le_upd _ _ _ hb15) (Le.trans l162 (le_upd _ _ _ hb17)))), hB2.rx, hB2.dv, hB2.rs, hB2.q, hB2.f, (zap _ _ (zaf k162_9 hb17)).trans k162_9⟩, rfl, rfl, rfl, rfl, rfl, trivial⟩
        rintro e_ HZ ⟨Qz, Fz, sz_, maz, mcz, Xz, mz, hBz, he⟩
        refine CW_env he.sub ?_; clear he e_
        refine zaa ?_
        refine zab (fun K hK r => ?_)
        refine yaq ?_
        refine hK _ _ ?_; clear hK K
        refine zah rfl ?_
        refine zad ?_
        refine yab ?_
        exact ⟨l.length - (k + 1), by omega, k + 1, _, _, _, _, _, _, _, by omega, rfl, hBz, rfl, rfl, rfl, rfl, rfl, trivial⟩
      ·first
       |(exfalso; exact cnA c60; done)
       |skip
        (try replace c60 := yad c60)
        refine CW_exit ?_
        refine yab ?_
        refine hK19 _ _ ?_; try clear hK19 K19
        refine zac (fun K39 hK39 => ?_)
        refine zaa ?_
        refine zab (fun K hK r => ?_)
        refine ybR ?_
        refine (load_nil _).mono ?_
        rintro v H' ⟨rfl, hq⟩
        have hq := hq.symm
        subst hq
        refine yaf ?_
        refine hK _ _ ?_; clear hK K
        refine zah rfl ?_
        refine zab (fun K hK r => ?_)
        refine yah ?_
        refine hK _ _ ?_; clear hK K
        refine zab (fun K hK r => ?_)
        refine yah ?_
        refine hK _ _ ?_; clear hK K
        refine zab (fun K hK r => ?_)
        refine ybD ?_
        intro b19 hb19
        try have n19_b9 : b9 ≠ b19 := zaf hbA hb19
        have f19_H : H b19 = none := zag lhA hb19
        refine yaf ?_
        refine hK _ _ ?_; clear hK K
        refine zaI rfl (zas) (fun K hK r => ?_)
        refine yaD ?_
        first | refine zak sz27 bdA hbA bdA plA (by decide) ?_ | refine zal sz27 bdA hbA bdA plA (by decide) ?_
        refine yaf ?_
        refine hK _ _ ?_; clear hK K
        refine zaj rfl ?_
        refine zad ?_
        refine yab ?_
        refine hK39 _ _ ?_; try clear hK39 K39
        refine zac (fun K40 hK40 => ?_)
        refine zaa ?_
        refine zah rfl ?_
        refine zab (fun K hK r => ?_)
        simp only [zaF _ bd14, List.map_toArray, List.map_cons, List.map_nil, eX, ↓reduceIte, Nat.reduceEqDiff, Int.reduceToNat]
        refine (num_Is _ (some 1) (fun k hk => by cases hk; decide) 1 (by decide) (by decide)).mono ?_
        rintro v H' ⟨rfl, hq⟩
        have hq := hq.symm
        subst hq
        refine yaf ?_
        refine hK _ _ ?_; clear hK K
        refine zah rfl ?_
        (first | refine zaA (d := 188) rfl (fun g188 => ?_) (fun g188 => ?_) | skip)
        all_goals try (exfalso; exact cnA g188)
        all_goals (try replace g188 := yad g188)
        all_goals
         refine yaf ?_
         first
         |refine yGT (fun K hK r => ?_)
          refine yaT ?_
          refine zaJ (vs := [_]) Try.underlying22 sz3 zr3 rfl bsA (by first | decide | (simp; done)) ?_
          refine yaU ?_
          intro b189 hb189
          try have n189_b9 : b9 ≠ b189 := zaf hbA hb189
          try have n189_b19 : b19 ≠ b189 := zaf hbA hb189
          have f189_H : H b189 = none := zag lhA hb189
          refine yaf ?_
          refine hK _ _ ?_; clear hK K
         |refine yGF ?_
          refine yaj ?_
         first
         |refine yGT (fun K hK r => ?_)
          refine ybE ?_
          rw [fill_one rfl clA bdA]
          rw [fill_one rfl clA bdA]
          rw [fill_one rfl clA bdA]
          refine ybe ?_
          refine yaf ?_
          refine hK _ _ ?_; clear hK K
         |refine yGF ?_
          refine yaj ?_
         first
         |refine yGT (fun K hK r => ?_)
          refine ybQ ?_
          refine (save_nil _ ⟨1, 1, 0, 0, 0, [0]⟩ (some ⟨b189, 0, none⟩) 1 ⟨rfl, .inr ⟨b189, 0, 1, _, _, _, rfl, zan _ _ _, by simp, by simp⟩⟩ (by simp) (by decide)).mono ?_
          rintro v191 H191 ⟨rfl, l191⟩
          have lH191 : Le H H191 := Le.trans lhA l191
          refine yaf ?_
          refine hK _ _ ?_; clear hK K
         |refine yGF ?_
          refine yaj ?_
         first
         |refine yGT (fun K hK r => ?_)
          simp only [zaF _ bd14, List.map_toArray, List.map_cons, List.map_nil, eX, ↓reduceIte, Nat.reduceEqDiff, Int.reduceToNat]
          refine (num_Is _ (some 1) (fun k hk => by cases hk; decide) 1 (by decide) (by decide)).mono ?_
          rintro v H' ⟨rfl, hq⟩
          have hq := hq.symm
          subst hq
          refine yaf ?_
          refine hK _ _ ?_; clear hK K
         |refine yGF ?_
          refine yaj ?_
         refine zab (fun K hK r => ?_)
         refine yal ?_
         refine hK _ _ ?_; clear hK K
         refine zaj rfl ?_
         refine zad ?_
         refine yab ?_
         refine hK40 _ _ ?_; try clear hK40 K40
         refine zaz ?_
         refine yab ?_
         exact ⟨[_], ⟨rfl, trivial⟩, _, Le.refl _, rfl, lhA⟩
end Go.Proofs.Ytigofhhonnbkmaa.HL
end
