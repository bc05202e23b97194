/- Values of a kind, as the statements of the wire layer have them; the bytes they have. -/
import Derived.Test.YtlkopcgoaldpeaaHLOwn
import Derived.Test.YtlkopcgoaldpeaaMd03
namespace Go.Proofs.Ytlkopcgoaldpeaa.HL
open Go
structure VL where
  k : Int
  n : Int
  u : Nat
  v : Value
  b : List Int
instance : Inhabited VL := ⟨⟨0, 0, 0, .slice none 0 0, []⟩⟩
abbrev VL.c (x : VL) : List Value := [.int .i64 x.k, .int .i64 x.n, .int .u64 x.u, x.v]
theorem VL.len (x : VL) : x.c.length = 4 := rfl
structure VL.ok (H : Hp) (x : VL) : Prop where
  k1 : -9223372036854775808 ≤ x.k
  k2 : x.k ≤ 9223372036854775807
  n1 : -9223372036854775808 ≤ x.n
  n2 : x.n ≤ 9223372036854775807
  u2 : x.u < 18446744073709551616
  hv : Holds H 1 x.v x.b.length (u8s x.b)
  hb : ByteL x.b
theorem VL.ok.le {H H' : Hp} {x : VL} (h : x.ok H) (k : Le H H') : x.ok H' := ⟨h.k1, h.k2, h.n1, h.n2, h.u2, h.hv.le k, h.hb⟩
abbrev vls (l : List VL) : List Value := l.flatMap VL.c
theorem vl_mem {l : List VL} {i : Nat} (h : i < l.length) : l.getD i default ∈ l := by
  rw [List.getD_eq_getElem?_getD, List.getElem?_eq_getElem h]; exact List.getElem_mem h
/-- a value's bytes -/
def encV (k n : Int) (u : Nat) (b : List Int) : List Int :=
  if k = 1 then cnt (zig n) else if k = 2 then [if n = 1 then 1 else 0] else if k = 3 then cnt b.length ++ b else if k = 4 then cnt b.length ++ b else if k = 5 then [n % 256] else cnt u
def VL.enc (x : VL) : List Int := encV x.k x.n x.u x.b
theorem encV_len {k n : Int} {u : Nat} {b : List Int} (h1 : -9223372036854775808 ≤ n) (h2 : n ≤ 9223372036854775807) (hu : u < 18446744073709551616) (hb : b.length ≤ 1000000) : (encV k n u b).length ≤ b.length + 10 := by
  have e1 := cnt_len10 (zig_lt h1 h2)
  have e2 := cnt_len10 hu
  have e3 := cnt_len10 (n := b.length) (by omega)
  unfold encV
  split
  · omega
  · split
    · simp
    · split
      · simp; omega
      · split
        · simp; omega
        · split
          · simp
          · omega
theorem encV_bytes {k n : Int} {u : Nat} {b : List Int} (hb : ByteL b) : ByteL (encV k n u b) := by
  have ha : ∀ m, ByteL (cnt m ++ b) := fun m x hx => by
    rcases List.mem_append.1 hx with hx | hx
    · exact cnt_bytes _ x hx
    · exact hb x hx
  unfold encV
  split
  · exact cnt_bytes _
  · split
    · intro x hx; simp at hx; subst hx; split <;> omega
    · split
      · exact ha _
      · split
        · exact ha _
        · split
          · intro x hx; simp at hx; omega
          · exact cnt_bytes _
/-- the bytes of the first values -/
def encs (l : List VL) (k : Nat) : List Int := (l.take k).flatMap VL.enc
theorem encs_step {l : List VL} {k : Nat} (h : k < l.length) : encs l (k + 1) = encs l k ++ (l.getD k default).enc := by
  unfold encs
  rw [List.take_succ_eq_append_getElem h, List.flatMap_append]
  simp [List.getD_eq_getElem?_getD, h]
theorem OwnS.block {H : Hp} {E : TypeId} {n cap : Nat} {a : Option Addr} {cs : List Value} {rs : Option Nat} (h : OwnS H E 1 (.slice a n cap) n cs rs) (hn : 0 < n) : ∃ r c, a = some ⟨r, 0, none⟩ ∧ rs = some r ∧ H r = some (.cells c E) ∧ n ≤ cap ∧ c.size = cap ∧ (c.extract 0 n).toList = cs := by
  obtain ⟨_, ⟨_, h3, _⟩ | ⟨r, cap', c, h3, h4, h5, h6, h7, h8⟩⟩ := h
  · omega
  · injection h3 with e1 e2 e3
    subst e1; subst e3
    exact ⟨r, c, rfl, h8, h4, h5, by simpa using h6, by simpa using h7⟩
theorem own_cell {c : Array Value} {n i : Nat} {l : List Int} {k : IntKind} (h : (c.extract 0 n).toList = l.map (Value.int k ·)) (hl : l.length = n) (hi : i < n) : c[i]? = some (.int k (l.getD i 0)) := by
  have h1 := congrArg (fun z => z[i]?) h
  simp only [Array.toList_extract, List.extract_eq_take_drop, List.drop_zero, Nat.sub_zero] at h1
  rw [List.getElem?_take_of_lt hi, Array.getElem?_toList, List.getElem?_map, List.getElem?_eq_getElem (by omega)] at h1
  rw [h1, List.getD_eq_getElem?_getD, List.getElem?_eq_getElem (by omega)]; rfl
end Go.Proofs.Ytlkopcgoaldpeaa.HL
