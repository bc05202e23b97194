/- Programs of transactions, plainly: instructions, their shapes, which are good, their bytes. -/
import Derived.Test.YtlkopcgoaldpeaaMdVL
namespace Go.Proofs.Ytlkopcgoaldpeaa.HL
open Go
structure Cd where
  op : Int
  a : Int
  b : Int
  c : Int
  t : Int
  n : Int
deriving DecidableEq, Inhabited
abbrev Cd.cells (x : Cd) : List Value := [.int .i64 x.op, .int .i64 x.a, .int .i64 x.b, .int .i64 x.c, .int .i64 x.t, .int .i64 x.n]
theorem Cd.len (x : Cd) : x.cells.length = 6 := rfl
structure Cd.ok (x : Cd) : Prop where
  op1 : -9223372036854775808 ≤ x.op
  op2 : x.op ≤ 9223372036854775807
  a1 : -9223372036854775808 ≤ x.a
  a2 : x.a ≤ 9223372036854775807
  b1 : -9223372036854775808 ≤ x.b
  b2 : x.b ≤ 9223372036854775807
  c1 : -9223372036854775808 ≤ x.c
  c2 : x.c ≤ 9223372036854775807
  t1 : -9223372036854775808 ≤ x.t
  t2 : x.t ≤ 9223372036854775807
  n1 : -9223372036854775808 ≤ x.n
  n2 : x.n ≤ 9223372036854775807
abbrev cds (l : List Cd) : List Value := l.flatMap Cd.cells
/-- the letters of an operation's shape -/
def shp (op : Int) : List Int :=
  if op = 0 then [97, 110] else if op = 1 then [97, 98] else if 2 ≤ op ∧ op ≤ 6 then [97, 98, 99] else if op = 7 ∨ op = 8 then [97, 116, 98] else
  if op = 9 then [116, 98, 97] else if op = 10 then [116, 98] else if op = 11 ∨ op = 12 then [97, 116, 98, 99, 107] else if op = 13 then [115, 98, 106, 99] else
  if op = 14 then [98, 106, 99] else if op = 15 then [97] else []
/-- a letter's field -/
def Cd.fld (x : Cd) (l : Int) : Int := if l = 97 ∨ l = 115 then x.a else if l = 98 then x.b else if l = 99 then x.c else if l = 116 then x.t else x.n
def Cd.setf (x : Cd) (l v : Int) : Cd := if l = 97 ∨ l = 115 then { x with a := v } else if l = 98 then { x with b := v } else if l = 99 then { x with c := v } else if l = 116 then { x with t := v } else { x with n := v }
/-- is a field as a letter wants it, with so many instructions behind? -/
def sound (l n behind : Int) : Bool :=
  if l = 97 ∨ l = 98 ∨ l = 99 then decide (0 ≤ n ∧ n ≤ 7) else if l = 116 then decide (0 ≤ n ∧ n ≤ 3) else if l = 107 then decide (1 ≤ n ∧ n ≤ 64) else
  if l = 115 then decide (1 ≤ n ∧ n ≤ behind) else if l = 106 then decide (0 ≤ n ∧ n ≤ 3) else true
def Cd.zero (x : Cd) (ls : List Int) : Cd := ls.foldl (fun y l => y.setf l 0) x
def goodC (x : Cd) (behind : Int) : Bool := decide (shp x.op ≠ []) && (shp x.op).all (fun l => sound l (x.fld l) behind) && decide (x.zero (shp x.op) = ⟨x.op, 0, 0, 0, 0, 0⟩)
/-- where a program isn't good; -2: it is -/
def badAt (cs : List Cd) : Nat → Int
  | 0 => -2
  | k + 1 => if goodC (cs.getD (cs.length - (k + 1)) default) k then badAt cs k else ((cs.length - (k + 1) : Nat) : Int)
def checkP (fuel : Int) (cs : List Cd) : Int := if 1 ≤ fuel ∧ fuel ≤ 1000 ∧ 1 ≤ cs.length ∧ cs.length ≤ 32 then badAt cs cs.length else -1
/-- an instruction's bytes -/
def encF (x : Cd) (l : Int) : List Int := if l = 110 then cnt (zig x.n) else cnt (IntKind.u64.wrap (x.fld l)).toNat
def encC (x : Cd) : List Int := (x.op % 256) :: (shp x.op).flatMap (encF x)
def encP (fuel : Int) (cs : List Cd) : List Int := cnt (IntKind.u64.wrap fuel).toNat ++ cnt cs.length ++ cs.flatMap encC
theorem shp_len (op : Int) : (shp op).length ≤ 5 := by
  unfold shp; repeat' (split <;> try (simp; done))
theorem shp_bytes (op : Int) : ByteL (shp op) := by
  unfold shp
  intro x hx
  repeat' (split at hx <;> try (simp at hx; omega))
  all_goals (simp at hx)
end Go.Proofs.Ytlkopcgoaldpeaa.HL
