/-
  No cell of these rows narrows 'for every input' (looked for: loops, veiled, ifaces, maps, wideKeys, modest, calm, conditions, laid).
  DERIVED. THE GIVEN ROWS OF THIS SEAT. 4 by the template 'for every input the law returns true; each argument reads behind the call as it read before'; 0 by the template 'total and deterministic' (their statements: YtigofhhonnbkmaaTotals.lean).
  GIVEN WITH THE SEED: the statements are not yours to turn. If you find one false, say at which input.
  Laid BY PROGRAM, IN A SANDBOX (cutbox-rows.mjs): the forced cells as the released guide's own fill.sh prints them over the translation 1284d33ae19e150e… (all of the seat's roots in one cut). By AI agents, Wed Nov 11 2026. No macro, syntax, notation, axiom, sorry.
-/
import Derived.Test.YtigofhhonnbkmaaChecked
import GoSem.Claim
import GoSem.ClaimJoined
import GoSem.ClaimMapViews
import Derived.JoinedTies
import Derived.KernelRfl
namespace Go.Proofs.Ytigofhhonnbkmaa
/- THE CELL 'sum', in the pinned program and in every row, IS THE sha256 OF THE DUMP (.gsa) THAT YtigofhhonnbkmaaProg.lean LOADS. Nothing in Lean hashes anything: it is a label: what it is worth is what the hold of that sum in a sandbox is worth. -/
noncomputable def Try.pinned : Pinned := { name := "ytigofhhonnbkmaa", sum := "1284d33ae19e150e2c47c29dc735ed4720ba950384c431a73d409bc68a9fb33d", checked := Try.checked }
namespace Rows
def none {H : Type} : Left H := { results := [], args := [] }

/-- 'sluicewaylaw15.SlotSeals': WHATEVER THE INPUT: true; the input reads as it did. -/
def slotSealsSpec : ChangeSpec := { name := "slotSeals", fn := fun _ => fun
  | [d] => { results := [.lit (.bool true)], args := [d] }
  | _ => none }
def slotSealsRow : OpenClaim := { program := "ytigofhhonnbkmaa", sum := "1284d33ae19e150e2c47c29dc735ed4720ba950384c431a73d409bc68a9fb33d", func := "sluiceway/sluicewaylaw15.SlotSeals", spec := "slotSeals", unfollowed := true, recurses := true, apart := false }
def SlotSealsSaid : Prop := slotSealsRow.holds Try.pinned (OpenSpec.ofChange slotSealsSpec)

/-- ITS FALSE NEIGHBOUR: 'it returns false'. Refute it at one input. -/
def slotSealsWrong : ChangeSpec := { name := "slotSeals", fn := fun _ => fun
  | [d] => { results := [.lit (.bool false)], args := [d] }
  | _ => none }
def SlotSealsWrongFalsely : Prop := slotSealsRow.holds Try.pinned (OpenSpec.ofChange slotSealsWrong)

/-- 'sluicewaylaw15.SlotOpens': WHATEVER THE INPUT: true; the input reads as it did. -/
def slotOpensSpec : ChangeSpec := { name := "slotOpens", fn := fun _ => fun
  | [d] => { results := [.lit (.bool true)], args := [d] }
  | _ => none }
def slotOpensRow : OpenClaim := { program := "ytigofhhonnbkmaa", sum := "1284d33ae19e150e2c47c29dc735ed4720ba950384c431a73d409bc68a9fb33d", func := "sluiceway/sluicewaylaw15.SlotOpens", spec := "slotOpens", unfollowed := true, recurses := true, apart := false }
def SlotOpensSaid : Prop := slotOpensRow.holds Try.pinned (OpenSpec.ofChange slotOpensSpec)

/-- ITS FALSE NEIGHBOUR: 'it returns false'. Refute it at one input. -/
def slotOpensWrong : ChangeSpec := { name := "slotOpens", fn := fun _ => fun
  | [d] => { results := [.lit (.bool false)], args := [d] }
  | _ => none }
def SlotOpensWrongFalsely : Prop := slotOpensRow.holds Try.pinned (OpenSpec.ofChange slotOpensWrong)

/-- 'sluicewaylaw15.SlotPlays': WHATEVER THE INPUT: true; the input reads as it did. -/
def slotPlaysSpec : ChangeSpec := { name := "slotPlays", fn := fun _ => fun
  | [d1, d2] => { results := [.lit (.bool true)], args := [d1, d2] }
  | _ => none }
def slotPlaysRow : OpenClaim := { program := "ytigofhhonnbkmaa", sum := "1284d33ae19e150e2c47c29dc735ed4720ba950384c431a73d409bc68a9fb33d", func := "sluiceway/sluicewaylaw15.SlotPlays", spec := "slotPlays", unfollowed := true, recurses := true, apart := false }
def SlotPlaysSaid : Prop := slotPlaysRow.holds Try.pinned (OpenSpec.ofChange slotPlaysSpec)

/-- ITS FALSE NEIGHBOUR: 'it returns false'. Refute it at one input. -/
def slotPlaysWrong : ChangeSpec := { name := "slotPlays", fn := fun _ => fun
  | [d1, d2] => { results := [.lit (.bool false)], args := [d1, d2] }
  | _ => none }
def SlotPlaysWrongFalsely : Prop := slotPlaysRow.holds Try.pinned (OpenSpec.ofChange slotPlaysWrong)

/-- 'sluicewaylaw15.SlotKeeps': WHATEVER THE INPUT: true; the input reads as it did. -/
def slotKeepsSpec : ChangeSpec := { name := "slotKeeps", fn := fun _ => fun
  | [d1, d2] => { results := [.lit (.bool true)], args := [d1, d2] }
  | _ => none }
def slotKeepsRow : OpenClaim := { program := "ytigofhhonnbkmaa", sum := "1284d33ae19e150e2c47c29dc735ed4720ba950384c431a73d409bc68a9fb33d", func := "sluiceway/sluicewaylaw15.SlotKeeps", spec := "slotKeeps", unfollowed := true, recurses := true, apart := false }
def SlotKeepsSaid : Prop := slotKeepsRow.holds Try.pinned (OpenSpec.ofChange slotKeepsSpec)

/-- ITS FALSE NEIGHBOUR: 'it returns false'. Refute it at one input. -/
def slotKeepsWrong : ChangeSpec := { name := "slotKeeps", fn := fun _ => fun
  | [d1, d2] => { results := [.lit (.bool false)], args := [d1, d2] }
  | _ => none }
def SlotKeepsWrongFalsely : Prop := slotKeepsRow.holds Try.pinned (OpenSpec.ofChange slotKeepsWrong)

/- THE SECOND FORM. 'bulk': how many values and letters a reading holds, each counted each time it is reached (what is shared counts as often as it is met; a slice's spare places count too). A statement '..UptoSaid' is the law's where the arguments, and the package variables that the reading takes, are together of bulk at most 1048576: NARROWER than '..Said'. Prove '..Said' where nothing that the law and all that it calls make is longer than what came in: it says more and counts as full. Else prove '..UptoSaid'. A law counts once. -/
mutual
def uptoBulk {H : Type} : DataW H → Nat
  | .lit (.string bytes) => bytes.length + 1
  | .lit _ => 1
  | .nil => 1
  | .ptr d => uptoBulk d + 1
  | .slice elems spare => uptoBulkAll elems + uptoBulkAll spare + 1
  | .agg parts => uptoBulkAll parts + 1
  | .iface _ d => uptoBulk d + 1
  | .map entries => uptoBulkEntries entries + 1
  | .held _ => 1
def uptoBulkAll {H : Type} : List (DataW H) → Nat
  | [] => 0
  | d :: r => uptoBulk d + uptoBulkAll r
def uptoBulkEntries {H : Type} : List (Lit × DataW H) → Nat
  | [] => 0
  | x :: r => uptoBulkEntry x + uptoBulkEntries r
def uptoBulkEntry {H : Type} : Lit × DataW H → Nat
  | (.string bytes, d) => bytes.length + uptoBulk d + 1
  | (_, d) => uptoBulk d + 1
 end
def uptoSmall : (H : Type) → List (DataW H) → Bool := fun _ ds => decide (uptoBulkAll ds ≤ 1048576)
def OpenSpec.upto (s : _root_.Go.ChangeSpec) : _root_.Go.OpenSpec := { _root_.Go.OpenSpec.ofChange s with cond := some uptoSmall }

/-- 'sluicewaylaw15.SlotSeals', WHERE WHAT IT READS IS OF BULK AT MOST 1048576: true; the input reads as it did. -/
def slotSealsUptoRow : OpenClaim := { program := "ytigofhhonnbkmaa", sum := "1284d33ae19e150e2c47c29dc735ed4720ba950384c431a73d409bc68a9fb33d", func := "sluiceway/sluicewaylaw15.SlotSeals", spec := "slotSeals", unfollowed := true, recurses := true, apart := false, narrowed := true }
def SlotSealsUptoSaid : Prop := slotSealsUptoRow.holds Try.pinned (OpenSpec.upto slotSealsSpec)

/-- 'sluicewaylaw15.SlotOpens', WHERE WHAT IT READS IS OF BULK AT MOST 1048576: true; the input reads as it did. -/
def slotOpensUptoRow : OpenClaim := { program := "ytigofhhonnbkmaa", sum := "1284d33ae19e150e2c47c29dc735ed4720ba950384c431a73d409bc68a9fb33d", func := "sluiceway/sluicewaylaw15.SlotOpens", spec := "slotOpens", unfollowed := true, recurses := true, apart := false, narrowed := true }
def SlotOpensUptoSaid : Prop := slotOpensUptoRow.holds Try.pinned (OpenSpec.upto slotOpensSpec)

/-- 'sluicewaylaw15.SlotPlays', WHERE WHAT IT READS IS OF BULK AT MOST 1048576: true; the input reads as it did. -/
def slotPlaysUptoRow : OpenClaim := { program := "ytigofhhonnbkmaa", sum := "1284d33ae19e150e2c47c29dc735ed4720ba950384c431a73d409bc68a9fb33d", func := "sluiceway/sluicewaylaw15.SlotPlays", spec := "slotPlays", unfollowed := true, recurses := true, apart := false, narrowed := true }
def SlotPlaysUptoSaid : Prop := slotPlaysUptoRow.holds Try.pinned (OpenSpec.upto slotPlaysSpec)

/-- 'sluicewaylaw15.SlotKeeps', WHERE WHAT IT READS IS OF BULK AT MOST 1048576: true; the input reads as it did. -/
def slotKeepsUptoRow : OpenClaim := { program := "ytigofhhonnbkmaa", sum := "1284d33ae19e150e2c47c29dc735ed4720ba950384c431a73d409bc68a9fb33d", func := "sluiceway/sluicewaylaw15.SlotKeeps", spec := "slotKeeps", unfollowed := true, recurses := true, apart := false, narrowed := true }
def SlotKeepsUptoSaid : Prop := slotKeepsUptoRow.holds Try.pinned (OpenSpec.upto slotKeepsSpec)

end Rows
end Go.Proofs.Ytigofhhonnbkmaa
