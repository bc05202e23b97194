/-
  No cell of these rows narrows 'for every input' (looked for: loops, veiled, ifaces, maps, wideKeys, modest, calm, conditions, laid).
  DERIVED. THE GIVEN ROWS OF THIS SEAT. 5 by the template 'for every input the law returns true; each argument reads behind the call as it read before'; 0 by the template 'total and deterministic' (their statements: YtkmjncmdhinlgaaTotals.lean).
  GIVEN WITH THE SEED: the statements are not yours to turn. If you find one false, say at which input.
  Laid BY PROGRAM, IN A SANDBOX (cutbox-rows.mjs): the forced cells as the released guide's own fill.sh prints them over the translation 8fada8266ddbc610… (all of the seat's roots in one cut). By AI agents, Wed Nov 11 2026. No macro, syntax, notation, axiom, sorry.
-/
import Derived.Test.YtkmjncmdhinlgaaChecked
import GoSem.Claim
import GoSem.ClaimJoined
import GoSem.ClaimMapViews
import Derived.JoinedTies
import Derived.KernelRfl
namespace Go.Proofs.Ytkmjncmdhinlgaa
/- THE CELL 'sum', in the pinned program and in every row, IS THE sha256 OF THE DUMP (.gsa) THAT YtkmjncmdhinlgaaProg.lean LOADS. Nothing in Lean hashes anything: it is a label: what it is worth is what the hold of that sum in a sandbox is worth. -/
noncomputable def Try.pinned : Pinned := { name := "ytkmjncmdhinlgaa", sum := "8fada8266ddbc610cd3b2fcd27f0d8321018cac263f37ce6e46b98069e1f7abf", checked := Try.checked }
namespace Rows
def none {H : Type} : Left H := { results := [], args := [] }

/-- 'sluicewaylaw02.DevBytes': WHATEVER THE INPUT: true; the input reads as it did. -/
def devBytesSpec : ChangeSpec := { name := "devBytes", fn := fun _ => fun
  | [d1, d2] => { results := [.lit (.bool true)], args := [d1, d2] }
  | _ => none }
def devBytesRow : OpenClaim := { program := "ytkmjncmdhinlgaa", sum := "8fada8266ddbc610cd3b2fcd27f0d8321018cac263f37ce6e46b98069e1f7abf", func := "sluiceway/sluicewaylaw02.DevBytes", spec := "devBytes", unfollowed := true, recurses := true, apart := false }
def DevBytesSaid : Prop := devBytesRow.holds Try.pinned (OpenSpec.ofChange devBytesSpec)

/-- ITS FALSE NEIGHBOUR: 'it returns false'. Refute it at one input. -/
def devBytesWrong : ChangeSpec := { name := "devBytes", fn := fun _ => fun
  | [d1, d2] => { results := [.lit (.bool false)], args := [d1, d2] }
  | _ => none }
def DevBytesWrongFalsely : Prop := devBytesRow.holds Try.pinned (OpenSpec.ofChange devBytesWrong)

/-- 'sluicewaylaw02.DevAlone': WHATEVER THE INPUT: true; the input reads as it did. -/
def devAloneSpec : ChangeSpec := { name := "devAlone", fn := fun _ => fun
  | [d1, d2] => { results := [.lit (.bool true)], args := [d1, d2] }
  | _ => none }
def devAloneRow : OpenClaim := { program := "ytkmjncmdhinlgaa", sum := "8fada8266ddbc610cd3b2fcd27f0d8321018cac263f37ce6e46b98069e1f7abf", func := "sluiceway/sluicewaylaw02.DevAlone", spec := "devAlone", unfollowed := true, recurses := true, apart := false }
def DevAloneSaid : Prop := devAloneRow.holds Try.pinned (OpenSpec.ofChange devAloneSpec)

/-- ITS FALSE NEIGHBOUR: 'it returns false'. Refute it at one input. -/
def devAloneWrong : ChangeSpec := { name := "devAlone", fn := fun _ => fun
  | [d1, d2] => { results := [.lit (.bool false)], args := [d1, d2] }
  | _ => none }
def DevAloneWrongFalsely : Prop := devAloneRow.holds Try.pinned (OpenSpec.ofChange devAloneWrong)

/-- 'sluicewaylaw02.DevArmed': WHATEVER THE INPUT: true; the input reads as it did. -/
def devArmedSpec : ChangeSpec := { name := "devArmed", fn := fun _ => fun
  | [d1, d2] => { results := [.lit (.bool true)], args := [d1, d2] }
  | _ => none }
def devArmedRow : OpenClaim := { program := "ytkmjncmdhinlgaa", sum := "8fada8266ddbc610cd3b2fcd27f0d8321018cac263f37ce6e46b98069e1f7abf", func := "sluiceway/sluicewaylaw02.DevArmed", spec := "devArmed", unfollowed := true, recurses := true, apart := false }
def DevArmedSaid : Prop := devArmedRow.holds Try.pinned (OpenSpec.ofChange devArmedSpec)

/-- ITS FALSE NEIGHBOUR: 'it returns false'. Refute it at one input. -/
def devArmedWrong : ChangeSpec := { name := "devArmed", fn := fun _ => fun
  | [d1, d2] => { results := [.lit (.bool false)], args := [d1, d2] }
  | _ => none }
def DevArmedWrongFalsely : Prop := devArmedRow.holds Try.pinned (OpenSpec.ofChange devArmedWrong)

/-- 'sluicewaylaw02.DevPlays': WHATEVER THE INPUT: true; the input reads as it did. -/
def devPlaysSpec : ChangeSpec := { name := "devPlays", fn := fun _ => fun
  | [d1, d2] => { results := [.lit (.bool true)], args := [d1, d2] }
  | _ => none }
def devPlaysRow : OpenClaim := { program := "ytkmjncmdhinlgaa", sum := "8fada8266ddbc610cd3b2fcd27f0d8321018cac263f37ce6e46b98069e1f7abf", func := "sluiceway/sluicewaylaw02.DevPlays", spec := "devPlays", unfollowed := true, recurses := true, apart := false }
def DevPlaysSaid : Prop := devPlaysRow.holds Try.pinned (OpenSpec.ofChange devPlaysSpec)

/-- ITS FALSE NEIGHBOUR: 'it returns false'. Refute it at one input. -/
def devPlaysWrong : ChangeSpec := { name := "devPlays", fn := fun _ => fun
  | [d1, d2] => { results := [.lit (.bool false)], args := [d1, d2] }
  | _ => none }
def DevPlaysWrongFalsely : Prop := devPlaysRow.holds Try.pinned (OpenSpec.ofChange devPlaysWrong)

/-- 'sluicewaylaw02.DevCopies': WHATEVER THE INPUT: true; the input reads as it did. -/
def devCopiesSpec : ChangeSpec := { name := "devCopies", fn := fun _ => fun
  | [d1, d2, d3] => { results := [.lit (.bool true)], args := [d1, d2, d3] }
  | _ => none }
def devCopiesRow : OpenClaim := { program := "ytkmjncmdhinlgaa", sum := "8fada8266ddbc610cd3b2fcd27f0d8321018cac263f37ce6e46b98069e1f7abf", func := "sluiceway/sluicewaylaw02.DevCopies", spec := "devCopies", inPlace := ["maps.clone"], unfollowed := true, recurses := true, apart := false }
def DevCopiesSaid : Prop := devCopiesRow.holds Try.pinned (OpenSpec.ofChange devCopiesSpec)

/-- ITS FALSE NEIGHBOUR: 'it returns false'. Refute it at one input. -/
def devCopiesWrong : ChangeSpec := { name := "devCopies", fn := fun _ => fun
  | [d1, d2, d3] => { results := [.lit (.bool false)], args := [d1, d2, d3] }
  | _ => none }
def DevCopiesWrongFalsely : Prop := devCopiesRow.holds Try.pinned (OpenSpec.ofChange devCopiesWrong)

/- THE SECOND FORM. 'bulk': how many values and letters a reading holds, each counted each time it is reached (what is shared counts as often as it is met; a slice's spare places count too). A statement '..UptoSaid' is the law's where the arguments, and the package variables that the reading takes, are together of bulk at most 1048576: NARROWER than '..Said'. Prove '..Said' where nothing that the law and all that it calls make is longer than what came in: it says more and counts as full. Else prove '..UptoSaid'. A law counts once. -/
mutual
def uptoBulk {H : Type} : DataW H → Nat
  | .lit (.string bytes) => bytes.length + 1
  | .lit _ => 1
  | .nil => 1
  | .ptr d => uptoBulk d + 1
  | .slice elems spare => uptoBulkAll elems + uptoBulkAll spare + 1
  | .agg parts => uptoBulkAll parts + 1
  | .iface _ d => uptoBulk d + 1
  | .map entries => uptoBulkEntries entries + 1
  | .held _ => 1
def uptoBulkAll {H : Type} : List (DataW H) → Nat
  | [] => 0
  | d :: r => uptoBulk d + uptoBulkAll r
def uptoBulkEntries {H : Type} : List (Lit × DataW H) → Nat
  | [] => 0
  | x :: r => uptoBulkEntry x + uptoBulkEntries r
def uptoBulkEntry {H : Type} : Lit × DataW H → Nat
  | (.string bytes, d) => bytes.length + uptoBulk d + 1
  | (_, d) => uptoBulk d + 1
 end
def uptoSmall : (H : Type) → List (DataW H) → Bool := fun _ ds => decide (uptoBulkAll ds ≤ 1048576)
def OpenSpec.upto (s : _root_.Go.ChangeSpec) : _root_.Go.OpenSpec := { _root_.Go.OpenSpec.ofChange s with cond := some uptoSmall }

/-- 'sluicewaylaw02.DevBytes', WHERE WHAT IT READS IS OF BULK AT MOST 1048576: true; the input reads as it did. -/
def devBytesUptoRow : OpenClaim := { program := "ytkmjncmdhinlgaa", sum := "8fada8266ddbc610cd3b2fcd27f0d8321018cac263f37ce6e46b98069e1f7abf", func := "sluiceway/sluicewaylaw02.DevBytes", spec := "devBytes", unfollowed := true, recurses := true, apart := false, narrowed := true }
def DevBytesUptoSaid : Prop := devBytesUptoRow.holds Try.pinned (OpenSpec.upto devBytesSpec)

/-- 'sluicewaylaw02.DevAlone', WHERE WHAT IT READS IS OF BULK AT MOST 1048576: true; the input reads as it did. -/
def devAloneUptoRow : OpenClaim := { program := "ytkmjncmdhinlgaa", sum := "8fada8266ddbc610cd3b2fcd27f0d8321018cac263f37ce6e46b98069e1f7abf", func := "sluiceway/sluicewaylaw02.DevAlone", spec := "devAlone", unfollowed := true, recurses := true, apart := false, narrowed := true }
def DevAloneUptoSaid : Prop := devAloneUptoRow.holds Try.pinned (OpenSpec.upto devAloneSpec)

/-- 'sluicewaylaw02.DevArmed', WHERE WHAT IT READS IS OF BULK AT MOST 1048576: true; the input reads as it did. -/
def devArmedUptoRow : OpenClaim := { program := "ytkmjncmdhinlgaa", sum := "8fada8266ddbc610cd3b2fcd27f0d8321018cac263f37ce6e46b98069e1f7abf", func := "sluiceway/sluicewaylaw02.DevArmed", spec := "devArmed", unfollowed := true, recurses := true, apart := false, narrowed := true }
def DevArmedUptoSaid : Prop := devArmedUptoRow.holds Try.pinned (OpenSpec.upto devArmedSpec)

/-- 'sluicewaylaw02.DevPlays', WHERE WHAT IT READS IS OF BULK AT MOST 1048576: true; the input reads as it did. -/
def devPlaysUptoRow : OpenClaim := { program := "ytkmjncmdhinlgaa", sum := "8fada8266ddbc610cd3b2fcd27f0d8321018cac263f37ce6e46b98069e1f7abf", func := "sluiceway/sluicewaylaw02.DevPlays", spec := "devPlays", unfollowed := true, recurses := true, apart := false, narrowed := true }
def DevPlaysUptoSaid : Prop := devPlaysUptoRow.holds Try.pinned (OpenSpec.upto devPlaysSpec)

/-- 'sluicewaylaw02.DevCopies', WHERE WHAT IT READS IS OF BULK AT MOST 1048576: true; the input reads as it did. -/
def devCopiesUptoRow : OpenClaim := { program := "ytkmjncmdhinlgaa", sum := "8fada8266ddbc610cd3b2fcd27f0d8321018cac263f37ce6e46b98069e1f7abf", func := "sluiceway/sluicewaylaw02.DevCopies", spec := "devCopies", inPlace := ["maps.clone"], unfollowed := true, recurses := true, apart := false, narrowed := true }
def DevCopiesUptoSaid : Prop := devCopiesUptoRow.holds Try.pinned (OpenSpec.upto devCopiesSpec)

end Rows
end Go.Proofs.Ytkmjncmdhinlgaa
