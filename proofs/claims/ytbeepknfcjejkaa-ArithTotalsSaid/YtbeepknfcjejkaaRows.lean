/-
  No cell of these rows narrows 'for every input' (looked for: loops, veiled, ifaces, maps, wideKeys, modest, calm, conditions, laid).
  DERIVED. THE GIVEN ROWS OF THIS SEAT. 6 by the template 'for every input the law returns true; each argument reads behind the call as it read before'; 0 by the template 'total and deterministic' (their statements: YtbeepknfcjejkaaTotals.lean).
  GIVEN WITH THE SEED: the statements are not yours to turn. If you find one false, say at which input.
  Laid BY PROGRAM, IN A SANDBOX (cutbox-rows.mjs): the forced cells as the released guide's own fill.sh prints them over the translation b99dde0c10577a7f… (all of the seat's roots in one cut). By AI agents, Wed Nov 11 2026. No macro, syntax, notation, axiom, sorry.
-/
import Derived.Test.YtbeepknfcjejkaaChecked
import GoSem.Claim
import GoSem.ClaimJoined
import GoSem.ClaimMapViews
import Derived.JoinedTies
import Derived.KernelRfl
namespace Go.Proofs.Ytbeepknfcjejkaa
/- THE CELL 'sum', in the pinned program and in every row, IS THE sha256 OF THE DUMP (.gsa) THAT YtbeepknfcjejkaaProg.lean LOADS. Nothing in Lean hashes anything: it is a label: what it is worth is what the hold of that sum in a sandbox is worth. -/
noncomputable def Try.pinned : Pinned := { name := "ytbeepknfcjejkaa", sum := "b99dde0c10577a7fb8af30d553ad035ed3f3f75ee9b91ac1db38d2f8603ab4f0", checked := Try.checked }
namespace Rows
def none {H : Type} : Left H := { results := [], args := [] }

/-- 'sluicewaylaw05.ArithTotals': WHATEVER THE INPUT: true; the input reads as it did. -/
def arithTotalsSpec : ChangeSpec := { name := "arithTotals", fn := fun _ => fun
  | [d1, d2] => { results := [.lit (.bool true)], args := [d1, d2] }
  | _ => none }
def arithTotalsRow : OpenClaim := { program := "ytbeepknfcjejkaa", sum := "b99dde0c10577a7fb8af30d553ad035ed3f3f75ee9b91ac1db38d2f8603ab4f0", func := "sluiceway/sluicewaylaw05.ArithTotals", spec := "arithTotals", inPlace := ["math/bits.Add64"], named := ["math/bits.divideError", "math/bits.overflowError"], apart := false }
def ArithTotalsSaid : Prop := arithTotalsRow.holds Try.pinned (OpenSpec.ofChange arithTotalsSpec)

/-- ITS FALSE NEIGHBOUR: 'it returns false'. Refute it at one input. -/
def arithTotalsWrong : ChangeSpec := { name := "arithTotals", fn := fun _ => fun
  | [d1, d2] => { results := [.lit (.bool false)], args := [d1, d2] }
  | _ => none }
def ArithTotalsWrongFalsely : Prop := arithTotalsRow.holds Try.pinned (OpenSpec.ofChange arithTotalsWrong)

/-- 'sluicewaylaw05.ArithScales': WHATEVER THE INPUT: true; the input reads as it did. -/
def arithScalesSpec : ChangeSpec := { name := "arithScales", fn := fun _ => fun
  | [d1, d2, d3] => { results := [.lit (.bool true)], args := [d1, d2, d3] }
  | _ => none }
def arithScalesRow : OpenClaim := { program := "ytbeepknfcjejkaa", sum := "b99dde0c10577a7fb8af30d553ad035ed3f3f75ee9b91ac1db38d2f8603ab4f0", func := "sluiceway/sluicewaylaw05.ArithScales", spec := "arithScales", inPlace := ["math/bits.Add64"], named := ["math/bits.divideError", "math/bits.overflowError"], apart := false }
def ArithScalesSaid : Prop := arithScalesRow.holds Try.pinned (OpenSpec.ofChange arithScalesSpec)

/-- ITS FALSE NEIGHBOUR: 'it returns false'. Refute it at one input. -/
def arithScalesWrong : ChangeSpec := { name := "arithScales", fn := fun _ => fun
  | [d1, d2, d3] => { results := [.lit (.bool false)], args := [d1, d2, d3] }
  | _ => none }
def ArithScalesWrongFalsely : Prop := arithScalesRow.holds Try.pinned (OpenSpec.ofChange arithScalesWrong)

/-- 'sluicewaylaw05.ArithSums': WHATEVER THE INPUT: true; the input reads as it did. -/
def arithSumsSpec : ChangeSpec := { name := "arithSums", fn := fun _ => fun
  | [d1, d2] => { results := [.lit (.bool true)], args := [d1, d2] }
  | _ => none }
def arithSumsRow : OpenClaim := { program := "ytbeepknfcjejkaa", sum := "b99dde0c10577a7fb8af30d553ad035ed3f3f75ee9b91ac1db38d2f8603ab4f0", func := "sluiceway/sluicewaylaw05.ArithSums", spec := "arithSums", inPlace := ["math/bits.Add64"], named := ["math/bits.divideError", "math/bits.overflowError"], apart := false }
def ArithSumsSaid : Prop := arithSumsRow.holds Try.pinned (OpenSpec.ofChange arithSumsSpec)

/-- ITS FALSE NEIGHBOUR: 'it returns false'. Refute it at one input. -/
def arithSumsWrong : ChangeSpec := { name := "arithSums", fn := fun _ => fun
  | [d1, d2] => { results := [.lit (.bool false)], args := [d1, d2] }
  | _ => none }
def ArithSumsWrongFalsely : Prop := arithSumsRow.holds Try.pinned (OpenSpec.ofChange arithSumsWrong)

/-- 'sluicewaylaw05.ArithFits': WHATEVER THE INPUT: true; the input reads as it did. -/
def arithFitsSpec : ChangeSpec := { name := "arithFits", fn := fun _ => fun
  | [d1, d2] => { results := [.lit (.bool true)], args := [d1, d2] }
  | _ => none }
def arithFitsRow : OpenClaim := { program := "ytbeepknfcjejkaa", sum := "b99dde0c10577a7fb8af30d553ad035ed3f3f75ee9b91ac1db38d2f8603ab4f0", func := "sluiceway/sluicewaylaw05.ArithFits", spec := "arithFits", inPlace := ["math/bits.Add64"], named := ["math/bits.divideError", "math/bits.overflowError"], apart := false }
def ArithFitsSaid : Prop := arithFitsRow.holds Try.pinned (OpenSpec.ofChange arithFitsSpec)

/-- ITS FALSE NEIGHBOUR: 'it returns false'. Refute it at one input. -/
def arithFitsWrong : ChangeSpec := { name := "arithFits", fn := fun _ => fun
  | [d1, d2] => { results := [.lit (.bool false)], args := [d1, d2] }
  | _ => none }
def ArithFitsWrongFalsely : Prop := arithFitsRow.holds Try.pinned (OpenSpec.ofChange arithFitsWrong)

/-- 'sluicewaylaw05.ArithBack': WHATEVER THE INPUT: true; the input reads as it did. -/
def arithBackSpec : ChangeSpec := { name := "arithBack", fn := fun _ => fun
  | [d1, d2] => { results := [.lit (.bool true)], args := [d1, d2] }
  | _ => none }
def arithBackRow : OpenClaim := { program := "ytbeepknfcjejkaa", sum := "b99dde0c10577a7fb8af30d553ad035ed3f3f75ee9b91ac1db38d2f8603ab4f0", func := "sluiceway/sluicewaylaw05.ArithBack", spec := "arithBack", inPlace := ["math/bits.Add64"], named := ["math/bits.divideError", "math/bits.overflowError"], apart := false }
def ArithBackSaid : Prop := arithBackRow.holds Try.pinned (OpenSpec.ofChange arithBackSpec)

/-- ITS FALSE NEIGHBOUR: 'it returns false'. Refute it at one input. -/
def arithBackWrong : ChangeSpec := { name := "arithBack", fn := fun _ => fun
  | [d1, d2] => { results := [.lit (.bool false)], args := [d1, d2] }
  | _ => none }
def ArithBackWrongFalsely : Prop := arithBackRow.holds Try.pinned (OpenSpec.ofChange arithBackWrong)

/-- 'sluicewaylaw05.ArithDivides': WHATEVER THE INPUT: true; the input reads as it did. -/
def arithDividesSpec : ChangeSpec := { name := "arithDivides", fn := fun _ => fun
  | [d1, d2] => { results := [.lit (.bool true)], args := [d1, d2] }
  | _ => none }
def arithDividesRow : OpenClaim := { program := "ytbeepknfcjejkaa", sum := "b99dde0c10577a7fb8af30d553ad035ed3f3f75ee9b91ac1db38d2f8603ab4f0", func := "sluiceway/sluicewaylaw05.ArithDivides", spec := "arithDivides", inPlace := ["math/bits.Add64"], named := ["math/bits.divideError", "math/bits.overflowError"], apart := false }
def ArithDividesSaid : Prop := arithDividesRow.holds Try.pinned (OpenSpec.ofChange arithDividesSpec)

/-- ITS FALSE NEIGHBOUR: 'it returns false'. Refute it at one input. -/
def arithDividesWrong : ChangeSpec := { name := "arithDivides", fn := fun _ => fun
  | [d1, d2] => { results := [.lit (.bool false)], args := [d1, d2] }
  | _ => none }
def ArithDividesWrongFalsely : Prop := arithDividesRow.holds Try.pinned (OpenSpec.ofChange arithDividesWrong)

/- THE SECOND FORM. 'bulk': how many values and letters a reading holds, each counted each time it is reached (what is shared counts as often as it is met; a slice's spare places count too). A statement '..UptoSaid' is the law's where the arguments, and the package variables that the reading takes, are together of bulk at most 1048576: NARROWER than '..Said'. Prove '..Said' where nothing that the law and all that it calls make is longer than what came in: it says more and counts as full. Else prove '..UptoSaid'. A law counts once. -/
mutual
def uptoBulk {H : Type} : DataW H → Nat
  | .lit (.string bytes) => bytes.length + 1
  | .lit _ => 1
  | .nil => 1
  | .ptr d => uptoBulk d + 1
  | .slice elems spare => uptoBulkAll elems + uptoBulkAll spare + 1
  | .agg parts => uptoBulkAll parts + 1
  | .iface _ d => uptoBulk d + 1
  | .map entries => uptoBulkEntries entries + 1
  | .held _ => 1
def uptoBulkAll {H : Type} : List (DataW H) → Nat
  | [] => 0
  | d :: r => uptoBulk d + uptoBulkAll r
def uptoBulkEntries {H : Type} : List (Lit × DataW H) → Nat
  | [] => 0
  | x :: r => uptoBulkEntry x + uptoBulkEntries r
def uptoBulkEntry {H : Type} : Lit × DataW H → Nat
  | (.string bytes, d) => bytes.length + uptoBulk d + 1
  | (_, d) => uptoBulk d + 1
 end
def uptoSmall : (H : Type) → List (DataW H) → Bool := fun _ ds => decide (uptoBulkAll ds ≤ 1048576)
def OpenSpec.upto (s : _root_.Go.ChangeSpec) : _root_.Go.OpenSpec := { _root_.Go.OpenSpec.ofChange s with cond := some uptoSmall }

/-- 'sluicewaylaw05.ArithTotals', WHERE WHAT IT READS IS OF BULK AT MOST 1048576: true; the input reads as it did. -/
def arithTotalsUptoRow : OpenClaim := { program := "ytbeepknfcjejkaa", sum := "b99dde0c10577a7fb8af30d553ad035ed3f3f75ee9b91ac1db38d2f8603ab4f0", func := "sluiceway/sluicewaylaw05.ArithTotals", spec := "arithTotals", inPlace := ["math/bits.Add64"], named := ["math/bits.divideError", "math/bits.overflowError"], apart := false, narrowed := true }
def ArithTotalsUptoSaid : Prop := arithTotalsUptoRow.holds Try.pinned (OpenSpec.upto arithTotalsSpec)

/-- 'sluicewaylaw05.ArithScales', WHERE WHAT IT READS IS OF BULK AT MOST 1048576: true; the input reads as it did. -/
def arithScalesUptoRow : OpenClaim := { program := "ytbeepknfcjejkaa", sum := "b99dde0c10577a7fb8af30d553ad035ed3f3f75ee9b91ac1db38d2f8603ab4f0", func := "sluiceway/sluicewaylaw05.ArithScales", spec := "arithScales", inPlace := ["math/bits.Add64"], named := ["math/bits.divideError", "math/bits.overflowError"], apart := false, narrowed := true }
def ArithScalesUptoSaid : Prop := arithScalesUptoRow.holds Try.pinned (OpenSpec.upto arithScalesSpec)

/-- 'sluicewaylaw05.ArithSums', WHERE WHAT IT READS IS OF BULK AT MOST 1048576: true; the input reads as it did. -/
def arithSumsUptoRow : OpenClaim := { program := "ytbeepknfcjejkaa", sum := "b99dde0c10577a7fb8af30d553ad035ed3f3f75ee9b91ac1db38d2f8603ab4f0", func := "sluiceway/sluicewaylaw05.ArithSums", spec := "arithSums", inPlace := ["math/bits.Add64"], named := ["math/bits.divideError", "math/bits.overflowError"], apart := false, narrowed := true }
def ArithSumsUptoSaid : Prop := arithSumsUptoRow.holds Try.pinned (OpenSpec.upto arithSumsSpec)

/-- 'sluicewaylaw05.ArithFits', WHERE WHAT IT READS IS OF BULK AT MOST 1048576: true; the input reads as it did. -/
def arithFitsUptoRow : OpenClaim := { program := "ytbeepknfcjejkaa", sum := "b99dde0c10577a7fb8af30d553ad035ed3f3f75ee9b91ac1db38d2f8603ab4f0", func := "sluiceway/sluicewaylaw05.ArithFits", spec := "arithFits", inPlace := ["math/bits.Add64"], named := ["math/bits.divideError", "math/bits.overflowError"], apart := false, narrowed := true }
def ArithFitsUptoSaid : Prop := arithFitsUptoRow.holds Try.pinned (OpenSpec.upto arithFitsSpec)

/-- 'sluicewaylaw05.ArithBack', WHERE WHAT IT READS IS OF BULK AT MOST 1048576: true; the input reads as it did. -/
def arithBackUptoRow : OpenClaim := { program := "ytbeepknfcjejkaa", sum := "b99dde0c10577a7fb8af30d553ad035ed3f3f75ee9b91ac1db38d2f8603ab4f0", func := "sluiceway/sluicewaylaw05.ArithBack", spec := "arithBack", inPlace := ["math/bits.Add64"], named := ["math/bits.divideError", "math/bits.overflowError"], apart := false, narrowed := true }
def ArithBackUptoSaid : Prop := arithBackUptoRow.holds Try.pinned (OpenSpec.upto arithBackSpec)

/-- 'sluicewaylaw05.ArithDivides', WHERE WHAT IT READS IS OF BULK AT MOST 1048576: true; the input reads as it did. -/
def arithDividesUptoRow : OpenClaim := { program := "ytbeepknfcjejkaa", sum := "b99dde0c10577a7fb8af30d553ad035ed3f3f75ee9b91ac1db38d2f8603ab4f0", func := "sluiceway/sluicewaylaw05.ArithDivides", spec := "arithDivides", inPlace := ["math/bits.Add64"], named := ["math/bits.divideError", "math/bits.overflowError"], apart := false, narrowed := true }
def ArithDividesUptoSaid : Prop := arithDividesUptoRow.holds Try.pinned (OpenSpec.upto arithDividesSpec)

end Rows
end Go.Proofs.Ytbeepknfcjejkaa
