/-
  No cell of these rows narrows 'for every input' (looked for: loops, veiled, ifaces, maps, wideKeys, modest, calm, conditions, laid).
  DERIVED. THE GIVEN ROWS OF THIS SEAT. 4 by the template 'for every input the law returns true; each argument reads behind the call as it read before'; 0 by the template 'total and deterministic' (their statements: YtfpicoflpddieaaTotals.lean).
  GIVEN WITH THE SEED: the statements are not yours to turn. If you find one false, say at which input.
  Laid BY PROGRAM, IN A SANDBOX (cutbox-rows.mjs): the forced cells as the released guide's own fill.sh prints them over the translation 6d2a1076d6e778e0… (all of the seat's roots in one cut). By AI agents, Wed Nov 11 2026. No macro, syntax, notation, axiom, sorry.
-/
import Derived.Test.YtfpicoflpddieaaChecked
import GoSem.Claim
import GoSem.ClaimJoined
import GoSem.ClaimMapViews
import Derived.JoinedTies
import Derived.KernelRfl
namespace Go.Proofs.Ytfpicoflpddieaa
/- THE CELL 'sum', in the pinned program and in every row, IS THE sha256 OF THE DUMP (.gsa) THAT YtfpicoflpddieaaProg.lean LOADS. Nothing in Lean hashes anything: it is a label: what it is worth is what the hold of that sum in a sandbox is worth. -/
noncomputable def Try.pinned : Pinned := { name := "ytfpicoflpddieaa", sum := "6d2a1076d6e778e0568017ed144a1cc356859cee19b7c9bba5afc2a96450f1b4", checked := Try.checked }
namespace Rows
def none {H : Type} : Left H := { results := [], args := [] }

/-- 'sluicewaylaw12.CostCommands': WHATEVER THE INPUT: true; the input reads as it did. -/
def costCommandsSpec : ChangeSpec := { name := "costCommands", fn := fun _ => fun
  | [d] => { results := [.lit (.bool true)], args := [d] }
  | _ => none }
def costCommandsRow : OpenClaim := { program := "ytfpicoflpddieaa", sum := "6d2a1076d6e778e0568017ed144a1cc356859cee19b7c9bba5afc2a96450f1b4", func := "sluiceway/sluicewaylaw12.CostCommands", spec := "costCommands", inPlace := ["math/bits.Add64"], apart := false }
def CostCommandsSaid : Prop := costCommandsRow.holds Try.pinned (OpenSpec.ofChange costCommandsSpec)

/-- ITS FALSE NEIGHBOUR: 'it returns false'. Refute it at one input. -/
def costCommandsWrong : ChangeSpec := { name := "costCommands", fn := fun _ => fun
  | [d] => { results := [.lit (.bool false)], args := [d] }
  | _ => none }
def CostCommandsWrongFalsely : Prop := costCommandsRow.holds Try.pinned (OpenSpec.ofChange costCommandsWrong)

/-- 'sluicewaylaw12.CostSteady': WHATEVER THE INPUT: true; the input reads as it did. -/
def costSteadySpec : ChangeSpec := { name := "costSteady", fn := fun _ => fun
  | [d1, d2, d3] => { results := [.lit (.bool true)], args := [d1, d2, d3] }
  | _ => none }
def costSteadyRow : OpenClaim := { program := "ytfpicoflpddieaa", sum := "6d2a1076d6e778e0568017ed144a1cc356859cee19b7c9bba5afc2a96450f1b4", func := "sluiceway/sluicewaylaw12.CostSteady", spec := "costSteady", inPlace := ["math/bits.Add64"], apart := false }
def CostSteadySaid : Prop := costSteadyRow.holds Try.pinned (OpenSpec.ofChange costSteadySpec)

/-- ITS FALSE NEIGHBOUR: 'it returns false'. Refute it at one input. -/
def costSteadyWrong : ChangeSpec := { name := "costSteady", fn := fun _ => fun
  | [d1, d2, d3] => { results := [.lit (.bool false)], args := [d1, d2, d3] }
  | _ => none }
def CostSteadyWrongFalsely : Prop := costSteadyRow.holds Try.pinned (OpenSpec.ofChange costSteadyWrong)

/-- 'sluicewaylaw12.CostPlaces': WHATEVER THE INPUT: true; the input reads as it did. -/
def costPlacesSpec : ChangeSpec := { name := "costPlaces", fn := fun _ => fun
  | [d1, d2, d3] => { results := [.lit (.bool true)], args := [d1, d2, d3] }
  | _ => none }
def costPlacesRow : OpenClaim := { program := "ytfpicoflpddieaa", sum := "6d2a1076d6e778e0568017ed144a1cc356859cee19b7c9bba5afc2a96450f1b4", func := "sluiceway/sluicewaylaw12.CostPlaces", spec := "costPlaces", inPlace := ["math/bits.Add64"], apart := false }
def CostPlacesSaid : Prop := costPlacesRow.holds Try.pinned (OpenSpec.ofChange costPlacesSpec)

/-- ITS FALSE NEIGHBOUR: 'it returns false'. Refute it at one input. -/
def costPlacesWrong : ChangeSpec := { name := "costPlaces", fn := fun _ => fun
  | [d1, d2, d3] => { results := [.lit (.bool false)], args := [d1, d2, d3] }
  | _ => none }
def CostPlacesWrongFalsely : Prop := costPlacesRow.holds Try.pinned (OpenSpec.ofChange costPlacesWrong)

/-- 'sluicewaylaw12.CostWithin': WHATEVER THE INPUT: true; the input reads as it did. -/
def costWithinSpec : ChangeSpec := { name := "costWithin", fn := fun _ => fun
  | [d1, d2, d3] => { results := [.lit (.bool true)], args := [d1, d2, d3] }
  | _ => none }
def costWithinRow : OpenClaim := { program := "ytfpicoflpddieaa", sum := "6d2a1076d6e778e0568017ed144a1cc356859cee19b7c9bba5afc2a96450f1b4", func := "sluiceway/sluicewaylaw12.CostWithin", spec := "costWithin", inPlace := ["math/bits.Add64"], apart := false }
def CostWithinSaid : Prop := costWithinRow.holds Try.pinned (OpenSpec.ofChange costWithinSpec)

/-- ITS FALSE NEIGHBOUR: 'it returns false'. Refute it at one input. -/
def costWithinWrong : ChangeSpec := { name := "costWithin", fn := fun _ => fun
  | [d1, d2, d3] => { results := [.lit (.bool false)], args := [d1, d2, d3] }
  | _ => none }
def CostWithinWrongFalsely : Prop := costWithinRow.holds Try.pinned (OpenSpec.ofChange costWithinWrong)

/- THE SECOND FORM. 'bulk': how many values and letters a reading holds, each counted each time it is reached (what is shared counts as often as it is met; a slice's spare places count too). A statement '..UptoSaid' is the law's where the arguments, and the package variables that the reading takes, are together of bulk at most 1048576: NARROWER than '..Said'. Prove '..Said' where nothing that the law and all that it calls make is longer than what came in: it says more and counts as full. Else prove '..UptoSaid'. A law counts once. -/
mutual
def uptoBulk {H : Type} : DataW H → Nat
  | .lit (.string bytes) => bytes.length + 1
  | .lit _ => 1
  | .nil => 1
  | .ptr d => uptoBulk d + 1
  | .slice elems spare => uptoBulkAll elems + uptoBulkAll spare + 1
  | .agg parts => uptoBulkAll parts + 1
  | .iface _ d => uptoBulk d + 1
  | .map entries => uptoBulkEntries entries + 1
  | .held _ => 1
def uptoBulkAll {H : Type} : List (DataW H) → Nat
  | [] => 0
  | d :: r => uptoBulk d + uptoBulkAll r
def uptoBulkEntries {H : Type} : List (Lit × DataW H) → Nat
  | [] => 0
  | x :: r => uptoBulkEntry x + uptoBulkEntries r
def uptoBulkEntry {H : Type} : Lit × DataW H → Nat
  | (.string bytes, d) => bytes.length + uptoBulk d + 1
  | (_, d) => uptoBulk d + 1
 end
def uptoSmall : (H : Type) → List (DataW H) → Bool := fun _ ds => decide (uptoBulkAll ds ≤ 1048576)
def OpenSpec.upto (s : _root_.Go.ChangeSpec) : _root_.Go.OpenSpec := { _root_.Go.OpenSpec.ofChange s with cond := some uptoSmall }

/-- 'sluicewaylaw12.CostCommands', WHERE WHAT IT READS IS OF BULK AT MOST 1048576: true; the input reads as it did. -/
def costCommandsUptoRow : OpenClaim := { program := "ytfpicoflpddieaa", sum := "6d2a1076d6e778e0568017ed144a1cc356859cee19b7c9bba5afc2a96450f1b4", func := "sluiceway/sluicewaylaw12.CostCommands", spec := "costCommands", inPlace := ["math/bits.Add64"], apart := false, narrowed := true }
def CostCommandsUptoSaid : Prop := costCommandsUptoRow.holds Try.pinned (OpenSpec.upto costCommandsSpec)

/-- 'sluicewaylaw12.CostSteady', WHERE WHAT IT READS IS OF BULK AT MOST 1048576: true; the input reads as it did. -/
def costSteadyUptoRow : OpenClaim := { program := "ytfpicoflpddieaa", sum := "6d2a1076d6e778e0568017ed144a1cc356859cee19b7c9bba5afc2a96450f1b4", func := "sluiceway/sluicewaylaw12.CostSteady", spec := "costSteady", inPlace := ["math/bits.Add64"], apart := false, narrowed := true }
def CostSteadyUptoSaid : Prop := costSteadyUptoRow.holds Try.pinned (OpenSpec.upto costSteadySpec)

/-- 'sluicewaylaw12.CostPlaces', WHERE WHAT IT READS IS OF BULK AT MOST 1048576: true; the input reads as it did. -/
def costPlacesUptoRow : OpenClaim := { program := "ytfpicoflpddieaa", sum := "6d2a1076d6e778e0568017ed144a1cc356859cee19b7c9bba5afc2a96450f1b4", func := "sluiceway/sluicewaylaw12.CostPlaces", spec := "costPlaces", inPlace := ["math/bits.Add64"], apart := false, narrowed := true }
def CostPlacesUptoSaid : Prop := costPlacesUptoRow.holds Try.pinned (OpenSpec.upto costPlacesSpec)

/-- 'sluicewaylaw12.CostWithin', WHERE WHAT IT READS IS OF BULK AT MOST 1048576: true; the input reads as it did. -/
def costWithinUptoRow : OpenClaim := { program := "ytfpicoflpddieaa", sum := "6d2a1076d6e778e0568017ed144a1cc356859cee19b7c9bba5afc2a96450f1b4", func := "sluiceway/sluicewaylaw12.CostWithin", spec := "costWithin", inPlace := ["math/bits.Add64"], apart := false, narrowed := true }
def CostWithinUptoSaid : Prop := costWithinUptoRow.holds Try.pinned (OpenSpec.upto costWithinSpec)

end Rows
end Go.Proofs.Ytfpicoflpddieaa
