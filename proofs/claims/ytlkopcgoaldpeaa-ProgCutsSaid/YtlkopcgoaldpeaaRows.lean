/-
  No cell of these rows narrows 'for every input' (looked for: loops, veiled, ifaces, maps, wideKeys, modest, calm, conditions, laid).
  DERIVED. THE GIVEN ROWS OF THIS SEAT. 4 by the template 'for every input the law returns true; each argument reads behind the call as it read before'; 0 by the template 'total and deterministic' (their statements: YtlkopcgoaldpeaaTotals.lean).
  GIVEN WITH THE SEED: the statements are not yours to turn. If you find one false, say at which input.
  Laid BY PROGRAM, IN A SANDBOX (cutbox-rows.mjs): the forced cells as the released guide's own fill.sh prints them over the translation cb4836235c5b029f… (all of the seat's roots in one cut). By AI agents, Wed Nov 11 2026. No macro, syntax, notation, axiom, sorry.
-/
import Derived.Test.YtlkopcgoaldpeaaChecked
import GoSem.Claim
import GoSem.ClaimJoined
import GoSem.ClaimMapViews
import Derived.JoinedTies
import Derived.KernelRfl
namespace Go.Proofs.Ytlkopcgoaldpeaa
/- THE CELL 'sum', in the pinned program and in every row, IS THE sha256 OF THE DUMP (.gsa) THAT YtlkopcgoaldpeaaProg.lean LOADS. Nothing in Lean hashes anything: it is a label: what it is worth is what the hold of that sum in a sandbox is worth. -/
noncomputable def Try.pinned : Pinned := { name := "ytlkopcgoaldpeaa", sum := "cb4836235c5b029f84821916b88c0f2610d9a0a5333b1cb4b14cc641344d6878", checked := Try.checked }
namespace Rows
def none {H : Type} : Left H := { results := [], args := [] }

/-- 'sluicewaylaw06.ProgShapes': WHATEVER THE INPUT: true; the input reads as it did. -/
def progShapesSpec : ChangeSpec := { name := "progShapes", fn := fun _ => fun
  | [d1, d2, d3] => { results := [.lit (.bool true)], args := [d1, d2, d3] }
  | _ => none }
def progShapesRow : OpenClaim := { program := "ytlkopcgoaldpeaa", sum := "cb4836235c5b029f84821916b88c0f2610d9a0a5333b1cb4b14cc641344d6878", func := "sluiceway/sluicewaylaw06.ProgShapes", spec := "progShapes", apart := false }
def ProgShapesSaid : Prop := progShapesRow.holds Try.pinned (OpenSpec.ofChange progShapesSpec)

/-- ITS FALSE NEIGHBOUR: 'it returns false'. Refute it at one input. -/
def progShapesWrong : ChangeSpec := { name := "progShapes", fn := fun _ => fun
  | [d1, d2, d3] => { results := [.lit (.bool false)], args := [d1, d2, d3] }
  | _ => none }
def ProgShapesWrongFalsely : Prop := progShapesRow.holds Try.pinned (OpenSpec.ofChange progShapesWrong)

/-- 'sluicewaylaw06.ProgEncodes': WHATEVER THE INPUT: true; the input reads as it did. -/
def progEncodesSpec : ChangeSpec := { name := "progEncodes", fn := fun _ => fun
  | [d] => { results := [.lit (.bool true)], args := [d] }
  | _ => none }
def progEncodesRow : OpenClaim := { program := "ytlkopcgoaldpeaa", sum := "cb4836235c5b029f84821916b88c0f2610d9a0a5333b1cb4b14cc641344d6878", func := "sluiceway/sluicewaylaw06.ProgEncodes", spec := "progEncodes", apart := false }
def ProgEncodesSaid : Prop := progEncodesRow.holds Try.pinned (OpenSpec.ofChange progEncodesSpec)

/-- ITS FALSE NEIGHBOUR: 'it returns false'. Refute it at one input. -/
def progEncodesWrong : ChangeSpec := { name := "progEncodes", fn := fun _ => fun
  | [d] => { results := [.lit (.bool false)], args := [d] }
  | _ => none }
def ProgEncodesWrongFalsely : Prop := progEncodesRow.holds Try.pinned (OpenSpec.ofChange progEncodesWrong)

/-- 'sluicewaylaw06.ProgDecodes': WHATEVER THE INPUT: true; the input reads as it did. -/
def progDecodesSpec : ChangeSpec := { name := "progDecodes", fn := fun _ => fun
  | [d] => { results := [.lit (.bool true)], args := [d] }
  | _ => none }
def progDecodesRow : OpenClaim := { program := "ytlkopcgoaldpeaa", sum := "cb4836235c5b029f84821916b88c0f2610d9a0a5333b1cb4b14cc641344d6878", func := "sluiceway/sluicewaylaw06.ProgDecodes", spec := "progDecodes", apart := false }
def ProgDecodesSaid : Prop := progDecodesRow.holds Try.pinned (OpenSpec.ofChange progDecodesSpec)

/-- ITS FALSE NEIGHBOUR: 'it returns false'. Refute it at one input. -/
def progDecodesWrong : ChangeSpec := { name := "progDecodes", fn := fun _ => fun
  | [d] => { results := [.lit (.bool false)], args := [d] }
  | _ => none }
def ProgDecodesWrongFalsely : Prop := progDecodesRow.holds Try.pinned (OpenSpec.ofChange progDecodesWrong)

/-- 'sluicewaylaw06.ProgCuts': WHATEVER THE INPUT: true; the input reads as it did. -/
def progCutsSpec : ChangeSpec := { name := "progCuts", fn := fun _ => fun
  | [d1, d2, d3] => { results := [.lit (.bool true)], args := [d1, d2, d3] }
  | _ => none }
def progCutsRow : OpenClaim := { program := "ytlkopcgoaldpeaa", sum := "cb4836235c5b029f84821916b88c0f2610d9a0a5333b1cb4b14cc641344d6878", func := "sluiceway/sluicewaylaw06.ProgCuts", spec := "progCuts", apart := false }
def ProgCutsSaid : Prop := progCutsRow.holds Try.pinned (OpenSpec.ofChange progCutsSpec)

/-- ITS FALSE NEIGHBOUR: 'it returns false'. Refute it at one input. -/
def progCutsWrong : ChangeSpec := { name := "progCuts", fn := fun _ => fun
  | [d1, d2, d3] => { results := [.lit (.bool false)], args := [d1, d2, d3] }
  | _ => none }
def ProgCutsWrongFalsely : Prop := progCutsRow.holds Try.pinned (OpenSpec.ofChange progCutsWrong)

/- THE SECOND FORM. 'bulk': how many values and letters a reading holds, each counted each time it is reached (what is shared counts as often as it is met; a slice's spare places count too). A statement '..UptoSaid' is the law's where the arguments, and the package variables that the reading takes, are together of bulk at most 1048576: NARROWER than '..Said'. Prove '..Said' where nothing that the law and all that it calls make is longer than what came in: it says more and counts as full. Else prove '..UptoSaid'. A law counts once. -/
mutual
def uptoBulk {H : Type} : DataW H → Nat
  | .lit (.string bytes) => bytes.length + 1
  | .lit _ => 1
  | .nil => 1
  | .ptr d => uptoBulk d + 1
  | .slice elems spare => uptoBulkAll elems + uptoBulkAll spare + 1
  | .agg parts => uptoBulkAll parts + 1
  | .iface _ d => uptoBulk d + 1
  | .map entries => uptoBulkEntries entries + 1
  | .held _ => 1
def uptoBulkAll {H : Type} : List (DataW H) → Nat
  | [] => 0
  | d :: r => uptoBulk d + uptoBulkAll r
def uptoBulkEntries {H : Type} : List (Lit × DataW H) → Nat
  | [] => 0
  | x :: r => uptoBulkEntry x + uptoBulkEntries r
def uptoBulkEntry {H : Type} : Lit × DataW H → Nat
  | (.string bytes, d) => bytes.length + uptoBulk d + 1
  | (_, d) => uptoBulk d + 1
 end
def uptoSmall : (H : Type) → List (DataW H) → Bool := fun _ ds => decide (uptoBulkAll ds ≤ 1048576)
def OpenSpec.upto (s : _root_.Go.ChangeSpec) : _root_.Go.OpenSpec := { _root_.Go.OpenSpec.ofChange s with cond := some uptoSmall }

/-- 'sluicewaylaw06.ProgShapes', WHERE WHAT IT READS IS OF BULK AT MOST 1048576: true; the input reads as it did. -/
def progShapesUptoRow : OpenClaim := { program := "ytlkopcgoaldpeaa", sum := "cb4836235c5b029f84821916b88c0f2610d9a0a5333b1cb4b14cc641344d6878", func := "sluiceway/sluicewaylaw06.ProgShapes", spec := "progShapes", apart := false, narrowed := true }
def ProgShapesUptoSaid : Prop := progShapesUptoRow.holds Try.pinned (OpenSpec.upto progShapesSpec)

/-- 'sluicewaylaw06.ProgEncodes', WHERE WHAT IT READS IS OF BULK AT MOST 1048576: true; the input reads as it did. -/
def progEncodesUptoRow : OpenClaim := { program := "ytlkopcgoaldpeaa", sum := "cb4836235c5b029f84821916b88c0f2610d9a0a5333b1cb4b14cc641344d6878", func := "sluiceway/sluicewaylaw06.ProgEncodes", spec := "progEncodes", apart := false, narrowed := true }
def ProgEncodesUptoSaid : Prop := progEncodesUptoRow.holds Try.pinned (OpenSpec.upto progEncodesSpec)

/-- 'sluicewaylaw06.ProgDecodes', WHERE WHAT IT READS IS OF BULK AT MOST 1048576: true; the input reads as it did. -/
def progDecodesUptoRow : OpenClaim := { program := "ytlkopcgoaldpeaa", sum := "cb4836235c5b029f84821916b88c0f2610d9a0a5333b1cb4b14cc641344d6878", func := "sluiceway/sluicewaylaw06.ProgDecodes", spec := "progDecodes", apart := false, narrowed := true }
def ProgDecodesUptoSaid : Prop := progDecodesUptoRow.holds Try.pinned (OpenSpec.upto progDecodesSpec)

/-- 'sluicewaylaw06.ProgCuts', WHERE WHAT IT READS IS OF BULK AT MOST 1048576: true; the input reads as it did. -/
def progCutsUptoRow : OpenClaim := { program := "ytlkopcgoaldpeaa", sum := "cb4836235c5b029f84821916b88c0f2610d9a0a5333b1cb4b14cc641344d6878", func := "sluiceway/sluicewaylaw06.ProgCuts", spec := "progCuts", apart := false, narrowed := true }
def ProgCutsUptoSaid : Prop := progCutsUptoRow.holds Try.pinned (OpenSpec.upto progCutsSpec)

end Rows
end Go.Proofs.Ytlkopcgoaldpeaa
