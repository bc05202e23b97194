/-
  No cell of these rows narrows 'for every input' (looked for: loops, veiled, ifaces, maps, wideKeys, modest, calm, conditions, laid).
  DERIVED. THE GIVEN ROWS OF THIS SEAT. 5 by the template 'for every input the law returns true; each argument reads behind the call as it read before'; 0 by the template 'total and deterministic' (their statements: YthpflieimocfbaaTotals.lean).
  GIVEN WITH THE SEED: the statements are not yours to turn. If you find one false, say at which input.
  Laid BY PROGRAM, IN A SANDBOX (cutbox-rows.mjs): the forced cells as the released guide's own fill.sh prints them over the translation df4ab76147b421c5… (all of the seat's roots in one cut). By AI agents, Wed Nov 11 2026. No macro, syntax, notation, axiom, sorry.
-/
import Derived.Test.YthpflieimocfbaaChecked
import GoSem.Claim
import GoSem.ClaimJoined
import GoSem.ClaimMapViews
import Derived.JoinedTies
import Derived.KernelRfl
namespace Go.Proofs.Ythpflieimocfbaa
/- THE CELL 'sum', in the pinned program and in every row, IS THE sha256 OF THE DUMP (.gsa) THAT YthpflieimocfbaaProg.lean LOADS. Nothing in Lean hashes anything: it is a label: what it is worth is what the hold of that sum in a sandbox is worth. -/
noncomputable def Try.pinned : Pinned := { name := "ythpflieimocfbaa", sum := "df4ab76147b421c5c0a77381378bfaf0c779ccae9961dfcf5374e6fea65b4f4f", checked := Try.checked }
namespace Rows
def none {H : Type} : Left H := { results := [], args := [] }

/-- 'sluicewaylaw04.SlabSeals': WHATEVER THE INPUT: true; the input reads as it did. -/
def slabSealsSpec : ChangeSpec := { name := "slabSeals", fn := fun _ => fun
  | [d] => { results := [.lit (.bool true)], args := [d] }
  | _ => none }
def slabSealsRow : OpenClaim := { program := "ythpflieimocfbaa", sum := "df4ab76147b421c5c0a77381378bfaf0c779ccae9961dfcf5374e6fea65b4f4f", func := "sluiceway/sluicewaylaw04.SlabSeals", spec := "slabSeals", apart := false }
def SlabSealsSaid : Prop := slabSealsRow.holds Try.pinned (OpenSpec.ofChange slabSealsSpec)

/-- ITS FALSE NEIGHBOUR: 'it returns false'. Refute it at one input. -/
def slabSealsWrong : ChangeSpec := { name := "slabSeals", fn := fun _ => fun
  | [d] => { results := [.lit (.bool false)], args := [d] }
  | _ => none }
def SlabSealsWrongFalsely : Prop := slabSealsRow.holds Try.pinned (OpenSpec.ofChange slabSealsWrong)

/-- 'sluicewaylaw04.SlabOpens': WHATEVER THE INPUT: true; the input reads as it did. -/
def slabOpensSpec : ChangeSpec := { name := "slabOpens", fn := fun _ => fun
  | [d1, d2, d3] => { results := [.lit (.bool true)], args := [d1, d2, d3] }
  | _ => none }
def slabOpensRow : OpenClaim := { program := "ythpflieimocfbaa", sum := "df4ab76147b421c5c0a77381378bfaf0c779ccae9961dfcf5374e6fea65b4f4f", func := "sluiceway/sluicewaylaw04.SlabOpens", spec := "slabOpens", apart := false }
def SlabOpensSaid : Prop := slabOpensRow.holds Try.pinned (OpenSpec.ofChange slabOpensSpec)

/-- ITS FALSE NEIGHBOUR: 'it returns false'. Refute it at one input. -/
def slabOpensWrong : ChangeSpec := { name := "slabOpens", fn := fun _ => fun
  | [d1, d2, d3] => { results := [.lit (.bool false)], args := [d1, d2, d3] }
  | _ => none }
def SlabOpensWrongFalsely : Prop := slabOpensRow.holds Try.pinned (OpenSpec.ofChange slabOpensWrong)

/-- 'sluicewaylaw04.SlabTorn': WHATEVER THE INPUT: true; the input reads as it did. -/
def slabTornSpec : ChangeSpec := { name := "slabTorn", fn := fun _ => fun
  | [d1, d2, d3] => { results := [.lit (.bool true)], args := [d1, d2, d3] }
  | _ => none }
def slabTornRow : OpenClaim := { program := "ythpflieimocfbaa", sum := "df4ab76147b421c5c0a77381378bfaf0c779ccae9961dfcf5374e6fea65b4f4f", func := "sluiceway/sluicewaylaw04.SlabTorn", spec := "slabTorn", apart := false }
def SlabTornSaid : Prop := slabTornRow.holds Try.pinned (OpenSpec.ofChange slabTornSpec)

/-- ITS FALSE NEIGHBOUR: 'it returns false'. Refute it at one input. -/
def slabTornWrong : ChangeSpec := { name := "slabTorn", fn := fun _ => fun
  | [d1, d2, d3] => { results := [.lit (.bool false)], args := [d1, d2, d3] }
  | _ => none }
def SlabTornWrongFalsely : Prop := slabTornRow.holds Try.pinned (OpenSpec.ofChange slabTornWrong)

/-- 'sluicewaylaw04.SlabApart': WHATEVER THE INPUT: true; the input reads as it did. -/
def slabApartSpec : ChangeSpec := { name := "slabApart", fn := fun _ => fun
  | [d1, d2] => { results := [.lit (.bool true)], args := [d1, d2] }
  | _ => none }
def slabApartRow : OpenClaim := { program := "ythpflieimocfbaa", sum := "df4ab76147b421c5c0a77381378bfaf0c779ccae9961dfcf5374e6fea65b4f4f", func := "sluiceway/sluicewaylaw04.SlabApart", spec := "slabApart", apart := false }
def SlabApartSaid : Prop := slabApartRow.holds Try.pinned (OpenSpec.ofChange slabApartSpec)

/-- ITS FALSE NEIGHBOUR: 'it returns false'. Refute it at one input. -/
def slabApartWrong : ChangeSpec := { name := "slabApart", fn := fun _ => fun
  | [d1, d2] => { results := [.lit (.bool false)], args := [d1, d2] }
  | _ => none }
def SlabApartWrongFalsely : Prop := slabApartRow.holds Try.pinned (OpenSpec.ofChange slabApartWrong)

/-- 'sluicewaylaw04.SlabParts': WHATEVER THE INPUT: true; the input reads as it did. -/
def slabPartsSpec : ChangeSpec := { name := "slabParts", fn := fun _ => fun
  | [d1, d2, d3] => { results := [.lit (.bool true)], args := [d1, d2, d3] }
  | _ => none }
def slabPartsRow : OpenClaim := { program := "ythpflieimocfbaa", sum := "df4ab76147b421c5c0a77381378bfaf0c779ccae9961dfcf5374e6fea65b4f4f", func := "sluiceway/sluicewaylaw04.SlabParts", spec := "slabParts", unfollowed := true, recurses := true, apart := false }
def SlabPartsSaid : Prop := slabPartsRow.holds Try.pinned (OpenSpec.ofChange slabPartsSpec)

/-- ITS FALSE NEIGHBOUR: 'it returns false'. Refute it at one input. -/
def slabPartsWrong : ChangeSpec := { name := "slabParts", fn := fun _ => fun
  | [d1, d2, d3] => { results := [.lit (.bool false)], args := [d1, d2, d3] }
  | _ => none }
def SlabPartsWrongFalsely : Prop := slabPartsRow.holds Try.pinned (OpenSpec.ofChange slabPartsWrong)

/- THE SECOND FORM. 'bulk': how many values and letters a reading holds, each counted each time it is reached (what is shared counts as often as it is met; a slice's spare places count too). A statement '..UptoSaid' is the law's where the arguments, and the package variables that the reading takes, are together of bulk at most 1048576: NARROWER than '..Said'. Prove '..Said' where nothing that the law and all that it calls make is longer than what came in: it says more and counts as full. Else prove '..UptoSaid'. A law counts once. -/
mutual
def uptoBulk {H : Type} : DataW H → Nat
  | .lit (.string bytes) => bytes.length + 1
  | .lit _ => 1
  | .nil => 1
  | .ptr d => uptoBulk d + 1
  | .slice elems spare => uptoBulkAll elems + uptoBulkAll spare + 1
  | .agg parts => uptoBulkAll parts + 1
  | .iface _ d => uptoBulk d + 1
  | .map entries => uptoBulkEntries entries + 1
  | .held _ => 1
def uptoBulkAll {H : Type} : List (DataW H) → Nat
  | [] => 0
  | d :: r => uptoBulk d + uptoBulkAll r
def uptoBulkEntries {H : Type} : List (Lit × DataW H) → Nat
  | [] => 0
  | x :: r => uptoBulkEntry x + uptoBulkEntries r
def uptoBulkEntry {H : Type} : Lit × DataW H → Nat
  | (.string bytes, d) => bytes.length + uptoBulk d + 1
  | (_, d) => uptoBulk d + 1
 end
def uptoSmall : (H : Type) → List (DataW H) → Bool := fun _ ds => decide (uptoBulkAll ds ≤ 1048576)
def OpenSpec.upto (s : _root_.Go.ChangeSpec) : _root_.Go.OpenSpec := { _root_.Go.OpenSpec.ofChange s with cond := some uptoSmall }

/-- 'sluicewaylaw04.SlabSeals', WHERE WHAT IT READS IS OF BULK AT MOST 1048576: true; the input reads as it did. -/
def slabSealsUptoRow : OpenClaim := { program := "ythpflieimocfbaa", sum := "df4ab76147b421c5c0a77381378bfaf0c779ccae9961dfcf5374e6fea65b4f4f", func := "sluiceway/sluicewaylaw04.SlabSeals", spec := "slabSeals", apart := false, narrowed := true }
def SlabSealsUptoSaid : Prop := slabSealsUptoRow.holds Try.pinned (OpenSpec.upto slabSealsSpec)

/-- 'sluicewaylaw04.SlabOpens', WHERE WHAT IT READS IS OF BULK AT MOST 1048576: true; the input reads as it did. -/
def slabOpensUptoRow : OpenClaim := { program := "ythpflieimocfbaa", sum := "df4ab76147b421c5c0a77381378bfaf0c779ccae9961dfcf5374e6fea65b4f4f", func := "sluiceway/sluicewaylaw04.SlabOpens", spec := "slabOpens", apart := false, narrowed := true }
def SlabOpensUptoSaid : Prop := slabOpensUptoRow.holds Try.pinned (OpenSpec.upto slabOpensSpec)

/-- 'sluicewaylaw04.SlabTorn', WHERE WHAT IT READS IS OF BULK AT MOST 1048576: true; the input reads as it did. -/
def slabTornUptoRow : OpenClaim := { program := "ythpflieimocfbaa", sum := "df4ab76147b421c5c0a77381378bfaf0c779ccae9961dfcf5374e6fea65b4f4f", func := "sluiceway/sluicewaylaw04.SlabTorn", spec := "slabTorn", apart := false, narrowed := true }
def SlabTornUptoSaid : Prop := slabTornUptoRow.holds Try.pinned (OpenSpec.upto slabTornSpec)

/-- 'sluicewaylaw04.SlabApart', WHERE WHAT IT READS IS OF BULK AT MOST 1048576: true; the input reads as it did. -/
def slabApartUptoRow : OpenClaim := { program := "ythpflieimocfbaa", sum := "df4ab76147b421c5c0a77381378bfaf0c779ccae9961dfcf5374e6fea65b4f4f", func := "sluiceway/sluicewaylaw04.SlabApart", spec := "slabApart", apart := false, narrowed := true }
def SlabApartUptoSaid : Prop := slabApartUptoRow.holds Try.pinned (OpenSpec.upto slabApartSpec)

/-- 'sluicewaylaw04.SlabParts', WHERE WHAT IT READS IS OF BULK AT MOST 1048576: true; the input reads as it did. -/
def slabPartsUptoRow : OpenClaim := { program := "ythpflieimocfbaa", sum := "df4ab76147b421c5c0a77381378bfaf0c779ccae9961dfcf5374e6fea65b4f4f", func := "sluiceway/sluicewaylaw04.SlabParts", spec := "slabParts", unfollowed := true, recurses := true, apart := false, narrowed := true }
def SlabPartsUptoSaid : Prop := slabPartsUptoRow.holds Try.pinned (OpenSpec.upto slabPartsSpec)

end Rows
end Go.Proofs.Ythpflieimocfbaa
