/-
  No cell of these rows narrows 'for every input' (looked for: loops, veiled, ifaces, maps, wideKeys, modest, calm, conditions, laid).
  DERIVED. THE GIVEN ROWS OF THIS SEAT. 4 by the template 'for every input the law returns true; each argument reads behind the call as it read before'; 0 by the template 'total and deterministic' (their statements: YtjhohnbdhopllaaTotals.lean).
  GIVEN WITH THE SEED: the statements are not yours to turn. If you find one false, say at which input.
  Laid BY PROGRAM, IN A SANDBOX (cutbox-rows.mjs): the forced cells as the released guide's own fill.sh prints them over the translation d13f68592238fe7e… (all of the seat's roots in one cut). By AI agents, Wed Nov 11 2026. No macro, syntax, notation, axiom, sorry.
-/
import Derived.Test.YtjhohnbdhopllaaChecked
import GoSem.Claim
import GoSem.ClaimJoined
import GoSem.ClaimMapViews
import Derived.JoinedTies
import Derived.KernelRfl
namespace Go.Proofs.Ytjhohnbdhopllaa
/- THE CELL 'sum', in the pinned program and in every row, IS THE sha256 OF THE DUMP (.gsa) THAT YtjhohnbdhopllaaProg.lean LOADS. Nothing in Lean hashes anything: it is a label: what it is worth is what the hold of that sum in a sandbox is worth. -/
noncomputable def Try.pinned : Pinned := { name := "ytjhohnbdhopllaa", sum := "d13f68592238fe7e0ebec55e06694a8ba25b4bdebdc12ba75edd74de056bdd4d", checked := Try.checked }
namespace Rows
def none {H : Type} : Left H := { results := [], args := [] }

/-- 'sluicewaylaw29.IndexOrder': WHATEVER THE INPUT: true; the input reads as it did. -/
def indexOrderSpec : ChangeSpec := { name := "indexOrder", fn := fun _ => fun
  | [d1, d2] => { results := [.lit (.bool true)], args := [d1, d2] }
  | _ => none }
def indexOrderRow : OpenClaim := { program := "ytjhohnbdhopllaa", sum := "d13f68592238fe7e0ebec55e06694a8ba25b4bdebdc12ba75edd74de056bdd4d", func := "sluiceway/sluicewaylaw29.IndexOrder", spec := "indexOrder", inPlace := ["slices.overlaps[sluiceway/index.Entry]"], unfollowed := true, recurses := true, plainKeys := false, apart := false }
def IndexOrderSaid : Prop := indexOrderRow.holds Try.pinned (OpenSpec.ofChange indexOrderSpec)

/-- ITS FALSE NEIGHBOUR: 'it returns false'. Refute it at one input. -/
def indexOrderWrong : ChangeSpec := { name := "indexOrder", fn := fun _ => fun
  | [d1, d2] => { results := [.lit (.bool false)], args := [d1, d2] }
  | _ => none }
def IndexOrderWrongFalsely : Prop := indexOrderRow.holds Try.pinned (OpenSpec.ofChange indexOrderWrong)

/-- 'sluicewaylaw29.IndexPlays': WHATEVER THE INPUT: true; the input reads as it did. -/
def indexPlaysSpec : ChangeSpec := { name := "indexPlays", fn := fun _ => fun
  | [d1, d2] => { results := [.lit (.bool true)], args := [d1, d2] }
  | _ => none }
def indexPlaysRow : OpenClaim := { program := "ytjhohnbdhopllaa", sum := "d13f68592238fe7e0ebec55e06694a8ba25b4bdebdc12ba75edd74de056bdd4d", func := "sluiceway/sluicewaylaw29.IndexPlays", spec := "indexPlays", inPlace := ["slices.overlaps[sluiceway/index.Entry]"], unfollowed := true, recurses := true, plainKeys := false, apart := false }
def IndexPlaysSaid : Prop := indexPlaysRow.holds Try.pinned (OpenSpec.ofChange indexPlaysSpec)

/-- ITS FALSE NEIGHBOUR: 'it returns false'. Refute it at one input. -/
def indexPlaysWrong : ChangeSpec := { name := "indexPlays", fn := fun _ => fun
  | [d1, d2] => { results := [.lit (.bool false)], args := [d1, d2] }
  | _ => none }
def IndexPlaysWrongFalsely : Prop := indexPlaysRow.holds Try.pinned (OpenSpec.ofChange indexPlaysWrong)

/-- 'sluicewaylaw29.IndexNone': WHATEVER THE INPUT: true; the input reads as it did. -/
def indexNoneSpec : ChangeSpec := { name := "indexNone", fn := fun _ => fun
  | [d1, d2] => { results := [.lit (.bool true)], args := [d1, d2] }
  | _ => none }
def indexNoneRow : OpenClaim := { program := "ytjhohnbdhopllaa", sum := "d13f68592238fe7e0ebec55e06694a8ba25b4bdebdc12ba75edd74de056bdd4d", func := "sluiceway/sluicewaylaw29.IndexNone", spec := "indexNone", inPlace := ["slices.overlaps[sluiceway/index.Entry]"], unfollowed := true, recurses := true, plainKeys := false, apart := false }
def IndexNoneSaid : Prop := indexNoneRow.holds Try.pinned (OpenSpec.ofChange indexNoneSpec)

/-- ITS FALSE NEIGHBOUR: 'it returns false'. Refute it at one input. -/
def indexNoneWrong : ChangeSpec := { name := "indexNone", fn := fun _ => fun
  | [d1, d2] => { results := [.lit (.bool false)], args := [d1, d2] }
  | _ => none }
def IndexNoneWrongFalsely : Prop := indexNoneRow.holds Try.pinned (OpenSpec.ofChange indexNoneWrong)

/-- 'sluicewaylaw29.IndexStores': WHATEVER THE INPUT: true; the input reads as it did. -/
def indexStoresSpec : ChangeSpec := { name := "indexStores", fn := fun _ => fun
  | [d] => { results := [.lit (.bool true)], args := [d] }
  | _ => none }
def indexStoresRow : OpenClaim := { program := "ytjhohnbdhopllaa", sum := "d13f68592238fe7e0ebec55e06694a8ba25b4bdebdc12ba75edd74de056bdd4d", func := "sluiceway/sluicewaylaw29.IndexStores", spec := "indexStores", inPlace := ["slices.overlaps[sluiceway/index.Entry]", "slices.overlaps[sluiceway/tree.item]", "slices.overlaps[*sluiceway/tree.node]"], unfollowed := true, recurses := true, plainKeys := false, apart := false }
def IndexStoresSaid : Prop := indexStoresRow.holds Try.pinned (OpenSpec.ofChange indexStoresSpec)

/-- ITS FALSE NEIGHBOUR: 'it returns false'. Refute it at one input. -/
def indexStoresWrong : ChangeSpec := { name := "indexStores", fn := fun _ => fun
  | [d] => { results := [.lit (.bool false)], args := [d] }
  | _ => none }
def IndexStoresWrongFalsely : Prop := indexStoresRow.holds Try.pinned (OpenSpec.ofChange indexStoresWrong)

/- THE SECOND FORM. 'bulk': how many values and letters a reading holds, each counted each time it is reached (what is shared counts as often as it is met; a slice's spare places count too). A statement '..UptoSaid' is the law's where the arguments, and the package variables that the reading takes, are together of bulk at most 1048576: NARROWER than '..Said'. Prove '..Said' where nothing that the law and all that it calls make is longer than what came in: it says more and counts as full. Else prove '..UptoSaid'. A law counts once. -/
mutual
def uptoBulk {H : Type} : DataW H → Nat
  | .lit (.string bytes) => bytes.length + 1
  | .lit _ => 1
  | .nil => 1
  | .ptr d => uptoBulk d + 1
  | .slice elems spare => uptoBulkAll elems + uptoBulkAll spare + 1
  | .agg parts => uptoBulkAll parts + 1
  | .iface _ d => uptoBulk d + 1
  | .map entries => uptoBulkEntries entries + 1
  | .held _ => 1
def uptoBulkAll {H : Type} : List (DataW H) → Nat
  | [] => 0
  | d :: r => uptoBulk d + uptoBulkAll r
def uptoBulkEntries {H : Type} : List (Lit × DataW H) → Nat
  | [] => 0
  | x :: r => uptoBulkEntry x + uptoBulkEntries r
def uptoBulkEntry {H : Type} : Lit × DataW H → Nat
  | (.string bytes, d) => bytes.length + uptoBulk d + 1
  | (_, d) => uptoBulk d + 1
 end
def uptoSmall : (H : Type) → List (DataW H) → Bool := fun _ ds => decide (uptoBulkAll ds ≤ 1048576)
def OpenSpec.upto (s : _root_.Go.ChangeSpec) : _root_.Go.OpenSpec := { _root_.Go.OpenSpec.ofChange s with cond := some uptoSmall }

/-- 'sluicewaylaw29.IndexOrder', WHERE WHAT IT READS IS OF BULK AT MOST 1048576: true; the input reads as it did. -/
def indexOrderUptoRow : OpenClaim := { program := "ytjhohnbdhopllaa", sum := "d13f68592238fe7e0ebec55e06694a8ba25b4bdebdc12ba75edd74de056bdd4d", func := "sluiceway/sluicewaylaw29.IndexOrder", spec := "indexOrder", inPlace := ["slices.overlaps[sluiceway/index.Entry]"], unfollowed := true, recurses := true, plainKeys := false, apart := false, narrowed := true }
def IndexOrderUptoSaid : Prop := indexOrderUptoRow.holds Try.pinned (OpenSpec.upto indexOrderSpec)

/-- 'sluicewaylaw29.IndexPlays', WHERE WHAT IT READS IS OF BULK AT MOST 1048576: true; the input reads as it did. -/
def indexPlaysUptoRow : OpenClaim := { program := "ytjhohnbdhopllaa", sum := "d13f68592238fe7e0ebec55e06694a8ba25b4bdebdc12ba75edd74de056bdd4d", func := "sluiceway/sluicewaylaw29.IndexPlays", spec := "indexPlays", inPlace := ["slices.overlaps[sluiceway/index.Entry]"], unfollowed := true, recurses := true, plainKeys := false, apart := false, narrowed := true }
def IndexPlaysUptoSaid : Prop := indexPlaysUptoRow.holds Try.pinned (OpenSpec.upto indexPlaysSpec)

/-- 'sluicewaylaw29.IndexNone', WHERE WHAT IT READS IS OF BULK AT MOST 1048576: true; the input reads as it did. -/
def indexNoneUptoRow : OpenClaim := { program := "ytjhohnbdhopllaa", sum := "d13f68592238fe7e0ebec55e06694a8ba25b4bdebdc12ba75edd74de056bdd4d", func := "sluiceway/sluicewaylaw29.IndexNone", spec := "indexNone", inPlace := ["slices.overlaps[sluiceway/index.Entry]"], unfollowed := true, recurses := true, plainKeys := false, apart := false, narrowed := true }
def IndexNoneUptoSaid : Prop := indexNoneUptoRow.holds Try.pinned (OpenSpec.upto indexNoneSpec)

/-- 'sluicewaylaw29.IndexStores', WHERE WHAT IT READS IS OF BULK AT MOST 1048576: true; the input reads as it did. -/
def indexStoresUptoRow : OpenClaim := { program := "ytjhohnbdhopllaa", sum := "d13f68592238fe7e0ebec55e06694a8ba25b4bdebdc12ba75edd74de056bdd4d", func := "sluiceway/sluicewaylaw29.IndexStores", spec := "indexStores", inPlace := ["slices.overlaps[sluiceway/index.Entry]", "slices.overlaps[sluiceway/tree.item]", "slices.overlaps[*sluiceway/tree.node]"], unfollowed := true, recurses := true, plainKeys := false, apart := false, narrowed := true }
def IndexStoresUptoSaid : Prop := indexStoresUptoRow.holds Try.pinned (OpenSpec.upto indexStoresSpec)

end Rows
end Go.Proofs.Ytjhohnbdhopllaa
