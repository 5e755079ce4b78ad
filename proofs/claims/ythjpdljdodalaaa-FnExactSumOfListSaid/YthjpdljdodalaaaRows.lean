/-
  No cell of these rows narrows 'for every input' (looked for: loops, veiled, ifaces, maps, wideKeys, modest, calm, conditions, laid).
  DERIVED. THE GIVEN ROWS OF THIS SEAT. 12 by the template 'for every input the law returns true; each argument reads behind the call as it read before'; 0 by the template 'total and deterministic' (their statements: YthjpdljdodalaaaTotals.lean).
  GIVEN WITH THE SEED: the statements are not yours to turn. If you find one false, say at which input.
  Laid BY PROGRAM, IN A SANDBOX (cutbox-rows.mjs): the forced cells as the released guide's own fill.sh prints them over the translation 7a07959ac4b7acb3… (all of the seat's roots in one cut). By AI agents, Wed Nov 11 2026. No macro, syntax, notation, axiom, sorry.
-/
import Derived.Test.YthjpdljdodalaaaChecked
import GoSem.Claim
import GoSem.ClaimJoined
import GoSem.ClaimMapViews
import Derived.JoinedTies
import Derived.KernelRfl
namespace Go.Proofs.Ythjpdljdodalaaa
/- THE CELL 'sum', in the pinned program and in every row, IS THE sha256 OF THE DUMP (.gsa) THAT YthjpdljdodalaaaProg.lean LOADS. Nothing in Lean hashes anything: it is a label: what it is worth is what the hold of that sum in a sandbox is worth. -/
noncomputable def Try.pinned : Pinned := { name := "ythjpdljdodalaaa", sum := "7a07959ac4b7acb311097d4fd9015b36acf65d777f93c806c0a61fc8c3253189", checked := Try.checked }
namespace Rows
def none {H : Type} : Left H := { results := [], args := [] }

/-- 'laws.FnExactIsNormal': WHATEVER THE INPUT: true; the input reads as it did. -/
def fnExactIsNormalSpec : ChangeSpec := { name := "fnExactIsNormal", fn := fun _ => fun
  | [d1, d2] => { results := [.lit (.bool true)], args := [d1, d2] }
  | _ => none }
def fnExactIsNormalRow : OpenClaim := { program := "ythjpdljdodalaaa", sum := "7a07959ac4b7acb311097d4fd9015b36acf65d777f93c806c0a61fc8c3253189", func := "loop.example/g00870/laws.FnExactIsNormal", spec := "fnExactIsNormal", unfollowed := true, recurses := true, apart := false }
def FnExactIsNormalSaid : Prop := fnExactIsNormalRow.holds Try.pinned (OpenSpec.ofChange fnExactIsNormalSpec)

/-- ITS FALSE NEIGHBOUR: 'it returns false'. Refute it at one input. -/
def fnExactIsNormalWrong : ChangeSpec := { name := "fnExactIsNormal", fn := fun _ => fun
  | [d1, d2] => { results := [.lit (.bool false)], args := [d1, d2] }
  | _ => none }
def FnExactIsNormalWrongFalsely : Prop := fnExactIsNormalRow.holds Try.pinned (OpenSpec.ofChange fnExactIsNormalWrong)

/-- 'laws.FnExactMatchingMatrix': WHATEVER THE INPUT: true; the input reads as it did. -/
def fnExactMatchingMatrixSpec : ChangeSpec := { name := "fnExactMatchingMatrix", fn := fun _ => fun
  | [d] => { results := [.lit (.bool true)], args := [d] }
  | _ => none }
def fnExactMatchingMatrixRow : OpenClaim := { program := "ythjpdljdodalaaa", sum := "7a07959ac4b7acb311097d4fd9015b36acf65d777f93c806c0a61fc8c3253189", func := "loop.example/g00870/laws.FnExactMatchingMatrix", spec := "fnExactMatchingMatrix", unfollowed := true, recurses := true, apart := false }
def FnExactMatchingMatrixSaid : Prop := fnExactMatchingMatrixRow.holds Try.pinned (OpenSpec.ofChange fnExactMatchingMatrixSpec)

/-- ITS FALSE NEIGHBOUR: 'it returns false'. Refute it at one input. -/
def fnExactMatchingMatrixWrong : ChangeSpec := { name := "fnExactMatchingMatrix", fn := fun _ => fun
  | [d] => { results := [.lit (.bool false)], args := [d] }
  | _ => none }
def FnExactMatchingMatrixWrongFalsely : Prop := fnExactMatchingMatrixRow.holds Try.pinned (OpenSpec.ofChange fnExactMatchingMatrixWrong)

/-- 'laws.FnExactIsAdmissible': WHATEVER THE INPUT: true; the input reads as it did. -/
def fnExactIsAdmissibleSpec : ChangeSpec := { name := "fnExactIsAdmissible", fn := fun _ => fun
  | [d1, d2] => { results := [.lit (.bool true)], args := [d1, d2] }
  | _ => none }
def fnExactIsAdmissibleRow : OpenClaim := { program := "ythjpdljdodalaaa", sum := "7a07959ac4b7acb311097d4fd9015b36acf65d777f93c806c0a61fc8c3253189", func := "loop.example/g00870/laws.FnExactIsAdmissible", spec := "fnExactIsAdmissible", unfollowed := true, recurses := true, apart := false }
def FnExactIsAdmissibleSaid : Prop := fnExactIsAdmissibleRow.holds Try.pinned (OpenSpec.ofChange fnExactIsAdmissibleSpec)

/-- ITS FALSE NEIGHBOUR: 'it returns false'. Refute it at one input. -/
def fnExactIsAdmissibleWrong : ChangeSpec := { name := "fnExactIsAdmissible", fn := fun _ => fun
  | [d1, d2] => { results := [.lit (.bool false)], args := [d1, d2] }
  | _ => none }
def FnExactIsAdmissibleWrongFalsely : Prop := fnExactIsAdmissibleRow.holds Try.pinned (OpenSpec.ofChange fnExactIsAdmissibleWrong)

/-- 'laws.FnExactAreCompatible': WHATEVER THE INPUT: true; the input reads as it did. -/
def fnExactAreCompatibleSpec : ChangeSpec := { name := "fnExactAreCompatible", fn := fun _ => fun
  | [d1, d2, d3] => { results := [.lit (.bool true)], args := [d1, d2, d3] }
  | _ => none }
def fnExactAreCompatibleRow : OpenClaim := { program := "ythjpdljdodalaaa", sum := "7a07959ac4b7acb311097d4fd9015b36acf65d777f93c806c0a61fc8c3253189", func := "loop.example/g00870/laws.FnExactAreCompatible", spec := "fnExactAreCompatible", unfollowed := true, recurses := true, apart := false }
def FnExactAreCompatibleSaid : Prop := fnExactAreCompatibleRow.holds Try.pinned (OpenSpec.ofChange fnExactAreCompatibleSpec)

/-- ITS FALSE NEIGHBOUR: 'it returns false'. Refute it at one input. -/
def fnExactAreCompatibleWrong : ChangeSpec := { name := "fnExactAreCompatible", fn := fun _ => fun
  | [d1, d2, d3] => { results := [.lit (.bool false)], args := [d1, d2, d3] }
  | _ => none }
def FnExactAreCompatibleWrongFalsely : Prop := fnExactAreCompatibleRow.holds Try.pinned (OpenSpec.ofChange fnExactAreCompatibleWrong)

/-- 'laws.FnExactQuadPart': WHATEVER THE INPUT: true; the input reads as it did. -/
def fnExactQuadPartSpec : ChangeSpec := { name := "fnExactQuadPart", fn := fun _ => fun
  | [d1, d2] => { results := [.lit (.bool true)], args := [d1, d2] }
  | _ => none }
def fnExactQuadPartRow : OpenClaim := { program := "ythjpdljdodalaaa", sum := "7a07959ac4b7acb311097d4fd9015b36acf65d777f93c806c0a61fc8c3253189", func := "loop.example/g00870/laws.FnExactQuadPart", spec := "fnExactQuadPart", unfollowed := true, recurses := true, apart := false }
def FnExactQuadPartSaid : Prop := fnExactQuadPartRow.holds Try.pinned (OpenSpec.ofChange fnExactQuadPartSpec)

/-- ITS FALSE NEIGHBOUR: 'it returns false'. Refute it at one input. -/
def fnExactQuadPartWrong : ChangeSpec := { name := "fnExactQuadPart", fn := fun _ => fun
  | [d1, d2] => { results := [.lit (.bool false)], args := [d1, d2] }
  | _ => none }
def FnExactQuadPartWrongFalsely : Prop := fnExactQuadPartRow.holds Try.pinned (OpenSpec.ofChange fnExactQuadPartWrong)

/-- 'laws.FnExactVertexLinkVector': WHATEVER THE INPUT: true; the input reads as it did. -/
def fnExactVertexLinkVectorSpec : ChangeSpec := { name := "fnExactVertexLinkVector", fn := fun _ => fun
  | [d1, d2] => { results := [.lit (.bool true)], args := [d1, d2] }
  | _ => none }
def fnExactVertexLinkVectorRow : OpenClaim := { program := "ythjpdljdodalaaa", sum := "7a07959ac4b7acb311097d4fd9015b36acf65d777f93c806c0a61fc8c3253189", func := "loop.example/g00870/laws.FnExactVertexLinkVector", spec := "fnExactVertexLinkVector", unfollowed := true, recurses := true, apart := false }
def FnExactVertexLinkVectorSaid : Prop := fnExactVertexLinkVectorRow.holds Try.pinned (OpenSpec.ofChange fnExactVertexLinkVectorSpec)

/-- ITS FALSE NEIGHBOUR: 'it returns false'. Refute it at one input. -/
def fnExactVertexLinkVectorWrong : ChangeSpec := { name := "fnExactVertexLinkVector", fn := fun _ => fun
  | [d1, d2] => { results := [.lit (.bool false)], args := [d1, d2] }
  | _ => none }
def FnExactVertexLinkVectorWrongFalsely : Prop := fnExactVertexLinkVectorRow.holds Try.pinned (OpenSpec.ofChange fnExactVertexLinkVectorWrong)

/-- 'laws.FnExactMultiplicity': WHATEVER THE INPUT: true; the input reads as it did. -/
def fnExactMultiplicitySpec : ChangeSpec := { name := "fnExactMultiplicity", fn := fun _ => fun
  | [d1, d2, d3] => { results := [.lit (.bool true)], args := [d1, d2, d3] }
  | _ => none }
def fnExactMultiplicityRow : OpenClaim := { program := "ythjpdljdodalaaa", sum := "7a07959ac4b7acb311097d4fd9015b36acf65d777f93c806c0a61fc8c3253189", func := "loop.example/g00870/laws.FnExactMultiplicity", spec := "fnExactMultiplicity", unfollowed := true, recurses := true, apart := false }
def FnExactMultiplicitySaid : Prop := fnExactMultiplicityRow.holds Try.pinned (OpenSpec.ofChange fnExactMultiplicitySpec)

/-- ITS FALSE NEIGHBOUR: 'it returns false'. Refute it at one input. -/
def fnExactMultiplicityWrong : ChangeSpec := { name := "fnExactMultiplicity", fn := fun _ => fun
  | [d1, d2, d3] => { results := [.lit (.bool false)], args := [d1, d2, d3] }
  | _ => none }
def FnExactMultiplicityWrongFalsely : Prop := fnExactMultiplicityRow.holds Try.pinned (OpenSpec.ofChange fnExactMultiplicityWrong)

/-- 'laws.FnExactQuadChoice': WHATEVER THE INPUT: true; the input reads as it did. -/
def fnExactQuadChoiceSpec : ChangeSpec := { name := "fnExactQuadChoice", fn := fun _ => fun
  | [d1, d2] => { results := [.lit (.bool true)], args := [d1, d2] }
  | _ => none }
def fnExactQuadChoiceRow : OpenClaim := { program := "ythjpdljdodalaaa", sum := "7a07959ac4b7acb311097d4fd9015b36acf65d777f93c806c0a61fc8c3253189", func := "loop.example/g00870/laws.FnExactQuadChoice", spec := "fnExactQuadChoice", unfollowed := true, recurses := true, apart := false }
def FnExactQuadChoiceSaid : Prop := fnExactQuadChoiceRow.holds Try.pinned (OpenSpec.ofChange fnExactQuadChoiceSpec)

/-- ITS FALSE NEIGHBOUR: 'it returns false'. Refute it at one input. -/
def fnExactQuadChoiceWrong : ChangeSpec := { name := "fnExactQuadChoice", fn := fun _ => fun
  | [d1, d2] => { results := [.lit (.bool false)], args := [d1, d2] }
  | _ => none }
def FnExactQuadChoiceWrongFalsely : Prop := fnExactQuadChoiceRow.holds Try.pinned (OpenSpec.ofChange fnExactQuadChoiceWrong)

/-- 'laws.FnExactSumOfVectors': WHATEVER THE INPUT: true; the input reads as it did. -/
def fnExactSumOfVectorsSpec : ChangeSpec := { name := "fnExactSumOfVectors", fn := fun _ => fun
  | [d1, d2, d3] => { results := [.lit (.bool true)], args := [d1, d2, d3] }
  | _ => none }
def fnExactSumOfVectorsRow : OpenClaim := { program := "ythjpdljdodalaaa", sum := "7a07959ac4b7acb311097d4fd9015b36acf65d777f93c806c0a61fc8c3253189", func := "loop.example/g00870/laws.FnExactSumOfVectors", spec := "fnExactSumOfVectors", unfollowed := true, recurses := true, apart := false }
def FnExactSumOfVectorsSaid : Prop := fnExactSumOfVectorsRow.holds Try.pinned (OpenSpec.ofChange fnExactSumOfVectorsSpec)

/-- ITS FALSE NEIGHBOUR: 'it returns false'. Refute it at one input. -/
def fnExactSumOfVectorsWrong : ChangeSpec := { name := "fnExactSumOfVectors", fn := fun _ => fun
  | [d1, d2, d3] => { results := [.lit (.bool false)], args := [d1, d2, d3] }
  | _ => none }
def FnExactSumOfVectorsWrongFalsely : Prop := fnExactSumOfVectorsRow.holds Try.pinned (OpenSpec.ofChange fnExactSumOfVectorsWrong)

/-- 'laws.FnExactSumOfList': WHATEVER THE INPUT: true; the input reads as it did. -/
def fnExactSumOfListSpec : ChangeSpec := { name := "fnExactSumOfList", fn := fun _ => fun
  | [d1, d2] => { results := [.lit (.bool true)], args := [d1, d2] }
  | _ => none }
def fnExactSumOfListRow : OpenClaim := { program := "ythjpdljdodalaaa", sum := "7a07959ac4b7acb311097d4fd9015b36acf65d777f93c806c0a61fc8c3253189", func := "loop.example/g00870/laws.FnExactSumOfList", spec := "fnExactSumOfList", unfollowed := true, recurses := true, apart := false }
def FnExactSumOfListSaid : Prop := fnExactSumOfListRow.holds Try.pinned (OpenSpec.ofChange fnExactSumOfListSpec)

/-- ITS FALSE NEIGHBOUR: 'it returns false'. Refute it at one input. -/
def fnExactSumOfListWrong : ChangeSpec := { name := "fnExactSumOfList", fn := fun _ => fun
  | [d1, d2] => { results := [.lit (.bool false)], args := [d1, d2] }
  | _ => none }
def FnExactSumOfListWrongFalsely : Prop := fnExactSumOfListRow.holds Try.pinned (OpenSpec.ofChange fnExactSumOfListWrong)

/-- 'laws.FnExactSplitLinks': WHATEVER THE INPUT: true; the input reads as it did. -/
def fnExactSplitLinksSpec : ChangeSpec := { name := "fnExactSplitLinks", fn := fun _ => fun
  | [d1, d2] => { results := [.lit (.bool true)], args := [d1, d2] }
  | _ => none }
def fnExactSplitLinksRow : OpenClaim := { program := "ythjpdljdodalaaa", sum := "7a07959ac4b7acb311097d4fd9015b36acf65d777f93c806c0a61fc8c3253189", func := "loop.example/g00870/laws.FnExactSplitLinks", spec := "fnExactSplitLinks", unfollowed := true, recurses := true, apart := false }
def FnExactSplitLinksSaid : Prop := fnExactSplitLinksRow.holds Try.pinned (OpenSpec.ofChange fnExactSplitLinksSpec)

/-- ITS FALSE NEIGHBOUR: 'it returns false'. Refute it at one input. -/
def fnExactSplitLinksWrong : ChangeSpec := { name := "fnExactSplitLinks", fn := fun _ => fun
  | [d1, d2] => { results := [.lit (.bool false)], args := [d1, d2] }
  | _ => none }
def FnExactSplitLinksWrongFalsely : Prop := fnExactSplitLinksRow.holds Try.pinned (OpenSpec.ofChange fnExactSplitLinksWrong)

/-- 'laws.FnExactDiscsOf': WHATEVER THE INPUT: true; the input reads as it did. -/
def fnExactDiscsOfSpec : ChangeSpec := { name := "fnExactDiscsOf", fn := fun _ => fun
  | [d1, d2] => { results := [.lit (.bool true)], args := [d1, d2] }
  | _ => none }
def fnExactDiscsOfRow : OpenClaim := { program := "ythjpdljdodalaaa", sum := "7a07959ac4b7acb311097d4fd9015b36acf65d777f93c806c0a61fc8c3253189", func := "loop.example/g00870/laws.FnExactDiscsOf", spec := "fnExactDiscsOf", unfollowed := true, recurses := true, apart := false }
def FnExactDiscsOfSaid : Prop := fnExactDiscsOfRow.holds Try.pinned (OpenSpec.ofChange fnExactDiscsOfSpec)

/-- ITS FALSE NEIGHBOUR: 'it returns false'. Refute it at one input. -/
def fnExactDiscsOfWrong : ChangeSpec := { name := "fnExactDiscsOf", fn := fun _ => fun
  | [d1, d2] => { results := [.lit (.bool false)], args := [d1, d2] }
  | _ => none }
def FnExactDiscsOfWrongFalsely : Prop := fnExactDiscsOfRow.holds Try.pinned (OpenSpec.ofChange fnExactDiscsOfWrong)

/- THE SECOND FORM. 'bulk': how many values and letters a reading holds, each counted each time it is reached (what is shared counts as often as it is met; a slice's spare places count too). A statement '..UptoSaid' is the law's where the arguments, and the package variables that the reading takes, are together of bulk at most 1048576: NARROWER than '..Said'. Prove '..Said' where nothing that the law and all that it calls make is longer than what came in: it says more and counts as full. Else prove '..UptoSaid'. A law counts once. -/
mutual
def uptoBulk {H : Type} : DataW H → Nat
  | .lit (.string bytes) => bytes.length + 1
  | .lit _ => 1
  | .nil => 1
  | .ptr d => uptoBulk d + 1
  | .slice elems spare => uptoBulkAll elems + uptoBulkAll spare + 1
  | .agg parts => uptoBulkAll parts + 1
  | .iface _ d => uptoBulk d + 1
  | .map entries => uptoBulkEntries entries + 1
  | .held _ => 1
def uptoBulkAll {H : Type} : List (DataW H) → Nat
  | [] => 0
  | d :: r => uptoBulk d + uptoBulkAll r
def uptoBulkEntries {H : Type} : List (Lit × DataW H) → Nat
  | [] => 0
  | x :: r => uptoBulkEntry x + uptoBulkEntries r
def uptoBulkEntry {H : Type} : Lit × DataW H → Nat
  | (.string bytes, d) => bytes.length + uptoBulk d + 1
  | (_, d) => uptoBulk d + 1
 end
def uptoSmall : (H : Type) → List (DataW H) → Bool := fun _ ds => decide (uptoBulkAll ds ≤ 1048576)
def OpenSpec.upto (s : _root_.Go.ChangeSpec) : _root_.Go.OpenSpec := { _root_.Go.OpenSpec.ofChange s with cond := some uptoSmall }

/-- 'laws.FnExactIsNormal', WHERE WHAT IT READS IS OF BULK AT MOST 1048576: true; the input reads as it did. -/
def fnExactIsNormalUptoRow : OpenClaim := { program := "ythjpdljdodalaaa", sum := "7a07959ac4b7acb311097d4fd9015b36acf65d777f93c806c0a61fc8c3253189", func := "loop.example/g00870/laws.FnExactIsNormal", spec := "fnExactIsNormal", unfollowed := true, recurses := true, apart := false, narrowed := true }
def FnExactIsNormalUptoSaid : Prop := fnExactIsNormalUptoRow.holds Try.pinned (OpenSpec.upto fnExactIsNormalSpec)

/-- 'laws.FnExactMatchingMatrix', WHERE WHAT IT READS IS OF BULK AT MOST 1048576: true; the input reads as it did. -/
def fnExactMatchingMatrixUptoRow : OpenClaim := { program := "ythjpdljdodalaaa", sum := "7a07959ac4b7acb311097d4fd9015b36acf65d777f93c806c0a61fc8c3253189", func := "loop.example/g00870/laws.FnExactMatchingMatrix", spec := "fnExactMatchingMatrix", unfollowed := true, recurses := true, apart := false, narrowed := true }
def FnExactMatchingMatrixUptoSaid : Prop := fnExactMatchingMatrixUptoRow.holds Try.pinned (OpenSpec.upto fnExactMatchingMatrixSpec)

/-- 'laws.FnExactIsAdmissible', WHERE WHAT IT READS IS OF BULK AT MOST 1048576: true; the input reads as it did. -/
def fnExactIsAdmissibleUptoRow : OpenClaim := { program := "ythjpdljdodalaaa", sum := "7a07959ac4b7acb311097d4fd9015b36acf65d777f93c806c0a61fc8c3253189", func := "loop.example/g00870/laws.FnExactIsAdmissible", spec := "fnExactIsAdmissible", unfollowed := true, recurses := true, apart := false, narrowed := true }
def FnExactIsAdmissibleUptoSaid : Prop := fnExactIsAdmissibleUptoRow.holds Try.pinned (OpenSpec.upto fnExactIsAdmissibleSpec)

/-- 'laws.FnExactAreCompatible', WHERE WHAT IT READS IS OF BULK AT MOST 1048576: true; the input reads as it did. -/
def fnExactAreCompatibleUptoRow : OpenClaim := { program := "ythjpdljdodalaaa", sum := "7a07959ac4b7acb311097d4fd9015b36acf65d777f93c806c0a61fc8c3253189", func := "loop.example/g00870/laws.FnExactAreCompatible", spec := "fnExactAreCompatible", unfollowed := true, recurses := true, apart := false, narrowed := true }
def FnExactAreCompatibleUptoSaid : Prop := fnExactAreCompatibleUptoRow.holds Try.pinned (OpenSpec.upto fnExactAreCompatibleSpec)

/-- 'laws.FnExactQuadPart', WHERE WHAT IT READS IS OF BULK AT MOST 1048576: true; the input reads as it did. -/
def fnExactQuadPartUptoRow : OpenClaim := { program := "ythjpdljdodalaaa", sum := "7a07959ac4b7acb311097d4fd9015b36acf65d777f93c806c0a61fc8c3253189", func := "loop.example/g00870/laws.FnExactQuadPart", spec := "fnExactQuadPart", unfollowed := true, recurses := true, apart := false, narrowed := true }
def FnExactQuadPartUptoSaid : Prop := fnExactQuadPartUptoRow.holds Try.pinned (OpenSpec.upto fnExactQuadPartSpec)

/-- 'laws.FnExactVertexLinkVector', WHERE WHAT IT READS IS OF BULK AT MOST 1048576: true; the input reads as it did. -/
def fnExactVertexLinkVectorUptoRow : OpenClaim := { program := "ythjpdljdodalaaa", sum := "7a07959ac4b7acb311097d4fd9015b36acf65d777f93c806c0a61fc8c3253189", func := "loop.example/g00870/laws.FnExactVertexLinkVector", spec := "fnExactVertexLinkVector", unfollowed := true, recurses := true, apart := false, narrowed := true }
def FnExactVertexLinkVectorUptoSaid : Prop := fnExactVertexLinkVectorUptoRow.holds Try.pinned (OpenSpec.upto fnExactVertexLinkVectorSpec)

/-- 'laws.FnExactMultiplicity', WHERE WHAT IT READS IS OF BULK AT MOST 1048576: true; the input reads as it did. -/
def fnExactMultiplicityUptoRow : OpenClaim := { program := "ythjpdljdodalaaa", sum := "7a07959ac4b7acb311097d4fd9015b36acf65d777f93c806c0a61fc8c3253189", func := "loop.example/g00870/laws.FnExactMultiplicity", spec := "fnExactMultiplicity", unfollowed := true, recurses := true, apart := false, narrowed := true }
def FnExactMultiplicityUptoSaid : Prop := fnExactMultiplicityUptoRow.holds Try.pinned (OpenSpec.upto fnExactMultiplicitySpec)

/-- 'laws.FnExactQuadChoice', WHERE WHAT IT READS IS OF BULK AT MOST 1048576: true; the input reads as it did. -/
def fnExactQuadChoiceUptoRow : OpenClaim := { program := "ythjpdljdodalaaa", sum := "7a07959ac4b7acb311097d4fd9015b36acf65d777f93c806c0a61fc8c3253189", func := "loop.example/g00870/laws.FnExactQuadChoice", spec := "fnExactQuadChoice", unfollowed := true, recurses := true, apart := false, narrowed := true }
def FnExactQuadChoiceUptoSaid : Prop := fnExactQuadChoiceUptoRow.holds Try.pinned (OpenSpec.upto fnExactQuadChoiceSpec)

/-- 'laws.FnExactSumOfVectors', WHERE WHAT IT READS IS OF BULK AT MOST 1048576: true; the input reads as it did. -/
def fnExactSumOfVectorsUptoRow : OpenClaim := { program := "ythjpdljdodalaaa", sum := "7a07959ac4b7acb311097d4fd9015b36acf65d777f93c806c0a61fc8c3253189", func := "loop.example/g00870/laws.FnExactSumOfVectors", spec := "fnExactSumOfVectors", unfollowed := true, recurses := true, apart := false, narrowed := true }
def FnExactSumOfVectorsUptoSaid : Prop := fnExactSumOfVectorsUptoRow.holds Try.pinned (OpenSpec.upto fnExactSumOfVectorsSpec)

/-- 'laws.FnExactSumOfList', WHERE WHAT IT READS IS OF BULK AT MOST 1048576: true; the input reads as it did. -/
def fnExactSumOfListUptoRow : OpenClaim := { program := "ythjpdljdodalaaa", sum := "7a07959ac4b7acb311097d4fd9015b36acf65d777f93c806c0a61fc8c3253189", func := "loop.example/g00870/laws.FnExactSumOfList", spec := "fnExactSumOfList", unfollowed := true, recurses := true, apart := false, narrowed := true }
def FnExactSumOfListUptoSaid : Prop := fnExactSumOfListUptoRow.holds Try.pinned (OpenSpec.upto fnExactSumOfListSpec)

/-- 'laws.FnExactSplitLinks', WHERE WHAT IT READS IS OF BULK AT MOST 1048576: true; the input reads as it did. -/
def fnExactSplitLinksUptoRow : OpenClaim := { program := "ythjpdljdodalaaa", sum := "7a07959ac4b7acb311097d4fd9015b36acf65d777f93c806c0a61fc8c3253189", func := "loop.example/g00870/laws.FnExactSplitLinks", spec := "fnExactSplitLinks", unfollowed := true, recurses := true, apart := false, narrowed := true }
def FnExactSplitLinksUptoSaid : Prop := fnExactSplitLinksUptoRow.holds Try.pinned (OpenSpec.upto fnExactSplitLinksSpec)

/-- 'laws.FnExactDiscsOf', WHERE WHAT IT READS IS OF BULK AT MOST 1048576: true; the input reads as it did. -/
def fnExactDiscsOfUptoRow : OpenClaim := { program := "ythjpdljdodalaaa", sum := "7a07959ac4b7acb311097d4fd9015b36acf65d777f93c806c0a61fc8c3253189", func := "loop.example/g00870/laws.FnExactDiscsOf", spec := "fnExactDiscsOf", unfollowed := true, recurses := true, apart := false, narrowed := true }
def FnExactDiscsOfUptoSaid : Prop := fnExactDiscsOfUptoRow.holds Try.pinned (OpenSpec.upto fnExactDiscsOfSpec)

end Rows
end Go.Proofs.Ythjpdljdodalaaa
