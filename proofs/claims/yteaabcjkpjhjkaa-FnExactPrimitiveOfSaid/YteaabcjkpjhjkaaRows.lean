/-
  No cell of these rows narrows 'for every input' (looked for: loops, veiled, ifaces, maps, wideKeys, modest, calm, conditions, laid).
  DERIVED. THE GIVEN ROWS OF THIS SEAT. 4 by the template 'for every input the law returns true; each argument reads behind the call as it read before'; 0 by the template 'total and deterministic' (their statements: YteaabcjkpjhjkaaTotals.lean).
  GIVEN WITH THE SEED: the statements are not yours to turn. If you find one false, say at which input.
  Laid BY PROGRAM, IN A SANDBOX (cutbox-rows.mjs): the forced cells as the released guide's own fill.sh prints them over the translation 612146019022ca7c… (all of the seat's roots in one cut). By AI agents, Wed Nov 11 2026. No macro, syntax, notation, axiom, sorry.
-/
import Derived.Test.YteaabcjkpjhjkaaChecked
import GoSem.Claim
import GoSem.ClaimJoined
import GoSem.ClaimMapViews
import Derived.JoinedTies
import Derived.KernelRfl
namespace Go.Proofs.Yteaabcjkpjhjkaa
/- THE CELL 'sum', in the pinned program and in every row, IS THE sha256 OF THE DUMP (.gsa) THAT YteaabcjkpjhjkaaProg.lean LOADS. Nothing in Lean hashes anything: it is a label: what it is worth is what the hold of that sum in a sandbox is worth. -/
noncomputable def Try.pinned : Pinned := { name := "yteaabcjkpjhjkaa", sum := "612146019022ca7c2ae5bfbd16a6604578df52302f1d6fc1f0c9c4c1a87cd4c2", checked := Try.checked }
namespace Rows
def none {H : Type} : Left H := { results := [], args := [] }

/-- 'laws.FnExactSupportOf': WHATEVER THE INPUT: true; the input reads as it did. -/
def fnExactSupportOfSpec : ChangeSpec := { name := "fnExactSupportOf", fn := fun _ => fun
  | [d] => { results := [.lit (.bool true)], args := [d] }
  | _ => none }
def fnExactSupportOfRow : OpenClaim := { program := "yteaabcjkpjhjkaa", sum := "612146019022ca7c2ae5bfbd16a6604578df52302f1d6fc1f0c9c4c1a87cd4c2", func := "loop.example/g00870/laws.FnExactSupportOf", spec := "fnExactSupportOf", apart := false }
def FnExactSupportOfSaid : Prop := fnExactSupportOfRow.holds Try.pinned (OpenSpec.ofChange fnExactSupportOfSpec)

/-- ITS FALSE NEIGHBOUR: 'it returns false'. Refute it at one input. -/
def fnExactSupportOfWrong : ChangeSpec := { name := "fnExactSupportOf", fn := fun _ => fun
  | [d] => { results := [.lit (.bool false)], args := [d] }
  | _ => none }
def FnExactSupportOfWrongFalsely : Prop := fnExactSupportOfRow.holds Try.pinned (OpenSpec.ofChange fnExactSupportOfWrong)

/-- 'laws.FnExactCandidateCount': WHATEVER THE INPUT: true; the input reads as it did. -/
def fnExactCandidateCountSpec : ChangeSpec := { name := "fnExactCandidateCount", fn := fun _ => fun
  | [d] => { results := [.lit (.bool true)], args := [d] }
  | _ => none }
def fnExactCandidateCountRow : OpenClaim := { program := "yteaabcjkpjhjkaa", sum := "612146019022ca7c2ae5bfbd16a6604578df52302f1d6fc1f0c9c4c1a87cd4c2", func := "loop.example/g00870/laws.FnExactCandidateCount", spec := "fnExactCandidateCount", unfollowed := true, recurses := true, apart := false }
def FnExactCandidateCountSaid : Prop := fnExactCandidateCountRow.holds Try.pinned (OpenSpec.ofChange fnExactCandidateCountSpec)

/-- ITS FALSE NEIGHBOUR: 'it returns false'. Refute it at one input. -/
def fnExactCandidateCountWrong : ChangeSpec := { name := "fnExactCandidateCount", fn := fun _ => fun
  | [d] => { results := [.lit (.bool false)], args := [d] }
  | _ => none }
def FnExactCandidateCountWrongFalsely : Prop := fnExactCandidateCountRow.holds Try.pinned (OpenSpec.ofChange fnExactCandidateCountWrong)

/-- 'laws.FnExactHasOneType': WHATEVER THE INPUT: true; the input reads as it did. -/
def fnExactHasOneTypeSpec : ChangeSpec := { name := "fnExactHasOneType", fn := fun _ => fun
  | [d] => { results := [.lit (.bool true)], args := [d] }
  | _ => none }
def fnExactHasOneTypeRow : OpenClaim := { program := "yteaabcjkpjhjkaa", sum := "612146019022ca7c2ae5bfbd16a6604578df52302f1d6fc1f0c9c4c1a87cd4c2", func := "loop.example/g00870/laws.FnExactHasOneType", spec := "fnExactHasOneType", unfollowed := true, recurses := true, apart := false }
def FnExactHasOneTypeSaid : Prop := fnExactHasOneTypeRow.holds Try.pinned (OpenSpec.ofChange fnExactHasOneTypeSpec)

/-- ITS FALSE NEIGHBOUR: 'it returns false'. Refute it at one input. -/
def fnExactHasOneTypeWrong : ChangeSpec := { name := "fnExactHasOneType", fn := fun _ => fun
  | [d] => { results := [.lit (.bool false)], args := [d] }
  | _ => none }
def FnExactHasOneTypeWrongFalsely : Prop := fnExactHasOneTypeRow.holds Try.pinned (OpenSpec.ofChange fnExactHasOneTypeWrong)

/-- 'laws.FnExactPrimitiveOf': WHATEVER THE INPUT: true; the input reads as it did. -/
def fnExactPrimitiveOfSpec : ChangeSpec := { name := "fnExactPrimitiveOf", fn := fun _ => fun
  | [d] => { results := [.lit (.bool true)], args := [d] }
  | _ => none }
def fnExactPrimitiveOfRow : OpenClaim := { program := "yteaabcjkpjhjkaa", sum := "612146019022ca7c2ae5bfbd16a6604578df52302f1d6fc1f0c9c4c1a87cd4c2", func := "loop.example/g00870/laws.FnExactPrimitiveOf", spec := "fnExactPrimitiveOf", unfollowed := true, recurses := true, apart := false }
def FnExactPrimitiveOfSaid : Prop := fnExactPrimitiveOfRow.holds Try.pinned (OpenSpec.ofChange fnExactPrimitiveOfSpec)

/-- ITS FALSE NEIGHBOUR: 'it returns false'. Refute it at one input. -/
def fnExactPrimitiveOfWrong : ChangeSpec := { name := "fnExactPrimitiveOf", fn := fun _ => fun
  | [d] => { results := [.lit (.bool false)], args := [d] }
  | _ => none }
def FnExactPrimitiveOfWrongFalsely : Prop := fnExactPrimitiveOfRow.holds Try.pinned (OpenSpec.ofChange fnExactPrimitiveOfWrong)

/- THE SECOND FORM. 'bulk': how many values and letters a reading holds, each counted each time it is reached (what is shared counts as often as it is met; a slice's spare places count too). A statement '..UptoSaid' is the law's where the arguments, and the package variables that the reading takes, are together of bulk at most 1048576: NARROWER than '..Said'. Prove '..Said' where nothing that the law and all that it calls make is longer than what came in: it says more and counts as full. Else prove '..UptoSaid'. A law counts once. -/
mutual
def uptoBulk {H : Type} : DataW H → Nat
  | .lit (.string bytes) => bytes.length + 1
  | .lit _ => 1
  | .nil => 1
  | .ptr d => uptoBulk d + 1
  | .slice elems spare => uptoBulkAll elems + uptoBulkAll spare + 1
  | .agg parts => uptoBulkAll parts + 1
  | .iface _ d => uptoBulk d + 1
  | .map entries => uptoBulkEntries entries + 1
  | .held _ => 1
def uptoBulkAll {H : Type} : List (DataW H) → Nat
  | [] => 0
  | d :: r => uptoBulk d + uptoBulkAll r
def uptoBulkEntries {H : Type} : List (Lit × DataW H) → Nat
  | [] => 0
  | x :: r => uptoBulkEntry x + uptoBulkEntries r
def uptoBulkEntry {H : Type} : Lit × DataW H → Nat
  | (.string bytes, d) => bytes.length + uptoBulk d + 1
  | (_, d) => uptoBulk d + 1
 end
def uptoSmall : (H : Type) → List (DataW H) → Bool := fun _ ds => decide (uptoBulkAll ds ≤ 1048576)
def OpenSpec.upto (s : _root_.Go.ChangeSpec) : _root_.Go.OpenSpec := { _root_.Go.OpenSpec.ofChange s with cond := some uptoSmall }

/-- 'laws.FnExactSupportOf', WHERE WHAT IT READS IS OF BULK AT MOST 1048576: true; the input reads as it did. -/
def fnExactSupportOfUptoRow : OpenClaim := { program := "yteaabcjkpjhjkaa", sum := "612146019022ca7c2ae5bfbd16a6604578df52302f1d6fc1f0c9c4c1a87cd4c2", func := "loop.example/g00870/laws.FnExactSupportOf", spec := "fnExactSupportOf", apart := false, narrowed := true }
def FnExactSupportOfUptoSaid : Prop := fnExactSupportOfUptoRow.holds Try.pinned (OpenSpec.upto fnExactSupportOfSpec)

/-- 'laws.FnExactCandidateCount', WHERE WHAT IT READS IS OF BULK AT MOST 1048576: true; the input reads as it did. -/
def fnExactCandidateCountUptoRow : OpenClaim := { program := "yteaabcjkpjhjkaa", sum := "612146019022ca7c2ae5bfbd16a6604578df52302f1d6fc1f0c9c4c1a87cd4c2", func := "loop.example/g00870/laws.FnExactCandidateCount", spec := "fnExactCandidateCount", unfollowed := true, recurses := true, apart := false, narrowed := true }
def FnExactCandidateCountUptoSaid : Prop := fnExactCandidateCountUptoRow.holds Try.pinned (OpenSpec.upto fnExactCandidateCountSpec)

/-- 'laws.FnExactHasOneType', WHERE WHAT IT READS IS OF BULK AT MOST 1048576: true; the input reads as it did. -/
def fnExactHasOneTypeUptoRow : OpenClaim := { program := "yteaabcjkpjhjkaa", sum := "612146019022ca7c2ae5bfbd16a6604578df52302f1d6fc1f0c9c4c1a87cd4c2", func := "loop.example/g00870/laws.FnExactHasOneType", spec := "fnExactHasOneType", unfollowed := true, recurses := true, apart := false, narrowed := true }
def FnExactHasOneTypeUptoSaid : Prop := fnExactHasOneTypeUptoRow.holds Try.pinned (OpenSpec.upto fnExactHasOneTypeSpec)

/-- 'laws.FnExactPrimitiveOf', WHERE WHAT IT READS IS OF BULK AT MOST 1048576: true; the input reads as it did. -/
def fnExactPrimitiveOfUptoRow : OpenClaim := { program := "yteaabcjkpjhjkaa", sum := "612146019022ca7c2ae5bfbd16a6604578df52302f1d6fc1f0c9c4c1a87cd4c2", func := "loop.example/g00870/laws.FnExactPrimitiveOf", spec := "fnExactPrimitiveOf", unfollowed := true, recurses := true, apart := false, narrowed := true }
def FnExactPrimitiveOfUptoSaid : Prop := fnExactPrimitiveOfUptoRow.holds Try.pinned (OpenSpec.upto fnExactPrimitiveOfSpec)

end Rows
end Go.Proofs.Yteaabcjkpjhjkaa
