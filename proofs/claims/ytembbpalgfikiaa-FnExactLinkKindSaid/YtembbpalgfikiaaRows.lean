/-
  No cell of these rows narrows 'for every input' (looked for: loops, veiled, ifaces, maps, wideKeys, modest, calm, conditions, laid).
  DERIVED. THE GIVEN ROWS OF THIS SEAT. 9 by the template 'for every input the law returns true; each argument reads behind the call as it read before'; 0 by the template 'total and deterministic' (their statements: YtembbpalgfikiaaTotals.lean).
  GIVEN WITH THE SEED: the statements are not yours to turn. If you find one false, say at which input.
  Laid BY PROGRAM, IN A SANDBOX (cutbox-rows.mjs): the forced cells as the released guide's own fill.sh prints them over the translation c01daf3f4f5a1ace… (all of the seat's roots in one cut). By AI agents, Wed Nov 11 2026. No macro, syntax, notation, axiom, sorry.
-/
import Derived.Test.YtembbpalgfikiaaChecked
import GoSem.Claim
import GoSem.ClaimJoined
import GoSem.ClaimMapViews
import Derived.JoinedTies
import Derived.KernelRfl
namespace Go.Proofs.Ytembbpalgfikiaa
/- THE CELL 'sum', in the pinned program and in every row, IS THE sha256 OF THE DUMP (.gsa) THAT YtembbpalgfikiaaProg.lean LOADS. Nothing in Lean hashes anything: it is a label: what it is worth is what the hold of that sum in a sandbox is worth. -/
noncomputable def Try.pinned : Pinned := { name := "ytembbpalgfikiaa", sum := "c01daf3f4f5a1aced44a0dc9b73393b30938f2485560039bfd2f6904ddbada75", checked := Try.checked }
namespace Rows
def none {H : Type} : Left H := { results := [], args := [] }

/-- 'laws.FnExactHasOneType': WHATEVER THE INPUT: true; the input reads as it did. -/
def fnExactHasOneTypeSpec : ChangeSpec := { name := "fnExactHasOneType", fn := fun _ => fun
  | [d] => { results := [.lit (.bool true)], args := [d] }
  | _ => none }
def fnExactHasOneTypeRow : OpenClaim := { program := "ytembbpalgfikiaa", sum := "c01daf3f4f5a1aced44a0dc9b73393b30938f2485560039bfd2f6904ddbada75", func := "loop.example/g00870/laws.FnExactHasOneType", spec := "fnExactHasOneType", unfollowed := true, recurses := true, apart := false }
def FnExactHasOneTypeSaid : Prop := fnExactHasOneTypeRow.holds Try.pinned (OpenSpec.ofChange fnExactHasOneTypeSpec)

/-- ITS FALSE NEIGHBOUR: 'it returns false'. Refute it at one input. -/
def fnExactHasOneTypeWrong : ChangeSpec := { name := "fnExactHasOneType", fn := fun _ => fun
  | [d] => { results := [.lit (.bool false)], args := [d] }
  | _ => none }
def FnExactHasOneTypeWrongFalsely : Prop := fnExactHasOneTypeRow.holds Try.pinned (OpenSpec.ofChange fnExactHasOneTypeWrong)

/-- 'laws.FnExactLinkCorners': WHATEVER THE INPUT: true; the input reads as it did. -/
def fnExactLinkCornersSpec : ChangeSpec := { name := "fnExactLinkCorners", fn := fun _ => fun
  | [d1, d2] => { results := [.lit (.bool true)], args := [d1, d2] }
  | _ => none }
def fnExactLinkCornersRow : OpenClaim := { program := "ytembbpalgfikiaa", sum := "c01daf3f4f5a1aced44a0dc9b73393b30938f2485560039bfd2f6904ddbada75", func := "loop.example/g00870/laws.FnExactLinkCorners", spec := "fnExactLinkCorners", unfollowed := true, recurses := true, apart := false }
def FnExactLinkCornersSaid : Prop := fnExactLinkCornersRow.holds Try.pinned (OpenSpec.ofChange fnExactLinkCornersSpec)

/-- ITS FALSE NEIGHBOUR: 'it returns false'. Refute it at one input. -/
def fnExactLinkCornersWrong : ChangeSpec := { name := "fnExactLinkCorners", fn := fun _ => fun
  | [d1, d2] => { results := [.lit (.bool false)], args := [d1, d2] }
  | _ => none }
def FnExactLinkCornersWrongFalsely : Prop := fnExactLinkCornersRow.holds Try.pinned (OpenSpec.ofChange fnExactLinkCornersWrong)

/-- 'laws.FnExactLinkIsClosed': WHATEVER THE INPUT: true; the input reads as it did. -/
def fnExactLinkIsClosedSpec : ChangeSpec := { name := "fnExactLinkIsClosed", fn := fun _ => fun
  | [d1, d2] => { results := [.lit (.bool true)], args := [d1, d2] }
  | _ => none }
def fnExactLinkIsClosedRow : OpenClaim := { program := "ytembbpalgfikiaa", sum := "c01daf3f4f5a1aced44a0dc9b73393b30938f2485560039bfd2f6904ddbada75", func := "loop.example/g00870/laws.FnExactLinkIsClosed", spec := "fnExactLinkIsClosed", unfollowed := true, recurses := true, apart := false }
def FnExactLinkIsClosedSaid : Prop := fnExactLinkIsClosedRow.holds Try.pinned (OpenSpec.ofChange fnExactLinkIsClosedSpec)

/-- ITS FALSE NEIGHBOUR: 'it returns false'. Refute it at one input. -/
def fnExactLinkIsClosedWrong : ChangeSpec := { name := "fnExactLinkIsClosed", fn := fun _ => fun
  | [d1, d2] => { results := [.lit (.bool false)], args := [d1, d2] }
  | _ => none }
def FnExactLinkIsClosedWrongFalsely : Prop := fnExactLinkIsClosedRow.holds Try.pinned (OpenSpec.ofChange fnExactLinkIsClosedWrong)

/-- 'laws.FnExactLinkEuler': WHATEVER THE INPUT: true; the input reads as it did. -/
def fnExactLinkEulerSpec : ChangeSpec := { name := "fnExactLinkEuler", fn := fun _ => fun
  | [d1, d2] => { results := [.lit (.bool true)], args := [d1, d2] }
  | _ => none }
def fnExactLinkEulerRow : OpenClaim := { program := "ytembbpalgfikiaa", sum := "c01daf3f4f5a1aced44a0dc9b73393b30938f2485560039bfd2f6904ddbada75", func := "loop.example/g00870/laws.FnExactLinkEuler", spec := "fnExactLinkEuler", unfollowed := true, recurses := true, apart := false }
def FnExactLinkEulerSaid : Prop := fnExactLinkEulerRow.holds Try.pinned (OpenSpec.ofChange fnExactLinkEulerSpec)

/-- ITS FALSE NEIGHBOUR: 'it returns false'. Refute it at one input. -/
def fnExactLinkEulerWrong : ChangeSpec := { name := "fnExactLinkEuler", fn := fun _ => fun
  | [d1, d2] => { results := [.lit (.bool false)], args := [d1, d2] }
  | _ => none }
def FnExactLinkEulerWrongFalsely : Prop := fnExactLinkEulerRow.holds Try.pinned (OpenSpec.ofChange fnExactLinkEulerWrong)

/-- 'laws.FnExactLinkIsOrientable': WHATEVER THE INPUT: true; the input reads as it did. -/
def fnExactLinkIsOrientableSpec : ChangeSpec := { name := "fnExactLinkIsOrientable", fn := fun _ => fun
  | [d1, d2] => { results := [.lit (.bool true)], args := [d1, d2] }
  | _ => none }
def fnExactLinkIsOrientableRow : OpenClaim := { program := "ytembbpalgfikiaa", sum := "c01daf3f4f5a1aced44a0dc9b73393b30938f2485560039bfd2f6904ddbada75", func := "loop.example/g00870/laws.FnExactLinkIsOrientable", spec := "fnExactLinkIsOrientable", unfollowed := true, recurses := true, apart := false }
def FnExactLinkIsOrientableSaid : Prop := fnExactLinkIsOrientableRow.holds Try.pinned (OpenSpec.ofChange fnExactLinkIsOrientableSpec)

/-- ITS FALSE NEIGHBOUR: 'it returns false'. Refute it at one input. -/
def fnExactLinkIsOrientableWrong : ChangeSpec := { name := "fnExactLinkIsOrientable", fn := fun _ => fun
  | [d1, d2] => { results := [.lit (.bool false)], args := [d1, d2] }
  | _ => none }
def FnExactLinkIsOrientableWrongFalsely : Prop := fnExactLinkIsOrientableRow.holds Try.pinned (OpenSpec.ofChange fnExactLinkIsOrientableWrong)

/-- 'laws.FnExactLinkKind': WHATEVER THE INPUT: true; the input reads as it did. -/
def fnExactLinkKindSpec : ChangeSpec := { name := "fnExactLinkKind", fn := fun _ => fun
  | [d1, d2] => { results := [.lit (.bool true)], args := [d1, d2] }
  | _ => none }
def fnExactLinkKindRow : OpenClaim := { program := "ytembbpalgfikiaa", sum := "c01daf3f4f5a1aced44a0dc9b73393b30938f2485560039bfd2f6904ddbada75", func := "loop.example/g00870/laws.FnExactLinkKind", spec := "fnExactLinkKind", unfollowed := true, recurses := true, apart := false }
def FnExactLinkKindSaid : Prop := fnExactLinkKindRow.holds Try.pinned (OpenSpec.ofChange fnExactLinkKindSpec)

/-- ITS FALSE NEIGHBOUR: 'it returns false'. Refute it at one input. -/
def fnExactLinkKindWrong : ChangeSpec := { name := "fnExactLinkKind", fn := fun _ => fun
  | [d1, d2] => { results := [.lit (.bool false)], args := [d1, d2] }
  | _ => none }
def FnExactLinkKindWrongFalsely : Prop := fnExactLinkKindRow.holds Try.pinned (OpenSpec.ofChange fnExactLinkKindWrong)

/-- 'laws.FnExactTetComponents': WHATEVER THE INPUT: true; the input reads as it did. -/
def fnExactTetComponentsSpec : ChangeSpec := { name := "fnExactTetComponents", fn := fun _ => fun
  | [d] => { results := [.lit (.bool true)], args := [d] }
  | _ => none }
def fnExactTetComponentsRow : OpenClaim := { program := "ytembbpalgfikiaa", sum := "c01daf3f4f5a1aced44a0dc9b73393b30938f2485560039bfd2f6904ddbada75", func := "loop.example/g00870/laws.FnExactTetComponents", spec := "fnExactTetComponents", unfollowed := true, recurses := true, apart := false }
def FnExactTetComponentsSaid : Prop := fnExactTetComponentsRow.holds Try.pinned (OpenSpec.ofChange fnExactTetComponentsSpec)

/-- ITS FALSE NEIGHBOUR: 'it returns false'. Refute it at one input. -/
def fnExactTetComponentsWrong : ChangeSpec := { name := "fnExactTetComponents", fn := fun _ => fun
  | [d] => { results := [.lit (.bool false)], args := [d] }
  | _ => none }
def FnExactTetComponentsWrongFalsely : Prop := fnExactTetComponentsRow.holds Try.pinned (OpenSpec.ofChange fnExactTetComponentsWrong)

/-- 'laws.FnExactReversesOrientation': WHATEVER THE INPUT: true; the input reads as it did. -/
def fnExactReversesOrientationSpec : ChangeSpec := { name := "fnExactReversesOrientation", fn := fun _ => fun
  | [d1, d2] => { results := [.lit (.bool true)], args := [d1, d2] }
  | _ => none }
def fnExactReversesOrientationRow : OpenClaim := { program := "ytembbpalgfikiaa", sum := "c01daf3f4f5a1aced44a0dc9b73393b30938f2485560039bfd2f6904ddbada75", func := "loop.example/g00870/laws.FnExactReversesOrientation", spec := "fnExactReversesOrientation", unfollowed := true, recurses := true, apart := false }
def FnExactReversesOrientationSaid : Prop := fnExactReversesOrientationRow.holds Try.pinned (OpenSpec.ofChange fnExactReversesOrientationSpec)

/-- ITS FALSE NEIGHBOUR: 'it returns false'. Refute it at one input. -/
def fnExactReversesOrientationWrong : ChangeSpec := { name := "fnExactReversesOrientation", fn := fun _ => fun
  | [d1, d2] => { results := [.lit (.bool false)], args := [d1, d2] }
  | _ => none }
def FnExactReversesOrientationWrongFalsely : Prop := fnExactReversesOrientationRow.holds Try.pinned (OpenSpec.ofChange fnExactReversesOrientationWrong)

/-- 'laws.FnExactDoubleCover': WHATEVER THE INPUT: true; the input reads as it did. -/
def fnExactDoubleCoverSpec : ChangeSpec := { name := "fnExactDoubleCover", fn := fun _ => fun
  | [d] => { results := [.lit (.bool true)], args := [d] }
  | _ => none }
def fnExactDoubleCoverRow : OpenClaim := { program := "ytembbpalgfikiaa", sum := "c01daf3f4f5a1aced44a0dc9b73393b30938f2485560039bfd2f6904ddbada75", func := "loop.example/g00870/laws.FnExactDoubleCover", spec := "fnExactDoubleCover", unfollowed := true, recurses := true, apart := false }
def FnExactDoubleCoverSaid : Prop := fnExactDoubleCoverRow.holds Try.pinned (OpenSpec.ofChange fnExactDoubleCoverSpec)

/-- ITS FALSE NEIGHBOUR: 'it returns false'. Refute it at one input. -/
def fnExactDoubleCoverWrong : ChangeSpec := { name := "fnExactDoubleCover", fn := fun _ => fun
  | [d] => { results := [.lit (.bool false)], args := [d] }
  | _ => none }
def FnExactDoubleCoverWrongFalsely : Prop := fnExactDoubleCoverRow.holds Try.pinned (OpenSpec.ofChange fnExactDoubleCoverWrong)

/- THE SECOND FORM. 'bulk': how many values and letters a reading holds, each counted each time it is reached (what is shared counts as often as it is met; a slice's spare places count too). A statement '..UptoSaid' is the law's where the arguments, and the package variables that the reading takes, are together of bulk at most 1048576: NARROWER than '..Said'. Prove '..Said' where nothing that the law and all that it calls make is longer than what came in: it says more and counts as full. Else prove '..UptoSaid'. A law counts once. -/
mutual
def uptoBulk {H : Type} : DataW H → Nat
  | .lit (.string bytes) => bytes.length + 1
  | .lit _ => 1
  | .nil => 1
  | .ptr d => uptoBulk d + 1
  | .slice elems spare => uptoBulkAll elems + uptoBulkAll spare + 1
  | .agg parts => uptoBulkAll parts + 1
  | .iface _ d => uptoBulk d + 1
  | .map entries => uptoBulkEntries entries + 1
  | .held _ => 1
def uptoBulkAll {H : Type} : List (DataW H) → Nat
  | [] => 0
  | d :: r => uptoBulk d + uptoBulkAll r
def uptoBulkEntries {H : Type} : List (Lit × DataW H) → Nat
  | [] => 0
  | x :: r => uptoBulkEntry x + uptoBulkEntries r
def uptoBulkEntry {H : Type} : Lit × DataW H → Nat
  | (.string bytes, d) => bytes.length + uptoBulk d + 1
  | (_, d) => uptoBulk d + 1
 end
def uptoSmall : (H : Type) → List (DataW H) → Bool := fun _ ds => decide (uptoBulkAll ds ≤ 1048576)
def OpenSpec.upto (s : _root_.Go.ChangeSpec) : _root_.Go.OpenSpec := { _root_.Go.OpenSpec.ofChange s with cond := some uptoSmall }

/-- 'laws.FnExactHasOneType', WHERE WHAT IT READS IS OF BULK AT MOST 1048576: true; the input reads as it did. -/
def fnExactHasOneTypeUptoRow : OpenClaim := { program := "ytembbpalgfikiaa", sum := "c01daf3f4f5a1aced44a0dc9b73393b30938f2485560039bfd2f6904ddbada75", func := "loop.example/g00870/laws.FnExactHasOneType", spec := "fnExactHasOneType", unfollowed := true, recurses := true, apart := false, narrowed := true }
def FnExactHasOneTypeUptoSaid : Prop := fnExactHasOneTypeUptoRow.holds Try.pinned (OpenSpec.upto fnExactHasOneTypeSpec)

/-- 'laws.FnExactLinkCorners', WHERE WHAT IT READS IS OF BULK AT MOST 1048576: true; the input reads as it did. -/
def fnExactLinkCornersUptoRow : OpenClaim := { program := "ytembbpalgfikiaa", sum := "c01daf3f4f5a1aced44a0dc9b73393b30938f2485560039bfd2f6904ddbada75", func := "loop.example/g00870/laws.FnExactLinkCorners", spec := "fnExactLinkCorners", unfollowed := true, recurses := true, apart := false, narrowed := true }
def FnExactLinkCornersUptoSaid : Prop := fnExactLinkCornersUptoRow.holds Try.pinned (OpenSpec.upto fnExactLinkCornersSpec)

/-- 'laws.FnExactLinkIsClosed', WHERE WHAT IT READS IS OF BULK AT MOST 1048576: true; the input reads as it did. -/
def fnExactLinkIsClosedUptoRow : OpenClaim := { program := "ytembbpalgfikiaa", sum := "c01daf3f4f5a1aced44a0dc9b73393b30938f2485560039bfd2f6904ddbada75", func := "loop.example/g00870/laws.FnExactLinkIsClosed", spec := "fnExactLinkIsClosed", unfollowed := true, recurses := true, apart := false, narrowed := true }
def FnExactLinkIsClosedUptoSaid : Prop := fnExactLinkIsClosedUptoRow.holds Try.pinned (OpenSpec.upto fnExactLinkIsClosedSpec)

/-- 'laws.FnExactLinkEuler', WHERE WHAT IT READS IS OF BULK AT MOST 1048576: true; the input reads as it did. -/
def fnExactLinkEulerUptoRow : OpenClaim := { program := "ytembbpalgfikiaa", sum := "c01daf3f4f5a1aced44a0dc9b73393b30938f2485560039bfd2f6904ddbada75", func := "loop.example/g00870/laws.FnExactLinkEuler", spec := "fnExactLinkEuler", unfollowed := true, recurses := true, apart := false, narrowed := true }
def FnExactLinkEulerUptoSaid : Prop := fnExactLinkEulerUptoRow.holds Try.pinned (OpenSpec.upto fnExactLinkEulerSpec)

/-- 'laws.FnExactLinkIsOrientable', WHERE WHAT IT READS IS OF BULK AT MOST 1048576: true; the input reads as it did. -/
def fnExactLinkIsOrientableUptoRow : OpenClaim := { program := "ytembbpalgfikiaa", sum := "c01daf3f4f5a1aced44a0dc9b73393b30938f2485560039bfd2f6904ddbada75", func := "loop.example/g00870/laws.FnExactLinkIsOrientable", spec := "fnExactLinkIsOrientable", unfollowed := true, recurses := true, apart := false, narrowed := true }
def FnExactLinkIsOrientableUptoSaid : Prop := fnExactLinkIsOrientableUptoRow.holds Try.pinned (OpenSpec.upto fnExactLinkIsOrientableSpec)

/-- 'laws.FnExactLinkKind', WHERE WHAT IT READS IS OF BULK AT MOST 1048576: true; the input reads as it did. -/
def fnExactLinkKindUptoRow : OpenClaim := { program := "ytembbpalgfikiaa", sum := "c01daf3f4f5a1aced44a0dc9b73393b30938f2485560039bfd2f6904ddbada75", func := "loop.example/g00870/laws.FnExactLinkKind", spec := "fnExactLinkKind", unfollowed := true, recurses := true, apart := false, narrowed := true }
def FnExactLinkKindUptoSaid : Prop := fnExactLinkKindUptoRow.holds Try.pinned (OpenSpec.upto fnExactLinkKindSpec)

/-- 'laws.FnExactTetComponents', WHERE WHAT IT READS IS OF BULK AT MOST 1048576: true; the input reads as it did. -/
def fnExactTetComponentsUptoRow : OpenClaim := { program := "ytembbpalgfikiaa", sum := "c01daf3f4f5a1aced44a0dc9b73393b30938f2485560039bfd2f6904ddbada75", func := "loop.example/g00870/laws.FnExactTetComponents", spec := "fnExactTetComponents", unfollowed := true, recurses := true, apart := false, narrowed := true }
def FnExactTetComponentsUptoSaid : Prop := fnExactTetComponentsUptoRow.holds Try.pinned (OpenSpec.upto fnExactTetComponentsSpec)

/-- 'laws.FnExactReversesOrientation', WHERE WHAT IT READS IS OF BULK AT MOST 1048576: true; the input reads as it did. -/
def fnExactReversesOrientationUptoRow : OpenClaim := { program := "ytembbpalgfikiaa", sum := "c01daf3f4f5a1aced44a0dc9b73393b30938f2485560039bfd2f6904ddbada75", func := "loop.example/g00870/laws.FnExactReversesOrientation", spec := "fnExactReversesOrientation", unfollowed := true, recurses := true, apart := false, narrowed := true }
def FnExactReversesOrientationUptoSaid : Prop := fnExactReversesOrientationUptoRow.holds Try.pinned (OpenSpec.upto fnExactReversesOrientationSpec)

/-- 'laws.FnExactDoubleCover', WHERE WHAT IT READS IS OF BULK AT MOST 1048576: true; the input reads as it did. -/
def fnExactDoubleCoverUptoRow : OpenClaim := { program := "ytembbpalgfikiaa", sum := "c01daf3f4f5a1aced44a0dc9b73393b30938f2485560039bfd2f6904ddbada75", func := "loop.example/g00870/laws.FnExactDoubleCover", spec := "fnExactDoubleCover", unfollowed := true, recurses := true, apart := false, narrowed := true }
def FnExactDoubleCoverUptoSaid : Prop := fnExactDoubleCoverUptoRow.holds Try.pinned (OpenSpec.upto fnExactDoubleCoverSpec)

end Rows
end Go.Proofs.Ytembbpalgfikiaa
