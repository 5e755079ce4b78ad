/-
  No cell of these rows narrows 'for every input' (looked for: loops, veiled, ifaces, maps, wideKeys, modest, calm, conditions, laid).
  DERIVED. THE GIVEN ROWS OF THIS SEAT. 12 by the template 'for every input the law returns true; each argument reads behind the call as it read before'; 0 by the template 'total and deterministic' (their statements: YtfaagdpopmnnpaaTotals.lean).
  GIVEN WITH THE SEED: the statements are not yours to turn. If you find one false, say at which input.
  Laid BY PROGRAM, IN A SANDBOX (cutbox-rows.mjs): the forced cells as the released guide's own fill.sh prints them over the translation 2df20394ade0f8ea… (all of the seat's roots in one cut). By AI agents, Wed Nov 11 2026. No macro, syntax, notation, axiom, sorry.
-/
import Derived.Test.YtfaagdpopmnnpaaChecked
import GoSem.Claim
import GoSem.ClaimJoined
import GoSem.ClaimMapViews
import Derived.JoinedTies
import Derived.KernelRfl
namespace Go.Proofs.Ytfaagdpopmnnpaa
/- THE CELL 'sum', in the pinned program and in every row, IS THE sha256 OF THE DUMP (.gsa) THAT YtfaagdpopmnnpaaProg.lean LOADS. Nothing in Lean hashes anything: it is a label: what it is worth is what the hold of that sum in a sandbox is worth. -/
noncomputable def Try.pinned : Pinned := { name := "ytfaagdpopmnnpaa", sum := "2df20394ade0f8ea256fbc9ae9b8210503a75adf8f2e7c848f7831be85f9d8ae", checked := Try.checked }
namespace Rows
def none {H : Type} : Left H := { results := [], args := [] }

/-- 'laws.FnExactIsOriented': WHATEVER THE INPUT: true; the input reads as it did. -/
def fnExactIsOrientedSpec : ChangeSpec := { name := "fnExactIsOriented", fn := fun _ => fun
  | [d] => { results := [.lit (.bool true)], args := [d] }
  | _ => none }
def fnExactIsOrientedRow : OpenClaim := { program := "ytfaagdpopmnnpaa", sum := "2df20394ade0f8ea256fbc9ae9b8210503a75adf8f2e7c848f7831be85f9d8ae", func := "loop.example/g00870/laws.FnExactIsOriented", spec := "fnExactIsOriented", unfollowed := true, recurses := true, apart := false }
def FnExactIsOrientedSaid : Prop := fnExactIsOrientedRow.holds Try.pinned (OpenSpec.ofChange fnExactIsOrientedSpec)

/-- ITS FALSE NEIGHBOUR: 'it returns false'. Refute it at one input. -/
def fnExactIsOrientedWrong : ChangeSpec := { name := "fnExactIsOriented", fn := fun _ => fun
  | [d] => { results := [.lit (.bool false)], args := [d] }
  | _ => none }
def FnExactIsOrientedWrongFalsely : Prop := fnExactIsOrientedRow.holds Try.pinned (OpenSpec.ofChange fnExactIsOrientedWrong)

/-- 'laws.FnExactIsOrientable': WHATEVER THE INPUT: true; the input reads as it did. -/
def fnExactIsOrientableSpec : ChangeSpec := { name := "fnExactIsOrientable", fn := fun _ => fun
  | [d] => { results := [.lit (.bool true)], args := [d] }
  | _ => none }
def fnExactIsOrientableRow : OpenClaim := { program := "ytfaagdpopmnnpaa", sum := "2df20394ade0f8ea256fbc9ae9b8210503a75adf8f2e7c848f7831be85f9d8ae", func := "loop.example/g00870/laws.FnExactIsOrientable", spec := "fnExactIsOrientable", unfollowed := true, recurses := true, apart := false }
def FnExactIsOrientableSaid : Prop := fnExactIsOrientableRow.holds Try.pinned (OpenSpec.ofChange fnExactIsOrientableSpec)

/-- ITS FALSE NEIGHBOUR: 'it returns false'. Refute it at one input. -/
def fnExactIsOrientableWrong : ChangeSpec := { name := "fnExactIsOrientable", fn := fun _ => fun
  | [d] => { results := [.lit (.bool false)], args := [d] }
  | _ => none }
def FnExactIsOrientableWrongFalsely : Prop := fnExactIsOrientableRow.holds Try.pinned (OpenSpec.ofChange fnExactIsOrientableWrong)

/-- 'laws.FnExactOrientationOf': WHATEVER THE INPUT: true; the input reads as it did. -/
def fnExactOrientationOfSpec : ChangeSpec := { name := "fnExactOrientationOf", fn := fun _ => fun
  | [d] => { results := [.lit (.bool true)], args := [d] }
  | _ => none }
def fnExactOrientationOfRow : OpenClaim := { program := "ytfaagdpopmnnpaa", sum := "2df20394ade0f8ea256fbc9ae9b8210503a75adf8f2e7c848f7831be85f9d8ae", func := "loop.example/g00870/laws.FnExactOrientationOf", spec := "fnExactOrientationOf", unfollowed := true, recurses := true, apart := false }
def FnExactOrientationOfSaid : Prop := fnExactOrientationOfRow.holds Try.pinned (OpenSpec.ofChange fnExactOrientationOfSpec)

/-- ITS FALSE NEIGHBOUR: 'it returns false'. Refute it at one input. -/
def fnExactOrientationOfWrong : ChangeSpec := { name := "fnExactOrientationOf", fn := fun _ => fun
  | [d] => { results := [.lit (.bool false)], args := [d] }
  | _ => none }
def FnExactOrientationOfWrongFalsely : Prop := fnExactOrientationOfRow.holds Try.pinned (OpenSpec.ofChange fnExactOrientationOfWrong)

/-- 'laws.FnExactReversesOrientation': WHATEVER THE INPUT: true; the input reads as it did. -/
def fnExactReversesOrientationSpec : ChangeSpec := { name := "fnExactReversesOrientation", fn := fun _ => fun
  | [d1, d2] => { results := [.lit (.bool true)], args := [d1, d2] }
  | _ => none }
def fnExactReversesOrientationRow : OpenClaim := { program := "ytfaagdpopmnnpaa", sum := "2df20394ade0f8ea256fbc9ae9b8210503a75adf8f2e7c848f7831be85f9d8ae", func := "loop.example/g00870/laws.FnExactReversesOrientation", spec := "fnExactReversesOrientation", unfollowed := true, recurses := true, apart := false }
def FnExactReversesOrientationSaid : Prop := fnExactReversesOrientationRow.holds Try.pinned (OpenSpec.ofChange fnExactReversesOrientationSpec)

/-- ITS FALSE NEIGHBOUR: 'it returns false'. Refute it at one input. -/
def fnExactReversesOrientationWrong : ChangeSpec := { name := "fnExactReversesOrientation", fn := fun _ => fun
  | [d1, d2] => { results := [.lit (.bool false)], args := [d1, d2] }
  | _ => none }
def FnExactReversesOrientationWrongFalsely : Prop := fnExactReversesOrientationRow.holds Try.pinned (OpenSpec.ofChange fnExactReversesOrientationWrong)

/-- 'laws.FnExactDoubleCover': WHATEVER THE INPUT: true; the input reads as it did. -/
def fnExactDoubleCoverSpec : ChangeSpec := { name := "fnExactDoubleCover", fn := fun _ => fun
  | [d] => { results := [.lit (.bool true)], args := [d] }
  | _ => none }
def fnExactDoubleCoverRow : OpenClaim := { program := "ytfaagdpopmnnpaa", sum := "2df20394ade0f8ea256fbc9ae9b8210503a75adf8f2e7c848f7831be85f9d8ae", func := "loop.example/g00870/laws.FnExactDoubleCover", spec := "fnExactDoubleCover", unfollowed := true, recurses := true, apart := false }
def FnExactDoubleCoverSaid : Prop := fnExactDoubleCoverRow.holds Try.pinned (OpenSpec.ofChange fnExactDoubleCoverSpec)

/-- ITS FALSE NEIGHBOUR: 'it returns false'. Refute it at one input. -/
def fnExactDoubleCoverWrong : ChangeSpec := { name := "fnExactDoubleCover", fn := fun _ => fun
  | [d] => { results := [.lit (.bool false)], args := [d] }
  | _ => none }
def FnExactDoubleCoverWrongFalsely : Prop := fnExactDoubleCoverRow.holds Try.pinned (OpenSpec.ofChange fnExactDoubleCoverWrong)

/-- 'laws.FnExactMirrorForm': WHATEVER THE INPUT: true; the input reads as it did. -/
def fnExactMirrorFormSpec : ChangeSpec := { name := "fnExactMirrorForm", fn := fun _ => fun
  | [d] => { results := [.lit (.bool true)], args := [d] }
  | _ => none }
def fnExactMirrorFormRow : OpenClaim := { program := "ytfaagdpopmnnpaa", sum := "2df20394ade0f8ea256fbc9ae9b8210503a75adf8f2e7c848f7831be85f9d8ae", func := "loop.example/g00870/laws.FnExactMirrorForm", spec := "fnExactMirrorForm", unfollowed := true, recurses := true, apart := false }
def FnExactMirrorFormSaid : Prop := fnExactMirrorFormRow.holds Try.pinned (OpenSpec.ofChange fnExactMirrorFormSpec)

/-- ITS FALSE NEIGHBOUR: 'it returns false'. Refute it at one input. -/
def fnExactMirrorFormWrong : ChangeSpec := { name := "fnExactMirrorForm", fn := fun _ => fun
  | [d] => { results := [.lit (.bool false)], args := [d] }
  | _ => none }
def FnExactMirrorFormWrongFalsely : Prop := fnExactMirrorFormRow.holds Try.pinned (OpenSpec.ofChange fnExactMirrorFormWrong)

/-- 'laws.FnExactOrientedForm': WHATEVER THE INPUT: true; the input reads as it did. -/
def fnExactOrientedFormSpec : ChangeSpec := { name := "fnExactOrientedForm", fn := fun _ => fun
  | [d] => { results := [.lit (.bool true)], args := [d] }
  | _ => none }
def fnExactOrientedFormRow : OpenClaim := { program := "ytfaagdpopmnnpaa", sum := "2df20394ade0f8ea256fbc9ae9b8210503a75adf8f2e7c848f7831be85f9d8ae", func := "loop.example/g00870/laws.FnExactOrientedForm", spec := "fnExactOrientedForm", unfollowed := true, recurses := true, apart := false }
def FnExactOrientedFormSaid : Prop := fnExactOrientedFormRow.holds Try.pinned (OpenSpec.ofChange fnExactOrientedFormSpec)

/-- ITS FALSE NEIGHBOUR: 'it returns false'. Refute it at one input. -/
def fnExactOrientedFormWrong : ChangeSpec := { name := "fnExactOrientedForm", fn := fun _ => fun
  | [d] => { results := [.lit (.bool false)], args := [d] }
  | _ => none }
def FnExactOrientedFormWrongFalsely : Prop := fnExactOrientedFormRow.holds Try.pinned (OpenSpec.ofChange fnExactOrientedFormWrong)

/-- 'laws.FnExactGluingNumber': WHATEVER THE INPUT: true; the input reads as it did. -/
def fnExactGluingNumberSpec : ChangeSpec := { name := "fnExactGluingNumber", fn := fun _ => fun
  | [d] => { results := [.lit (.bool true)], args := [d] }
  | _ => none }
def fnExactGluingNumberRow : OpenClaim := { program := "ytfaagdpopmnnpaa", sum := "2df20394ade0f8ea256fbc9ae9b8210503a75adf8f2e7c848f7831be85f9d8ae", func := "loop.example/g00870/laws.FnExactGluingNumber", spec := "fnExactGluingNumber", unfollowed := true, recurses := true, apart := false }
def FnExactGluingNumberSaid : Prop := fnExactGluingNumberRow.holds Try.pinned (OpenSpec.ofChange fnExactGluingNumberSpec)

/-- ITS FALSE NEIGHBOUR: 'it returns false'. Refute it at one input. -/
def fnExactGluingNumberWrong : ChangeSpec := { name := "fnExactGluingNumber", fn := fun _ => fun
  | [d] => { results := [.lit (.bool false)], args := [d] }
  | _ => none }
def FnExactGluingNumberWrongFalsely : Prop := fnExactGluingNumberRow.holds Try.pinned (OpenSpec.ofChange fnExactGluingNumberWrong)

/-- 'laws.FnExactGluingAt': WHATEVER THE INPUT: true; the input reads as it did. -/
def fnExactGluingAtSpec : ChangeSpec := { name := "fnExactGluingAt", fn := fun _ => fun
  | [d1, d2] => { results := [.lit (.bool true)], args := [d1, d2] }
  | _ => none }
def fnExactGluingAtRow : OpenClaim := { program := "ytfaagdpopmnnpaa", sum := "2df20394ade0f8ea256fbc9ae9b8210503a75adf8f2e7c848f7831be85f9d8ae", func := "loop.example/g00870/laws.FnExactGluingAt", spec := "fnExactGluingAt", unfollowed := true, recurses := true, apart := false }
def FnExactGluingAtSaid : Prop := fnExactGluingAtRow.holds Try.pinned (OpenSpec.ofChange fnExactGluingAtSpec)

/-- ITS FALSE NEIGHBOUR: 'it returns false'. Refute it at one input. -/
def fnExactGluingAtWrong : ChangeSpec := { name := "fnExactGluingAt", fn := fun _ => fun
  | [d1, d2] => { results := [.lit (.bool false)], args := [d1, d2] }
  | _ => none }
def FnExactGluingAtWrongFalsely : Prop := fnExactGluingAtRow.holds Try.pinned (OpenSpec.ofChange fnExactGluingAtWrong)

/-- 'laws.FnExactIsIsomorphism': WHATEVER THE INPUT: true; the input reads as it did. -/
def fnExactIsIsomorphismSpec : ChangeSpec := { name := "fnExactIsIsomorphism", fn := fun _ => fun
  | [d1, d2, d3, d4] => { results := [.lit (.bool true)], args := [d1, d2, d3, d4] }
  | _ => none }
def fnExactIsIsomorphismRow : OpenClaim := { program := "ytfaagdpopmnnpaa", sum := "2df20394ade0f8ea256fbc9ae9b8210503a75adf8f2e7c848f7831be85f9d8ae", func := "loop.example/g00870/laws.FnExactIsIsomorphism", spec := "fnExactIsIsomorphism", unfollowed := true, recurses := true, apart := false }
def FnExactIsIsomorphismSaid : Prop := fnExactIsIsomorphismRow.holds Try.pinned (OpenSpec.ofChange fnExactIsIsomorphismSpec)

/-- ITS FALSE NEIGHBOUR: 'it returns false'. Refute it at one input. -/
def fnExactIsIsomorphismWrong : ChangeSpec := { name := "fnExactIsIsomorphism", fn := fun _ => fun
  | [d1, d2, d3, d4] => { results := [.lit (.bool false)], args := [d1, d2, d3, d4] }
  | _ => none }
def FnExactIsIsomorphismWrongFalsely : Prop := fnExactIsIsomorphismRow.holds Try.pinned (OpenSpec.ofChange fnExactIsIsomorphismWrong)

/-- 'laws.FnGluing': WHATEVER THE INPUT: true; the input reads as it did. -/
def fnGluingSpec : ChangeSpec := { name := "fnGluing", fn := fun _ => fun
  | [d] => { results := [.lit (.bool true)], args := [d] }
  | _ => none }
def fnGluingRow : OpenClaim := { program := "ytfaagdpopmnnpaa", sum := "2df20394ade0f8ea256fbc9ae9b8210503a75adf8f2e7c848f7831be85f9d8ae", func := "loop.example/g00870/laws.FnGluing", spec := "fnGluing", unfollowed := true, recurses := true, apart := false }
def FnGluingSaid : Prop := fnGluingRow.holds Try.pinned (OpenSpec.ofChange fnGluingSpec)

/-- ITS FALSE NEIGHBOUR: 'it returns false'. Refute it at one input. -/
def fnGluingWrong : ChangeSpec := { name := "fnGluing", fn := fun _ => fun
  | [d] => { results := [.lit (.bool false)], args := [d] }
  | _ => none }
def FnGluingWrongFalsely : Prop := fnGluingRow.holds Try.pinned (OpenSpec.ofChange fnGluingWrong)

/-- 'laws.FnGlue': WHATEVER THE INPUT: true; the input reads as it did. -/
def fnGlueSpec : ChangeSpec := { name := "fnGlue", fn := fun _ => fun
  | [d] => { results := [.lit (.bool true)], args := [d] }
  | _ => none }
def fnGlueRow : OpenClaim := { program := "ytfaagdpopmnnpaa", sum := "2df20394ade0f8ea256fbc9ae9b8210503a75adf8f2e7c848f7831be85f9d8ae", func := "loop.example/g00870/laws.FnGlue", spec := "fnGlue", unfollowed := true, recurses := true, apart := false }
def FnGlueSaid : Prop := fnGlueRow.holds Try.pinned (OpenSpec.ofChange fnGlueSpec)

/-- ITS FALSE NEIGHBOUR: 'it returns false'. Refute it at one input. -/
def fnGlueWrong : ChangeSpec := { name := "fnGlue", fn := fun _ => fun
  | [d] => { results := [.lit (.bool false)], args := [d] }
  | _ => none }
def FnGlueWrongFalsely : Prop := fnGlueRow.holds Try.pinned (OpenSpec.ofChange fnGlueWrong)

/- THE SECOND FORM. 'bulk': how many values and letters a reading holds, each counted each time it is reached (what is shared counts as often as it is met; a slice's spare places count too). A statement '..UptoSaid' is the law's where the arguments, and the package variables that the reading takes, are together of bulk at most 1048576: NARROWER than '..Said'. Prove '..Said' where nothing that the law and all that it calls make is longer than what came in: it says more and counts as full. Else prove '..UptoSaid'. A law counts once. -/
mutual
def uptoBulk {H : Type} : DataW H → Nat
  | .lit (.string bytes) => bytes.length + 1
  | .lit _ => 1
  | .nil => 1
  | .ptr d => uptoBulk d + 1
  | .slice elems spare => uptoBulkAll elems + uptoBulkAll spare + 1
  | .agg parts => uptoBulkAll parts + 1
  | .iface _ d => uptoBulk d + 1
  | .map entries => uptoBulkEntries entries + 1
  | .held _ => 1
def uptoBulkAll {H : Type} : List (DataW H) → Nat
  | [] => 0
  | d :: r => uptoBulk d + uptoBulkAll r
def uptoBulkEntries {H : Type} : List (Lit × DataW H) → Nat
  | [] => 0
  | x :: r => uptoBulkEntry x + uptoBulkEntries r
def uptoBulkEntry {H : Type} : Lit × DataW H → Nat
  | (.string bytes, d) => bytes.length + uptoBulk d + 1
  | (_, d) => uptoBulk d + 1
 end
def uptoSmall : (H : Type) → List (DataW H) → Bool := fun _ ds => decide (uptoBulkAll ds ≤ 1048576)
def OpenSpec.upto (s : _root_.Go.ChangeSpec) : _root_.Go.OpenSpec := { _root_.Go.OpenSpec.ofChange s with cond := some uptoSmall }

/-- 'laws.FnExactIsOriented', WHERE WHAT IT READS IS OF BULK AT MOST 1048576: true; the input reads as it did. -/
def fnExactIsOrientedUptoRow : OpenClaim := { program := "ytfaagdpopmnnpaa", sum := "2df20394ade0f8ea256fbc9ae9b8210503a75adf8f2e7c848f7831be85f9d8ae", func := "loop.example/g00870/laws.FnExactIsOriented", spec := "fnExactIsOriented", unfollowed := true, recurses := true, apart := false, narrowed := true }
def FnExactIsOrientedUptoSaid : Prop := fnExactIsOrientedUptoRow.holds Try.pinned (OpenSpec.upto fnExactIsOrientedSpec)

/-- 'laws.FnExactIsOrientable', WHERE WHAT IT READS IS OF BULK AT MOST 1048576: true; the input reads as it did. -/
def fnExactIsOrientableUptoRow : OpenClaim := { program := "ytfaagdpopmnnpaa", sum := "2df20394ade0f8ea256fbc9ae9b8210503a75adf8f2e7c848f7831be85f9d8ae", func := "loop.example/g00870/laws.FnExactIsOrientable", spec := "fnExactIsOrientable", unfollowed := true, recurses := true, apart := false, narrowed := true }
def FnExactIsOrientableUptoSaid : Prop := fnExactIsOrientableUptoRow.holds Try.pinned (OpenSpec.upto fnExactIsOrientableSpec)

/-- 'laws.FnExactOrientationOf', WHERE WHAT IT READS IS OF BULK AT MOST 1048576: true; the input reads as it did. -/
def fnExactOrientationOfUptoRow : OpenClaim := { program := "ytfaagdpopmnnpaa", sum := "2df20394ade0f8ea256fbc9ae9b8210503a75adf8f2e7c848f7831be85f9d8ae", func := "loop.example/g00870/laws.FnExactOrientationOf", spec := "fnExactOrientationOf", unfollowed := true, recurses := true, apart := false, narrowed := true }
def FnExactOrientationOfUptoSaid : Prop := fnExactOrientationOfUptoRow.holds Try.pinned (OpenSpec.upto fnExactOrientationOfSpec)

/-- 'laws.FnExactReversesOrientation', WHERE WHAT IT READS IS OF BULK AT MOST 1048576: true; the input reads as it did. -/
def fnExactReversesOrientationUptoRow : OpenClaim := { program := "ytfaagdpopmnnpaa", sum := "2df20394ade0f8ea256fbc9ae9b8210503a75adf8f2e7c848f7831be85f9d8ae", func := "loop.example/g00870/laws.FnExactReversesOrientation", spec := "fnExactReversesOrientation", unfollowed := true, recurses := true, apart := false, narrowed := true }
def FnExactReversesOrientationUptoSaid : Prop := fnExactReversesOrientationUptoRow.holds Try.pinned (OpenSpec.upto fnExactReversesOrientationSpec)

/-- 'laws.FnExactDoubleCover', WHERE WHAT IT READS IS OF BULK AT MOST 1048576: true; the input reads as it did. -/
def fnExactDoubleCoverUptoRow : OpenClaim := { program := "ytfaagdpopmnnpaa", sum := "2df20394ade0f8ea256fbc9ae9b8210503a75adf8f2e7c848f7831be85f9d8ae", func := "loop.example/g00870/laws.FnExactDoubleCover", spec := "fnExactDoubleCover", unfollowed := true, recurses := true, apart := false, narrowed := true }
def FnExactDoubleCoverUptoSaid : Prop := fnExactDoubleCoverUptoRow.holds Try.pinned (OpenSpec.upto fnExactDoubleCoverSpec)

/-- 'laws.FnExactMirrorForm', WHERE WHAT IT READS IS OF BULK AT MOST 1048576: true; the input reads as it did. -/
def fnExactMirrorFormUptoRow : OpenClaim := { program := "ytfaagdpopmnnpaa", sum := "2df20394ade0f8ea256fbc9ae9b8210503a75adf8f2e7c848f7831be85f9d8ae", func := "loop.example/g00870/laws.FnExactMirrorForm", spec := "fnExactMirrorForm", unfollowed := true, recurses := true, apart := false, narrowed := true }
def FnExactMirrorFormUptoSaid : Prop := fnExactMirrorFormUptoRow.holds Try.pinned (OpenSpec.upto fnExactMirrorFormSpec)

/-- 'laws.FnExactOrientedForm', WHERE WHAT IT READS IS OF BULK AT MOST 1048576: true; the input reads as it did. -/
def fnExactOrientedFormUptoRow : OpenClaim := { program := "ytfaagdpopmnnpaa", sum := "2df20394ade0f8ea256fbc9ae9b8210503a75adf8f2e7c848f7831be85f9d8ae", func := "loop.example/g00870/laws.FnExactOrientedForm", spec := "fnExactOrientedForm", unfollowed := true, recurses := true, apart := false, narrowed := true }
def FnExactOrientedFormUptoSaid : Prop := fnExactOrientedFormUptoRow.holds Try.pinned (OpenSpec.upto fnExactOrientedFormSpec)

/-- 'laws.FnExactGluingNumber', WHERE WHAT IT READS IS OF BULK AT MOST 1048576: true; the input reads as it did. -/
def fnExactGluingNumberUptoRow : OpenClaim := { program := "ytfaagdpopmnnpaa", sum := "2df20394ade0f8ea256fbc9ae9b8210503a75adf8f2e7c848f7831be85f9d8ae", func := "loop.example/g00870/laws.FnExactGluingNumber", spec := "fnExactGluingNumber", unfollowed := true, recurses := true, apart := false, narrowed := true }
def FnExactGluingNumberUptoSaid : Prop := fnExactGluingNumberUptoRow.holds Try.pinned (OpenSpec.upto fnExactGluingNumberSpec)

/-- 'laws.FnExactGluingAt', WHERE WHAT IT READS IS OF BULK AT MOST 1048576: true; the input reads as it did. -/
def fnExactGluingAtUptoRow : OpenClaim := { program := "ytfaagdpopmnnpaa", sum := "2df20394ade0f8ea256fbc9ae9b8210503a75adf8f2e7c848f7831be85f9d8ae", func := "loop.example/g00870/laws.FnExactGluingAt", spec := "fnExactGluingAt", unfollowed := true, recurses := true, apart := false, narrowed := true }
def FnExactGluingAtUptoSaid : Prop := fnExactGluingAtUptoRow.holds Try.pinned (OpenSpec.upto fnExactGluingAtSpec)

/-- 'laws.FnExactIsIsomorphism', WHERE WHAT IT READS IS OF BULK AT MOST 1048576: true; the input reads as it did. -/
def fnExactIsIsomorphismUptoRow : OpenClaim := { program := "ytfaagdpopmnnpaa", sum := "2df20394ade0f8ea256fbc9ae9b8210503a75adf8f2e7c848f7831be85f9d8ae", func := "loop.example/g00870/laws.FnExactIsIsomorphism", spec := "fnExactIsIsomorphism", unfollowed := true, recurses := true, apart := false, narrowed := true }
def FnExactIsIsomorphismUptoSaid : Prop := fnExactIsIsomorphismUptoRow.holds Try.pinned (OpenSpec.upto fnExactIsIsomorphismSpec)

/-- 'laws.FnGluing', WHERE WHAT IT READS IS OF BULK AT MOST 1048576: true; the input reads as it did. -/
def fnGluingUptoRow : OpenClaim := { program := "ytfaagdpopmnnpaa", sum := "2df20394ade0f8ea256fbc9ae9b8210503a75adf8f2e7c848f7831be85f9d8ae", func := "loop.example/g00870/laws.FnGluing", spec := "fnGluing", unfollowed := true, recurses := true, apart := false, narrowed := true }
def FnGluingUptoSaid : Prop := fnGluingUptoRow.holds Try.pinned (OpenSpec.upto fnGluingSpec)

/-- 'laws.FnGlue', WHERE WHAT IT READS IS OF BULK AT MOST 1048576: true; the input reads as it did. -/
def fnGlueUptoRow : OpenClaim := { program := "ytfaagdpopmnnpaa", sum := "2df20394ade0f8ea256fbc9ae9b8210503a75adf8f2e7c848f7831be85f9d8ae", func := "loop.example/g00870/laws.FnGlue", spec := "fnGlue", unfollowed := true, recurses := true, apart := false, narrowed := true }
def FnGlueUptoSaid : Prop := fnGlueUptoRow.holds Try.pinned (OpenSpec.upto fnGlueSpec)

end Rows
end Go.Proofs.Ytfaagdpopmnnpaa
