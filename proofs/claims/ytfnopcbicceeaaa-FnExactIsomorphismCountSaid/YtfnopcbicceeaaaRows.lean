/-
  No cell of these rows narrows 'for every input' (looked for: loops, veiled, ifaces, maps, wideKeys, modest, calm, conditions, laid).
  DERIVED. THE GIVEN ROWS OF THIS SEAT. 5 by the template 'for every input the law returns true; each argument reads behind the call as it read before'; 0 by the template 'total and deterministic' (their statements: YtfnopcbicceeaaaTotals.lean).
  GIVEN WITH THE SEED: the statements are not yours to turn. If you find one false, say at which input.
  Laid BY PROGRAM, IN A SANDBOX (cutbox-rows.mjs): the forced cells as the released guide's own fill.sh prints them over the translation 45e665cb78e03551… (all of the seat's roots in one cut). By AI agents, Wed Nov 11 2026. No macro, syntax, notation, axiom, sorry.
-/
import Derived.Test.YtfnopcbicceeaaaChecked
import GoSem.Claim
import GoSem.ClaimJoined
import GoSem.ClaimMapViews
import Derived.JoinedTies
import Derived.KernelRfl
namespace Go.Proofs.Ytfnopcbicceeaaa
/- THE CELL 'sum', in the pinned program and in every row, IS THE sha256 OF THE DUMP (.gsa) THAT YtfnopcbicceeaaaProg.lean LOADS. Nothing in Lean hashes anything: it is a label: what it is worth is what the hold of that sum in a sandbox is worth. -/
noncomputable def Try.pinned : Pinned := { name := "ytfnopcbicceeaaa", sum := "45e665cb78e03551f8241faf521f4807dbfdfc61199f59cecaaea209058f902d", checked := Try.checked }
namespace Rows
def none {H : Type} : Left H := { results := [], args := [] }

/-- 'laws.FnExactGluingNumber': WHATEVER THE INPUT: true; the input reads as it did. -/
def fnExactGluingNumberSpec : ChangeSpec := { name := "fnExactGluingNumber", fn := fun _ => fun
  | [d] => { results := [.lit (.bool true)], args := [d] }
  | _ => none }
def fnExactGluingNumberRow : OpenClaim := { program := "ytfnopcbicceeaaa", sum := "45e665cb78e03551f8241faf521f4807dbfdfc61199f59cecaaea209058f902d", func := "loop.example/g00870/laws.FnExactGluingNumber", spec := "fnExactGluingNumber", unfollowed := true, recurses := true, apart := false }
def FnExactGluingNumberSaid : Prop := fnExactGluingNumberRow.holds Try.pinned (OpenSpec.ofChange fnExactGluingNumberSpec)

/-- ITS FALSE NEIGHBOUR: 'it returns false'. Refute it at one input. -/
def fnExactGluingNumberWrong : ChangeSpec := { name := "fnExactGluingNumber", fn := fun _ => fun
  | [d] => { results := [.lit (.bool false)], args := [d] }
  | _ => none }
def FnExactGluingNumberWrongFalsely : Prop := fnExactGluingNumberRow.holds Try.pinned (OpenSpec.ofChange fnExactGluingNumberWrong)

/-- 'laws.FnExactGluingAt': WHATEVER THE INPUT: true; the input reads as it did. -/
def fnExactGluingAtSpec : ChangeSpec := { name := "fnExactGluingAt", fn := fun _ => fun
  | [d1, d2] => { results := [.lit (.bool true)], args := [d1, d2] }
  | _ => none }
def fnExactGluingAtRow : OpenClaim := { program := "ytfnopcbicceeaaa", sum := "45e665cb78e03551f8241faf521f4807dbfdfc61199f59cecaaea209058f902d", func := "loop.example/g00870/laws.FnExactGluingAt", spec := "fnExactGluingAt", unfollowed := true, recurses := true, apart := false }
def FnExactGluingAtSaid : Prop := fnExactGluingAtRow.holds Try.pinned (OpenSpec.ofChange fnExactGluingAtSpec)

/-- ITS FALSE NEIGHBOUR: 'it returns false'. Refute it at one input. -/
def fnExactGluingAtWrong : ChangeSpec := { name := "fnExactGluingAt", fn := fun _ => fun
  | [d1, d2] => { results := [.lit (.bool false)], args := [d1, d2] }
  | _ => none }
def FnExactGluingAtWrongFalsely : Prop := fnExactGluingAtRow.holds Try.pinned (OpenSpec.ofChange fnExactGluingAtWrong)

/-- 'laws.FnExactFaceSigns': WHATEVER THE INPUT: true; the input reads as it did. -/
def fnExactFaceSignsSpec : ChangeSpec := { name := "fnExactFaceSigns", fn := fun _ => fun
  | [d] => { results := [.lit (.bool true)], args := [d] }
  | _ => none }
def fnExactFaceSignsRow : OpenClaim := { program := "ytfnopcbicceeaaa", sum := "45e665cb78e03551f8241faf521f4807dbfdfc61199f59cecaaea209058f902d", func := "loop.example/g00870/laws.FnExactFaceSigns", spec := "fnExactFaceSigns", unfollowed := true, recurses := true, apart := false }
def FnExactFaceSignsSaid : Prop := fnExactFaceSignsRow.holds Try.pinned (OpenSpec.ofChange fnExactFaceSignsSpec)

/-- ITS FALSE NEIGHBOUR: 'it returns false'. Refute it at one input. -/
def fnExactFaceSignsWrong : ChangeSpec := { name := "fnExactFaceSigns", fn := fun _ => fun
  | [d] => { results := [.lit (.bool false)], args := [d] }
  | _ => none }
def FnExactFaceSignsWrongFalsely : Prop := fnExactFaceSignsRow.holds Try.pinned (OpenSpec.ofChange fnExactFaceSignsWrong)

/-- 'laws.FnExactIsomorphismCount': WHATEVER THE INPUT: true; the input reads as it did. -/
def fnExactIsomorphismCountSpec : ChangeSpec := { name := "fnExactIsomorphismCount", fn := fun _ => fun
  | [d1, d2] => { results := [.lit (.bool true)], args := [d1, d2] }
  | _ => none }
def fnExactIsomorphismCountRow : OpenClaim := { program := "ytfnopcbicceeaaa", sum := "45e665cb78e03551f8241faf521f4807dbfdfc61199f59cecaaea209058f902d", func := "loop.example/g00870/laws.FnExactIsomorphismCount", spec := "fnExactIsomorphismCount", unfollowed := true, recurses := true, apart := false }
def FnExactIsomorphismCountSaid : Prop := fnExactIsomorphismCountRow.holds Try.pinned (OpenSpec.ofChange fnExactIsomorphismCountSpec)

/-- ITS FALSE NEIGHBOUR: 'it returns false'. Refute it at one input. -/
def fnExactIsomorphismCountWrong : ChangeSpec := { name := "fnExactIsomorphismCount", fn := fun _ => fun
  | [d1, d2] => { results := [.lit (.bool false)], args := [d1, d2] }
  | _ => none }
def FnExactIsomorphismCountWrongFalsely : Prop := fnExactIsomorphismCountRow.holds Try.pinned (OpenSpec.ofChange fnExactIsomorphismCountWrong)

/-- 'laws.FnExactDiscsOf': WHATEVER THE INPUT: true; the input reads as it did. -/
def fnExactDiscsOfSpec : ChangeSpec := { name := "fnExactDiscsOf", fn := fun _ => fun
  | [d1, d2] => { results := [.lit (.bool true)], args := [d1, d2] }
  | _ => none }
def fnExactDiscsOfRow : OpenClaim := { program := "ytfnopcbicceeaaa", sum := "45e665cb78e03551f8241faf521f4807dbfdfc61199f59cecaaea209058f902d", func := "loop.example/g00870/laws.FnExactDiscsOf", spec := "fnExactDiscsOf", unfollowed := true, recurses := true, apart := false }
def FnExactDiscsOfSaid : Prop := fnExactDiscsOfRow.holds Try.pinned (OpenSpec.ofChange fnExactDiscsOfSpec)

/-- ITS FALSE NEIGHBOUR: 'it returns false'. Refute it at one input. -/
def fnExactDiscsOfWrong : ChangeSpec := { name := "fnExactDiscsOf", fn := fun _ => fun
  | [d1, d2] => { results := [.lit (.bool false)], args := [d1, d2] }
  | _ => none }
def FnExactDiscsOfWrongFalsely : Prop := fnExactDiscsOfRow.holds Try.pinned (OpenSpec.ofChange fnExactDiscsOfWrong)

/- THE SECOND FORM. 'bulk': how many values and letters a reading holds, each counted each time it is reached (what is shared counts as often as it is met; a slice's spare places count too). A statement '..UptoSaid' is the law's where the arguments, and the package variables that the reading takes, are together of bulk at most 1048576: NARROWER than '..Said'. Prove '..Said' where nothing that the law and all that it calls make is longer than what came in: it says more and counts as full. Else prove '..UptoSaid'. A law counts once. -/
mutual
def uptoBulk {H : Type} : DataW H → Nat
  | .lit (.string bytes) => bytes.length + 1
  | .lit _ => 1
  | .nil => 1
  | .ptr d => uptoBulk d + 1
  | .slice elems spare => uptoBulkAll elems + uptoBulkAll spare + 1
  | .agg parts => uptoBulkAll parts + 1
  | .iface _ d => uptoBulk d + 1
  | .map entries => uptoBulkEntries entries + 1
  | .held _ => 1
def uptoBulkAll {H : Type} : List (DataW H) → Nat
  | [] => 0
  | d :: r => uptoBulk d + uptoBulkAll r
def uptoBulkEntries {H : Type} : List (Lit × DataW H) → Nat
  | [] => 0
  | x :: r => uptoBulkEntry x + uptoBulkEntries r
def uptoBulkEntry {H : Type} : Lit × DataW H → Nat
  | (.string bytes, d) => bytes.length + uptoBulk d + 1
  | (_, d) => uptoBulk d + 1
 end
def uptoSmall : (H : Type) → List (DataW H) → Bool := fun _ ds => decide (uptoBulkAll ds ≤ 1048576)
def OpenSpec.upto (s : _root_.Go.ChangeSpec) : _root_.Go.OpenSpec := { _root_.Go.OpenSpec.ofChange s with cond := some uptoSmall }

/-- 'laws.FnExactGluingNumber', WHERE WHAT IT READS IS OF BULK AT MOST 1048576: true; the input reads as it did. -/
def fnExactGluingNumberUptoRow : OpenClaim := { program := "ytfnopcbicceeaaa", sum := "45e665cb78e03551f8241faf521f4807dbfdfc61199f59cecaaea209058f902d", func := "loop.example/g00870/laws.FnExactGluingNumber", spec := "fnExactGluingNumber", unfollowed := true, recurses := true, apart := false, narrowed := true }
def FnExactGluingNumberUptoSaid : Prop := fnExactGluingNumberUptoRow.holds Try.pinned (OpenSpec.upto fnExactGluingNumberSpec)

/-- 'laws.FnExactGluingAt', WHERE WHAT IT READS IS OF BULK AT MOST 1048576: true; the input reads as it did. -/
def fnExactGluingAtUptoRow : OpenClaim := { program := "ytfnopcbicceeaaa", sum := "45e665cb78e03551f8241faf521f4807dbfdfc61199f59cecaaea209058f902d", func := "loop.example/g00870/laws.FnExactGluingAt", spec := "fnExactGluingAt", unfollowed := true, recurses := true, apart := false, narrowed := true }
def FnExactGluingAtUptoSaid : Prop := fnExactGluingAtUptoRow.holds Try.pinned (OpenSpec.upto fnExactGluingAtSpec)

/-- 'laws.FnExactFaceSigns', WHERE WHAT IT READS IS OF BULK AT MOST 1048576: true; the input reads as it did. -/
def fnExactFaceSignsUptoRow : OpenClaim := { program := "ytfnopcbicceeaaa", sum := "45e665cb78e03551f8241faf521f4807dbfdfc61199f59cecaaea209058f902d", func := "loop.example/g00870/laws.FnExactFaceSigns", spec := "fnExactFaceSigns", unfollowed := true, recurses := true, apart := false, narrowed := true }
def FnExactFaceSignsUptoSaid : Prop := fnExactFaceSignsUptoRow.holds Try.pinned (OpenSpec.upto fnExactFaceSignsSpec)

/-- 'laws.FnExactIsomorphismCount', WHERE WHAT IT READS IS OF BULK AT MOST 1048576: true; the input reads as it did. -/
def fnExactIsomorphismCountUptoRow : OpenClaim := { program := "ytfnopcbicceeaaa", sum := "45e665cb78e03551f8241faf521f4807dbfdfc61199f59cecaaea209058f902d", func := "loop.example/g00870/laws.FnExactIsomorphismCount", spec := "fnExactIsomorphismCount", unfollowed := true, recurses := true, apart := false, narrowed := true }
def FnExactIsomorphismCountUptoSaid : Prop := fnExactIsomorphismCountUptoRow.holds Try.pinned (OpenSpec.upto fnExactIsomorphismCountSpec)

/-- 'laws.FnExactDiscsOf', WHERE WHAT IT READS IS OF BULK AT MOST 1048576: true; the input reads as it did. -/
def fnExactDiscsOfUptoRow : OpenClaim := { program := "ytfnopcbicceeaaa", sum := "45e665cb78e03551f8241faf521f4807dbfdfc61199f59cecaaea209058f902d", func := "loop.example/g00870/laws.FnExactDiscsOf", spec := "fnExactDiscsOf", unfollowed := true, recurses := true, apart := false, narrowed := true }
def FnExactDiscsOfUptoSaid : Prop := fnExactDiscsOfUptoRow.holds Try.pinned (OpenSpec.upto fnExactDiscsOfSpec)

end Rows
end Go.Proofs.Ytfnopcbicceeaaa
