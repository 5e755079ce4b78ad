/-
  No cell of these rows narrows 'for every input' (looked for: loops, veiled, ifaces, maps, wideKeys, modest, calm, conditions, laid).
  DERIVED. THE GIVEN ROWS OF THIS SEAT. 12 by the template 'for every input the law returns true; each argument reads behind the call as it read before'; 0 by the template 'total and deterministic' (their statements: YtojpoedeiedgdaaTotals.lean).
  GIVEN WITH THE SEED: the statements are not yours to turn. If you find one false, say at which input.
  Laid BY PROGRAM, IN A SANDBOX (cutbox-rows.mjs): the forced cells as the released guide's own fill.sh prints them over the translation 2ddc261b920639e4… (all of the seat's roots in one cut). By AI agents, Wed Nov 11 2026. No macro, syntax, notation, axiom, sorry.
-/
import Derived.Test.YtojpoedeiedgdaaChecked
import GoSem.Claim
import GoSem.ClaimJoined
import GoSem.ClaimMapViews
import Derived.JoinedTies
import Derived.KernelRfl
namespace Go.Proofs.Ytojpoedeiedgdaa
/- THE CELL 'sum', in the pinned program and in every row, IS THE sha256 OF THE DUMP (.gsa) THAT YtojpoedeiedgdaaProg.lean LOADS. Nothing in Lean hashes anything: it is a label: what it is worth is what the hold of that sum in a sandbox is worth. -/
noncomputable def Try.pinned : Pinned := { name := "ytojpoedeiedgdaa", sum := "2ddc261b920639e42e3e051b9d386a5c6dbce09d5d9c883e6a0b3146c3942e6c", checked := Try.checked }
namespace Rows
def none {H : Type} : Left H := { results := [], args := [] }

/-- 'laws.FnExactIsTriangulation': WHATEVER THE INPUT: true; the input reads as it did. -/
def fnExactIsTriangulationSpec : ChangeSpec := { name := "fnExactIsTriangulation", fn := fun _ => fun
  | [d] => { results := [.lit (.bool true)], args := [d] }
  | _ => none }
def fnExactIsTriangulationRow : OpenClaim := { program := "ytojpoedeiedgdaa", sum := "2ddc261b920639e42e3e051b9d386a5c6dbce09d5d9c883e6a0b3146c3942e6c", func := "loop.example/g00870/laws.FnExactIsTriangulation", spec := "fnExactIsTriangulation", unfollowed := true, recurses := true, apart := false }
def FnExactIsTriangulationSaid : Prop := fnExactIsTriangulationRow.holds Try.pinned (OpenSpec.ofChange fnExactIsTriangulationSpec)

/-- ITS FALSE NEIGHBOUR: 'it returns false'. Refute it at one input. -/
def fnExactIsTriangulationWrong : ChangeSpec := { name := "fnExactIsTriangulation", fn := fun _ => fun
  | [d] => { results := [.lit (.bool false)], args := [d] }
  | _ => none }
def FnExactIsTriangulationWrongFalsely : Prop := fnExactIsTriangulationRow.holds Try.pinned (OpenSpec.ofChange fnExactIsTriangulationWrong)

/-- 'laws.FnExactIsClosed': WHATEVER THE INPUT: true; the input reads as it did. -/
def fnExactIsClosedSpec : ChangeSpec := { name := "fnExactIsClosed", fn := fun _ => fun
  | [d] => { results := [.lit (.bool true)], args := [d] }
  | _ => none }
def fnExactIsClosedRow : OpenClaim := { program := "ytojpoedeiedgdaa", sum := "2ddc261b920639e42e3e051b9d386a5c6dbce09d5d9c883e6a0b3146c3942e6c", func := "loop.example/g00870/laws.FnExactIsClosed", spec := "fnExactIsClosed", unfollowed := true, recurses := true, apart := false }
def FnExactIsClosedSaid : Prop := fnExactIsClosedRow.holds Try.pinned (OpenSpec.ofChange fnExactIsClosedSpec)

/-- ITS FALSE NEIGHBOUR: 'it returns false'. Refute it at one input. -/
def fnExactIsClosedWrong : ChangeSpec := { name := "fnExactIsClosed", fn := fun _ => fun
  | [d] => { results := [.lit (.bool false)], args := [d] }
  | _ => none }
def FnExactIsClosedWrongFalsely : Prop := fnExactIsClosedRow.holds Try.pinned (OpenSpec.ofChange fnExactIsClosedWrong)

/-- 'laws.FnExactIsQuadVector': WHATEVER THE INPUT: true; the input reads as it did. -/
def fnExactIsQuadVectorSpec : ChangeSpec := { name := "fnExactIsQuadVector", fn := fun _ => fun
  | [d1, d2] => { results := [.lit (.bool true)], args := [d1, d2] }
  | _ => none }
def fnExactIsQuadVectorRow : OpenClaim := { program := "ytojpoedeiedgdaa", sum := "2ddc261b920639e42e3e051b9d386a5c6dbce09d5d9c883e6a0b3146c3942e6c", func := "loop.example/g00870/laws.FnExactIsQuadVector", spec := "fnExactIsQuadVector", unfollowed := true, recurses := true, apart := false }
def FnExactIsQuadVectorSaid : Prop := fnExactIsQuadVectorRow.holds Try.pinned (OpenSpec.ofChange fnExactIsQuadVectorSpec)

/-- ITS FALSE NEIGHBOUR: 'it returns false'. Refute it at one input. -/
def fnExactIsQuadVectorWrong : ChangeSpec := { name := "fnExactIsQuadVector", fn := fun _ => fun
  | [d1, d2] => { results := [.lit (.bool false)], args := [d1, d2] }
  | _ => none }
def FnExactIsQuadVectorWrongFalsely : Prop := fnExactIsQuadVectorRow.holds Try.pinned (OpenSpec.ofChange fnExactIsQuadVectorWrong)

/-- 'laws.FnExactCodeOf': WHATEVER THE INPUT: true; the input reads as it did. -/
def fnExactCodeOfSpec : ChangeSpec := { name := "fnExactCodeOf", fn := fun _ => fun
  | [d] => { results := [.lit (.bool true)], args := [d] }
  | _ => none }
def fnExactCodeOfRow : OpenClaim := { program := "ytojpoedeiedgdaa", sum := "2ddc261b920639e42e3e051b9d386a5c6dbce09d5d9c883e6a0b3146c3942e6c", func := "loop.example/g00870/laws.FnExactCodeOf", spec := "fnExactCodeOf", unfollowed := true, recurses := true, apart := false }
def FnExactCodeOfSaid : Prop := fnExactCodeOfRow.holds Try.pinned (OpenSpec.ofChange fnExactCodeOfSpec)

/-- ITS FALSE NEIGHBOUR: 'it returns false'. Refute it at one input. -/
def fnExactCodeOfWrong : ChangeSpec := { name := "fnExactCodeOf", fn := fun _ => fun
  | [d] => { results := [.lit (.bool false)], args := [d] }
  | _ => none }
def FnExactCodeOfWrongFalsely : Prop := fnExactCodeOfRow.holds Try.pinned (OpenSpec.ofChange fnExactCodeOfWrong)

/-- 'laws.FnExactUnglueFace': WHATEVER THE INPUT: true; the input reads as it did. -/
def fnExactUnglueFaceSpec : ChangeSpec := { name := "fnExactUnglueFace", fn := fun _ => fun
  | [d1, d2, d3] => { results := [.lit (.bool true)], args := [d1, d2, d3] }
  | _ => none }
def fnExactUnglueFaceRow : OpenClaim := { program := "ytojpoedeiedgdaa", sum := "2ddc261b920639e42e3e051b9d386a5c6dbce09d5d9c883e6a0b3146c3942e6c", func := "loop.example/g00870/laws.FnExactUnglueFace", spec := "fnExactUnglueFace", unfollowed := true, recurses := true, apart := false }
def FnExactUnglueFaceSaid : Prop := fnExactUnglueFaceRow.holds Try.pinned (OpenSpec.ofChange fnExactUnglueFaceSpec)

/-- ITS FALSE NEIGHBOUR: 'it returns false'. Refute it at one input. -/
def fnExactUnglueFaceWrong : ChangeSpec := { name := "fnExactUnglueFace", fn := fun _ => fun
  | [d1, d2, d3] => { results := [.lit (.bool false)], args := [d1, d2, d3] }
  | _ => none }
def FnExactUnglueFaceWrongFalsely : Prop := fnExactUnglueFaceRow.holds Try.pinned (OpenSpec.ofChange fnExactUnglueFaceWrong)

/-- 'laws.FnExactBoundaryFaces': WHATEVER THE INPUT: true; the input reads as it did. -/
def fnExactBoundaryFacesSpec : ChangeSpec := { name := "fnExactBoundaryFaces", fn := fun _ => fun
  | [d] => { results := [.lit (.bool true)], args := [d] }
  | _ => none }
def fnExactBoundaryFacesRow : OpenClaim := { program := "ytojpoedeiedgdaa", sum := "2ddc261b920639e42e3e051b9d386a5c6dbce09d5d9c883e6a0b3146c3942e6c", func := "loop.example/g00870/laws.FnExactBoundaryFaces", spec := "fnExactBoundaryFaces", unfollowed := true, recurses := true, apart := false }
def FnExactBoundaryFacesSaid : Prop := fnExactBoundaryFacesRow.holds Try.pinned (OpenSpec.ofChange fnExactBoundaryFacesSpec)

/-- ITS FALSE NEIGHBOUR: 'it returns false'. Refute it at one input. -/
def fnExactBoundaryFacesWrong : ChangeSpec := { name := "fnExactBoundaryFaces", fn := fun _ => fun
  | [d] => { results := [.lit (.bool false)], args := [d] }
  | _ => none }
def FnExactBoundaryFacesWrongFalsely : Prop := fnExactBoundaryFacesRow.holds Try.pinned (OpenSpec.ofChange fnExactBoundaryFacesWrong)

/-- 'laws.FnExactUnionTriangulations': WHATEVER THE INPUT: true; the input reads as it did. -/
def fnExactUnionTriangulationsSpec : ChangeSpec := { name := "fnExactUnionTriangulations", fn := fun _ => fun
  | [d1, d2] => { results := [.lit (.bool true)], args := [d1, d2] }
  | _ => none }
def fnExactUnionTriangulationsRow : OpenClaim := { program := "ytojpoedeiedgdaa", sum := "2ddc261b920639e42e3e051b9d386a5c6dbce09d5d9c883e6a0b3146c3942e6c", func := "loop.example/g00870/laws.FnExactUnionTriangulations", spec := "fnExactUnionTriangulations", unfollowed := true, recurses := true, apart := false }
def FnExactUnionTriangulationsSaid : Prop := fnExactUnionTriangulationsRow.holds Try.pinned (OpenSpec.ofChange fnExactUnionTriangulationsSpec)

/-- ITS FALSE NEIGHBOUR: 'it returns false'. Refute it at one input. -/
def fnExactUnionTriangulationsWrong : ChangeSpec := { name := "fnExactUnionTriangulations", fn := fun _ => fun
  | [d1, d2] => { results := [.lit (.bool false)], args := [d1, d2] }
  | _ => none }
def FnExactUnionTriangulationsWrongFalsely : Prop := fnExactUnionTriangulationsRow.holds Try.pinned (OpenSpec.ofChange fnExactUnionTriangulationsWrong)

/-- 'laws.FnExactGlueFaces': WHATEVER THE INPUT: true; the input reads as it did. -/
def fnExactGlueFacesSpec : ChangeSpec := { name := "fnExactGlueFaces", fn := fun _ => fun
  | [d1, d2, d3, d4, d5] => { results := [.lit (.bool true)], args := [d1, d2, d3, d4, d5] }
  | _ => none }
def fnExactGlueFacesRow : OpenClaim := { program := "ytojpoedeiedgdaa", sum := "2ddc261b920639e42e3e051b9d386a5c6dbce09d5d9c883e6a0b3146c3942e6c", func := "loop.example/g00870/laws.FnExactGlueFaces", spec := "fnExactGlueFaces", unfollowed := true, recurses := true, apart := false }
def FnExactGlueFacesSaid : Prop := fnExactGlueFacesRow.holds Try.pinned (OpenSpec.ofChange fnExactGlueFacesSpec)

/-- ITS FALSE NEIGHBOUR: 'it returns false'. Refute it at one input. -/
def fnExactGlueFacesWrong : ChangeSpec := { name := "fnExactGlueFaces", fn := fun _ => fun
  | [d1, d2, d3, d4, d5] => { results := [.lit (.bool false)], args := [d1, d2, d3, d4, d5] }
  | _ => none }
def FnExactGlueFacesWrongFalsely : Prop := fnExactGlueFacesRow.holds Try.pinned (OpenSpec.ofChange fnExactGlueFacesWrong)

/-- 'laws.FnExactAddTetrahedron': WHATEVER THE INPUT: true; the input reads as it did. -/
def fnExactAddTetrahedronSpec : ChangeSpec := { name := "fnExactAddTetrahedron", fn := fun _ => fun
  | [d] => { results := [.lit (.bool true)], args := [d] }
  | _ => none }
def fnExactAddTetrahedronRow : OpenClaim := { program := "ytojpoedeiedgdaa", sum := "2ddc261b920639e42e3e051b9d386a5c6dbce09d5d9c883e6a0b3146c3942e6c", func := "loop.example/g00870/laws.FnExactAddTetrahedron", spec := "fnExactAddTetrahedron", unfollowed := true, recurses := true, apart := false }
def FnExactAddTetrahedronSaid : Prop := fnExactAddTetrahedronRow.holds Try.pinned (OpenSpec.ofChange fnExactAddTetrahedronSpec)

/-- ITS FALSE NEIGHBOUR: 'it returns false'. Refute it at one input. -/
def fnExactAddTetrahedronWrong : ChangeSpec := { name := "fnExactAddTetrahedron", fn := fun _ => fun
  | [d] => { results := [.lit (.bool false)], args := [d] }
  | _ => none }
def FnExactAddTetrahedronWrongFalsely : Prop := fnExactAddTetrahedronRow.holds Try.pinned (OpenSpec.ofChange fnExactAddTetrahedronWrong)

/-- 'laws.FnExactRelabelTriangulation': WHATEVER THE INPUT: true; the input reads as it did. -/
def fnExactRelabelTriangulationSpec : ChangeSpec := { name := "fnExactRelabelTriangulation", fn := fun _ => fun
  | [d1, d2, d3] => { results := [.lit (.bool true)], args := [d1, d2, d3] }
  | _ => none }
def fnExactRelabelTriangulationRow : OpenClaim := { program := "ytojpoedeiedgdaa", sum := "2ddc261b920639e42e3e051b9d386a5c6dbce09d5d9c883e6a0b3146c3942e6c", func := "loop.example/g00870/laws.FnExactRelabelTriangulation", spec := "fnExactRelabelTriangulation", unfollowed := true, recurses := true, apart := false }
def FnExactRelabelTriangulationSaid : Prop := fnExactRelabelTriangulationRow.holds Try.pinned (OpenSpec.ofChange fnExactRelabelTriangulationSpec)

/-- ITS FALSE NEIGHBOUR: 'it returns false'. Refute it at one input. -/
def fnExactRelabelTriangulationWrong : ChangeSpec := { name := "fnExactRelabelTriangulation", fn := fun _ => fun
  | [d1, d2, d3] => { results := [.lit (.bool false)], args := [d1, d2, d3] }
  | _ => none }
def FnExactRelabelTriangulationWrongFalsely : Prop := fnExactRelabelTriangulationRow.holds Try.pinned (OpenSpec.ofChange fnExactRelabelTriangulationWrong)

/-- 'laws.FnExactTetComponents': WHATEVER THE INPUT: true; the input reads as it did. -/
def fnExactTetComponentsSpec : ChangeSpec := { name := "fnExactTetComponents", fn := fun _ => fun
  | [d] => { results := [.lit (.bool true)], args := [d] }
  | _ => none }
def fnExactTetComponentsRow : OpenClaim := { program := "ytojpoedeiedgdaa", sum := "2ddc261b920639e42e3e051b9d386a5c6dbce09d5d9c883e6a0b3146c3942e6c", func := "loop.example/g00870/laws.FnExactTetComponents", spec := "fnExactTetComponents", unfollowed := true, recurses := true, apart := false }
def FnExactTetComponentsSaid : Prop := fnExactTetComponentsRow.holds Try.pinned (OpenSpec.ofChange fnExactTetComponentsSpec)

/-- ITS FALSE NEIGHBOUR: 'it returns false'. Refute it at one input. -/
def fnExactTetComponentsWrong : ChangeSpec := { name := "fnExactTetComponents", fn := fun _ => fun
  | [d] => { results := [.lit (.bool false)], args := [d] }
  | _ => none }
def FnExactTetComponentsWrongFalsely : Prop := fnExactTetComponentsRow.holds Try.pinned (OpenSpec.ofChange fnExactTetComponentsWrong)

/-- 'laws.FnExactComponentOf': WHATEVER THE INPUT: true; the input reads as it did. -/
def fnExactComponentOfSpec : ChangeSpec := { name := "fnExactComponentOf", fn := fun _ => fun
  | [d1, d2] => { results := [.lit (.bool true)], args := [d1, d2] }
  | _ => none }
def fnExactComponentOfRow : OpenClaim := { program := "ytojpoedeiedgdaa", sum := "2ddc261b920639e42e3e051b9d386a5c6dbce09d5d9c883e6a0b3146c3942e6c", func := "loop.example/g00870/laws.FnExactComponentOf", spec := "fnExactComponentOf", unfollowed := true, recurses := true, apart := false }
def FnExactComponentOfSaid : Prop := fnExactComponentOfRow.holds Try.pinned (OpenSpec.ofChange fnExactComponentOfSpec)

/-- ITS FALSE NEIGHBOUR: 'it returns false'. Refute it at one input. -/
def fnExactComponentOfWrong : ChangeSpec := { name := "fnExactComponentOf", fn := fun _ => fun
  | [d1, d2] => { results := [.lit (.bool false)], args := [d1, d2] }
  | _ => none }
def FnExactComponentOfWrongFalsely : Prop := fnExactComponentOfRow.holds Try.pinned (OpenSpec.ofChange fnExactComponentOfWrong)

/- THE SECOND FORM. 'bulk': how many values and letters a reading holds, each counted each time it is reached (what is shared counts as often as it is met; a slice's spare places count too). A statement '..UptoSaid' is the law's where the arguments, and the package variables that the reading takes, are together of bulk at most 1048576: NARROWER than '..Said'. Prove '..Said' where nothing that the law and all that it calls make is longer than what came in: it says more and counts as full. Else prove '..UptoSaid'. A law counts once. -/
mutual
def uptoBulk {H : Type} : DataW H → Nat
  | .lit (.string bytes) => bytes.length + 1
  | .lit _ => 1
  | .nil => 1
  | .ptr d => uptoBulk d + 1
  | .slice elems spare => uptoBulkAll elems + uptoBulkAll spare + 1
  | .agg parts => uptoBulkAll parts + 1
  | .iface _ d => uptoBulk d + 1
  | .map entries => uptoBulkEntries entries + 1
  | .held _ => 1
def uptoBulkAll {H : Type} : List (DataW H) → Nat
  | [] => 0
  | d :: r => uptoBulk d + uptoBulkAll r
def uptoBulkEntries {H : Type} : List (Lit × DataW H) → Nat
  | [] => 0
  | x :: r => uptoBulkEntry x + uptoBulkEntries r
def uptoBulkEntry {H : Type} : Lit × DataW H → Nat
  | (.string bytes, d) => bytes.length + uptoBulk d + 1
  | (_, d) => uptoBulk d + 1
 end
def uptoSmall : (H : Type) → List (DataW H) → Bool := fun _ ds => decide (uptoBulkAll ds ≤ 1048576)
def OpenSpec.upto (s : _root_.Go.ChangeSpec) : _root_.Go.OpenSpec := { _root_.Go.OpenSpec.ofChange s with cond := some uptoSmall }

/-- 'laws.FnExactIsTriangulation', WHERE WHAT IT READS IS OF BULK AT MOST 1048576: true; the input reads as it did. -/
def fnExactIsTriangulationUptoRow : OpenClaim := { program := "ytojpoedeiedgdaa", sum := "2ddc261b920639e42e3e051b9d386a5c6dbce09d5d9c883e6a0b3146c3942e6c", func := "loop.example/g00870/laws.FnExactIsTriangulation", spec := "fnExactIsTriangulation", unfollowed := true, recurses := true, apart := false, narrowed := true }
def FnExactIsTriangulationUptoSaid : Prop := fnExactIsTriangulationUptoRow.holds Try.pinned (OpenSpec.upto fnExactIsTriangulationSpec)

/-- 'laws.FnExactIsClosed', WHERE WHAT IT READS IS OF BULK AT MOST 1048576: true; the input reads as it did. -/
def fnExactIsClosedUptoRow : OpenClaim := { program := "ytojpoedeiedgdaa", sum := "2ddc261b920639e42e3e051b9d386a5c6dbce09d5d9c883e6a0b3146c3942e6c", func := "loop.example/g00870/laws.FnExactIsClosed", spec := "fnExactIsClosed", unfollowed := true, recurses := true, apart := false, narrowed := true }
def FnExactIsClosedUptoSaid : Prop := fnExactIsClosedUptoRow.holds Try.pinned (OpenSpec.upto fnExactIsClosedSpec)

/-- 'laws.FnExactIsQuadVector', WHERE WHAT IT READS IS OF BULK AT MOST 1048576: true; the input reads as it did. -/
def fnExactIsQuadVectorUptoRow : OpenClaim := { program := "ytojpoedeiedgdaa", sum := "2ddc261b920639e42e3e051b9d386a5c6dbce09d5d9c883e6a0b3146c3942e6c", func := "loop.example/g00870/laws.FnExactIsQuadVector", spec := "fnExactIsQuadVector", unfollowed := true, recurses := true, apart := false, narrowed := true }
def FnExactIsQuadVectorUptoSaid : Prop := fnExactIsQuadVectorUptoRow.holds Try.pinned (OpenSpec.upto fnExactIsQuadVectorSpec)

/-- 'laws.FnExactCodeOf', WHERE WHAT IT READS IS OF BULK AT MOST 1048576: true; the input reads as it did. -/
def fnExactCodeOfUptoRow : OpenClaim := { program := "ytojpoedeiedgdaa", sum := "2ddc261b920639e42e3e051b9d386a5c6dbce09d5d9c883e6a0b3146c3942e6c", func := "loop.example/g00870/laws.FnExactCodeOf", spec := "fnExactCodeOf", unfollowed := true, recurses := true, apart := false, narrowed := true }
def FnExactCodeOfUptoSaid : Prop := fnExactCodeOfUptoRow.holds Try.pinned (OpenSpec.upto fnExactCodeOfSpec)

/-- 'laws.FnExactUnglueFace', WHERE WHAT IT READS IS OF BULK AT MOST 1048576: true; the input reads as it did. -/
def fnExactUnglueFaceUptoRow : OpenClaim := { program := "ytojpoedeiedgdaa", sum := "2ddc261b920639e42e3e051b9d386a5c6dbce09d5d9c883e6a0b3146c3942e6c", func := "loop.example/g00870/laws.FnExactUnglueFace", spec := "fnExactUnglueFace", unfollowed := true, recurses := true, apart := false, narrowed := true }
def FnExactUnglueFaceUptoSaid : Prop := fnExactUnglueFaceUptoRow.holds Try.pinned (OpenSpec.upto fnExactUnglueFaceSpec)

/-- 'laws.FnExactBoundaryFaces', WHERE WHAT IT READS IS OF BULK AT MOST 1048576: true; the input reads as it did. -/
def fnExactBoundaryFacesUptoRow : OpenClaim := { program := "ytojpoedeiedgdaa", sum := "2ddc261b920639e42e3e051b9d386a5c6dbce09d5d9c883e6a0b3146c3942e6c", func := "loop.example/g00870/laws.FnExactBoundaryFaces", spec := "fnExactBoundaryFaces", unfollowed := true, recurses := true, apart := false, narrowed := true }
def FnExactBoundaryFacesUptoSaid : Prop := fnExactBoundaryFacesUptoRow.holds Try.pinned (OpenSpec.upto fnExactBoundaryFacesSpec)

/-- 'laws.FnExactUnionTriangulations', WHERE WHAT IT READS IS OF BULK AT MOST 1048576: true; the input reads as it did. -/
def fnExactUnionTriangulationsUptoRow : OpenClaim := { program := "ytojpoedeiedgdaa", sum := "2ddc261b920639e42e3e051b9d386a5c6dbce09d5d9c883e6a0b3146c3942e6c", func := "loop.example/g00870/laws.FnExactUnionTriangulations", spec := "fnExactUnionTriangulations", unfollowed := true, recurses := true, apart := false, narrowed := true }
def FnExactUnionTriangulationsUptoSaid : Prop := fnExactUnionTriangulationsUptoRow.holds Try.pinned (OpenSpec.upto fnExactUnionTriangulationsSpec)

/-- 'laws.FnExactGlueFaces', WHERE WHAT IT READS IS OF BULK AT MOST 1048576: true; the input reads as it did. -/
def fnExactGlueFacesUptoRow : OpenClaim := { program := "ytojpoedeiedgdaa", sum := "2ddc261b920639e42e3e051b9d386a5c6dbce09d5d9c883e6a0b3146c3942e6c", func := "loop.example/g00870/laws.FnExactGlueFaces", spec := "fnExactGlueFaces", unfollowed := true, recurses := true, apart := false, narrowed := true }
def FnExactGlueFacesUptoSaid : Prop := fnExactGlueFacesUptoRow.holds Try.pinned (OpenSpec.upto fnExactGlueFacesSpec)

/-- 'laws.FnExactAddTetrahedron', WHERE WHAT IT READS IS OF BULK AT MOST 1048576: true; the input reads as it did. -/
def fnExactAddTetrahedronUptoRow : OpenClaim := { program := "ytojpoedeiedgdaa", sum := "2ddc261b920639e42e3e051b9d386a5c6dbce09d5d9c883e6a0b3146c3942e6c", func := "loop.example/g00870/laws.FnExactAddTetrahedron", spec := "fnExactAddTetrahedron", unfollowed := true, recurses := true, apart := false, narrowed := true }
def FnExactAddTetrahedronUptoSaid : Prop := fnExactAddTetrahedronUptoRow.holds Try.pinned (OpenSpec.upto fnExactAddTetrahedronSpec)

/-- 'laws.FnExactRelabelTriangulation', WHERE WHAT IT READS IS OF BULK AT MOST 1048576: true; the input reads as it did. -/
def fnExactRelabelTriangulationUptoRow : OpenClaim := { program := "ytojpoedeiedgdaa", sum := "2ddc261b920639e42e3e051b9d386a5c6dbce09d5d9c883e6a0b3146c3942e6c", func := "loop.example/g00870/laws.FnExactRelabelTriangulation", spec := "fnExactRelabelTriangulation", unfollowed := true, recurses := true, apart := false, narrowed := true }
def FnExactRelabelTriangulationUptoSaid : Prop := fnExactRelabelTriangulationUptoRow.holds Try.pinned (OpenSpec.upto fnExactRelabelTriangulationSpec)

/-- 'laws.FnExactTetComponents', WHERE WHAT IT READS IS OF BULK AT MOST 1048576: true; the input reads as it did. -/
def fnExactTetComponentsUptoRow : OpenClaim := { program := "ytojpoedeiedgdaa", sum := "2ddc261b920639e42e3e051b9d386a5c6dbce09d5d9c883e6a0b3146c3942e6c", func := "loop.example/g00870/laws.FnExactTetComponents", spec := "fnExactTetComponents", unfollowed := true, recurses := true, apart := false, narrowed := true }
def FnExactTetComponentsUptoSaid : Prop := fnExactTetComponentsUptoRow.holds Try.pinned (OpenSpec.upto fnExactTetComponentsSpec)

/-- 'laws.FnExactComponentOf', WHERE WHAT IT READS IS OF BULK AT MOST 1048576: true; the input reads as it did. -/
def fnExactComponentOfUptoRow : OpenClaim := { program := "ytojpoedeiedgdaa", sum := "2ddc261b920639e42e3e051b9d386a5c6dbce09d5d9c883e6a0b3146c3942e6c", func := "loop.example/g00870/laws.FnExactComponentOf", spec := "fnExactComponentOf", unfollowed := true, recurses := true, apart := false, narrowed := true }
def FnExactComponentOfUptoSaid : Prop := fnExactComponentOfUptoRow.holds Try.pinned (OpenSpec.upto fnExactComponentOfSpec)

end Rows
end Go.Proofs.Ytojpoedeiedgdaa
