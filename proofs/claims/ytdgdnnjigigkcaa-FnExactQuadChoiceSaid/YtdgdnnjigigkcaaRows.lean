/-
  No cell of these rows narrows 'for every input' (looked for: loops, veiled, ifaces, maps, wideKeys, modest, calm, conditions, laid).
  DERIVED. THE GIVEN ROWS OF THIS SEAT. 12 by the template 'for every input the law returns true; each argument reads behind the call as it read before'; 0 by the template 'total and deterministic' (their statements: YtdgdnnjigigkcaaTotals.lean).
  GIVEN WITH THE SEED: the statements are not yours to turn. If you find one false, say at which input.
  Laid BY PROGRAM, IN A SANDBOX (cutbox-rows.mjs): the forced cells as the released guide's own fill.sh prints them over the translation d3f169807cddb557… (all of the seat's roots in one cut). By AI agents, Wed Nov 11 2026. No macro, syntax, notation, axiom, sorry.
-/
import Derived.Test.YtdgdnnjigigkcaaChecked
import GoSem.Claim
import GoSem.ClaimJoined
import GoSem.ClaimMapViews
import Derived.JoinedTies
import Derived.KernelRfl
namespace Go.Proofs.Ytdgdnnjigigkcaa
/- THE CELL 'sum', in the pinned program and in every row, IS THE sha256 OF THE DUMP (.gsa) THAT YtdgdnnjigigkcaaProg.lean LOADS. Nothing in Lean hashes anything: it is a label: what it is worth is what the hold of that sum in a sandbox is worth. -/
noncomputable def Try.pinned : Pinned := { name := "ytdgdnnjigigkcaa", sum := "d3f169807cddb557d591f5c7e74f17d911ba2d40aac2d373b2e02512ae85a2ae", checked := Try.checked }
namespace Rows
def none {H : Type} : Left H := { results := [], args := [] }

/-- 'laws.FnExactComponentOf': WHATEVER THE INPUT: true; the input reads as it did. -/
def fnExactComponentOfSpec : ChangeSpec := { name := "fnExactComponentOf", fn := fun _ => fun
  | [d1, d2] => { results := [.lit (.bool true)], args := [d1, d2] }
  | _ => none }
def fnExactComponentOfRow : OpenClaim := { program := "ytdgdnnjigigkcaa", sum := "d3f169807cddb557d591f5c7e74f17d911ba2d40aac2d373b2e02512ae85a2ae", func := "loop.example/g00870/laws.FnExactComponentOf", spec := "fnExactComponentOf", unfollowed := true, recurses := true, apart := false }
def FnExactComponentOfSaid : Prop := fnExactComponentOfRow.holds Try.pinned (OpenSpec.ofChange fnExactComponentOfSpec)

/-- ITS FALSE NEIGHBOUR: 'it returns false'. Refute it at one input. -/
def fnExactComponentOfWrong : ChangeSpec := { name := "fnExactComponentOf", fn := fun _ => fun
  | [d1, d2] => { results := [.lit (.bool false)], args := [d1, d2] }
  | _ => none }
def FnExactComponentOfWrongFalsely : Prop := fnExactComponentOfRow.holds Try.pinned (OpenSpec.ofChange fnExactComponentOfWrong)

/-- 'laws.FnExactGlueFaces': WHATEVER THE INPUT: true; the input reads as it did. -/
def fnExactGlueFacesSpec : ChangeSpec := { name := "fnExactGlueFaces", fn := fun _ => fun
  | [d1, d2, d3, d4, d5] => { results := [.lit (.bool true)], args := [d1, d2, d3, d4, d5] }
  | _ => none }
def fnExactGlueFacesRow : OpenClaim := { program := "ytdgdnnjigigkcaa", sum := "d3f169807cddb557d591f5c7e74f17d911ba2d40aac2d373b2e02512ae85a2ae", func := "loop.example/g00870/laws.FnExactGlueFaces", spec := "fnExactGlueFaces", unfollowed := true, recurses := true, apart := false }
def FnExactGlueFacesSaid : Prop := fnExactGlueFacesRow.holds Try.pinned (OpenSpec.ofChange fnExactGlueFacesSpec)

/-- ITS FALSE NEIGHBOUR: 'it returns false'. Refute it at one input. -/
def fnExactGlueFacesWrong : ChangeSpec := { name := "fnExactGlueFaces", fn := fun _ => fun
  | [d1, d2, d3, d4, d5] => { results := [.lit (.bool false)], args := [d1, d2, d3, d4, d5] }
  | _ => none }
def FnExactGlueFacesWrongFalsely : Prop := fnExactGlueFacesRow.holds Try.pinned (OpenSpec.ofChange fnExactGlueFacesWrong)

/-- 'laws.FnExactUnionTriangulations': WHATEVER THE INPUT: true; the input reads as it did. -/
def fnExactUnionTriangulationsSpec : ChangeSpec := { name := "fnExactUnionTriangulations", fn := fun _ => fun
  | [d1, d2] => { results := [.lit (.bool true)], args := [d1, d2] }
  | _ => none }
def fnExactUnionTriangulationsRow : OpenClaim := { program := "ytdgdnnjigigkcaa", sum := "d3f169807cddb557d591f5c7e74f17d911ba2d40aac2d373b2e02512ae85a2ae", func := "loop.example/g00870/laws.FnExactUnionTriangulations", spec := "fnExactUnionTriangulations", unfollowed := true, recurses := true, apart := false }
def FnExactUnionTriangulationsSaid : Prop := fnExactUnionTriangulationsRow.holds Try.pinned (OpenSpec.ofChange fnExactUnionTriangulationsSpec)

/-- ITS FALSE NEIGHBOUR: 'it returns false'. Refute it at one input. -/
def fnExactUnionTriangulationsWrong : ChangeSpec := { name := "fnExactUnionTriangulations", fn := fun _ => fun
  | [d1, d2] => { results := [.lit (.bool false)], args := [d1, d2] }
  | _ => none }
def FnExactUnionTriangulationsWrongFalsely : Prop := fnExactUnionTriangulationsRow.holds Try.pinned (OpenSpec.ofChange fnExactUnionTriangulationsWrong)

/-- 'laws.FnExactDoubleCover': WHATEVER THE INPUT: true; the input reads as it did. -/
def fnExactDoubleCoverSpec : ChangeSpec := { name := "fnExactDoubleCover", fn := fun _ => fun
  | [d] => { results := [.lit (.bool true)], args := [d] }
  | _ => none }
def fnExactDoubleCoverRow : OpenClaim := { program := "ytdgdnnjigigkcaa", sum := "d3f169807cddb557d591f5c7e74f17d911ba2d40aac2d373b2e02512ae85a2ae", func := "loop.example/g00870/laws.FnExactDoubleCover", spec := "fnExactDoubleCover", unfollowed := true, recurses := true, apart := false }
def FnExactDoubleCoverSaid : Prop := fnExactDoubleCoverRow.holds Try.pinned (OpenSpec.ofChange fnExactDoubleCoverSpec)

/-- ITS FALSE NEIGHBOUR: 'it returns false'. Refute it at one input. -/
def fnExactDoubleCoverWrong : ChangeSpec := { name := "fnExactDoubleCover", fn := fun _ => fun
  | [d] => { results := [.lit (.bool false)], args := [d] }
  | _ => none }
def FnExactDoubleCoverWrongFalsely : Prop := fnExactDoubleCoverRow.holds Try.pinned (OpenSpec.ofChange fnExactDoubleCoverWrong)

/-- 'laws.FnExactAddTetrahedron': WHATEVER THE INPUT: true; the input reads as it did. -/
def fnExactAddTetrahedronSpec : ChangeSpec := { name := "fnExactAddTetrahedron", fn := fun _ => fun
  | [d] => { results := [.lit (.bool true)], args := [d] }
  | _ => none }
def fnExactAddTetrahedronRow : OpenClaim := { program := "ytdgdnnjigigkcaa", sum := "d3f169807cddb557d591f5c7e74f17d911ba2d40aac2d373b2e02512ae85a2ae", func := "loop.example/g00870/laws.FnExactAddTetrahedron", spec := "fnExactAddTetrahedron", unfollowed := true, recurses := true, apart := false }
def FnExactAddTetrahedronSaid : Prop := fnExactAddTetrahedronRow.holds Try.pinned (OpenSpec.ofChange fnExactAddTetrahedronSpec)

/-- ITS FALSE NEIGHBOUR: 'it returns false'. Refute it at one input. -/
def fnExactAddTetrahedronWrong : ChangeSpec := { name := "fnExactAddTetrahedron", fn := fun _ => fun
  | [d] => { results := [.lit (.bool false)], args := [d] }
  | _ => none }
def FnExactAddTetrahedronWrongFalsely : Prop := fnExactAddTetrahedronRow.holds Try.pinned (OpenSpec.ofChange fnExactAddTetrahedronWrong)

/-- 'laws.FnExactRelabelTriangulation': WHATEVER THE INPUT: true; the input reads as it did. -/
def fnExactRelabelTriangulationSpec : ChangeSpec := { name := "fnExactRelabelTriangulation", fn := fun _ => fun
  | [d1, d2, d3] => { results := [.lit (.bool true)], args := [d1, d2, d3] }
  | _ => none }
def fnExactRelabelTriangulationRow : OpenClaim := { program := "ytdgdnnjigigkcaa", sum := "d3f169807cddb557d591f5c7e74f17d911ba2d40aac2d373b2e02512ae85a2ae", func := "loop.example/g00870/laws.FnExactRelabelTriangulation", spec := "fnExactRelabelTriangulation", unfollowed := true, recurses := true, apart := false }
def FnExactRelabelTriangulationSaid : Prop := fnExactRelabelTriangulationRow.holds Try.pinned (OpenSpec.ofChange fnExactRelabelTriangulationSpec)

/-- ITS FALSE NEIGHBOUR: 'it returns false'. Refute it at one input. -/
def fnExactRelabelTriangulationWrong : ChangeSpec := { name := "fnExactRelabelTriangulation", fn := fun _ => fun
  | [d1, d2, d3] => { results := [.lit (.bool false)], args := [d1, d2, d3] }
  | _ => none }
def FnExactRelabelTriangulationWrongFalsely : Prop := fnExactRelabelTriangulationRow.holds Try.pinned (OpenSpec.ofChange fnExactRelabelTriangulationWrong)

/-- 'laws.FnExactMirrorForm': WHATEVER THE INPUT: true; the input reads as it did. -/
def fnExactMirrorFormSpec : ChangeSpec := { name := "fnExactMirrorForm", fn := fun _ => fun
  | [d] => { results := [.lit (.bool true)], args := [d] }
  | _ => none }
def fnExactMirrorFormRow : OpenClaim := { program := "ytdgdnnjigigkcaa", sum := "d3f169807cddb557d591f5c7e74f17d911ba2d40aac2d373b2e02512ae85a2ae", func := "loop.example/g00870/laws.FnExactMirrorForm", spec := "fnExactMirrorForm", unfollowed := true, recurses := true, apart := false }
def FnExactMirrorFormSaid : Prop := fnExactMirrorFormRow.holds Try.pinned (OpenSpec.ofChange fnExactMirrorFormSpec)

/-- ITS FALSE NEIGHBOUR: 'it returns false'. Refute it at one input. -/
def fnExactMirrorFormWrong : ChangeSpec := { name := "fnExactMirrorForm", fn := fun _ => fun
  | [d] => { results := [.lit (.bool false)], args := [d] }
  | _ => none }
def FnExactMirrorFormWrongFalsely : Prop := fnExactMirrorFormRow.holds Try.pinned (OpenSpec.ofChange fnExactMirrorFormWrong)

/-- 'laws.FnExactOrientedForm': WHATEVER THE INPUT: true; the input reads as it did. -/
def fnExactOrientedFormSpec : ChangeSpec := { name := "fnExactOrientedForm", fn := fun _ => fun
  | [d] => { results := [.lit (.bool true)], args := [d] }
  | _ => none }
def fnExactOrientedFormRow : OpenClaim := { program := "ytdgdnnjigigkcaa", sum := "d3f169807cddb557d591f5c7e74f17d911ba2d40aac2d373b2e02512ae85a2ae", func := "loop.example/g00870/laws.FnExactOrientedForm", spec := "fnExactOrientedForm", unfollowed := true, recurses := true, apart := false }
def FnExactOrientedFormSaid : Prop := fnExactOrientedFormRow.holds Try.pinned (OpenSpec.ofChange fnExactOrientedFormSpec)

/-- ITS FALSE NEIGHBOUR: 'it returns false'. Refute it at one input. -/
def fnExactOrientedFormWrong : ChangeSpec := { name := "fnExactOrientedForm", fn := fun _ => fun
  | [d] => { results := [.lit (.bool false)], args := [d] }
  | _ => none }
def FnExactOrientedFormWrongFalsely : Prop := fnExactOrientedFormRow.holds Try.pinned (OpenSpec.ofChange fnExactOrientedFormWrong)

/-- 'laws.FnExactIsIsomorphism': WHATEVER THE INPUT: true; the input reads as it did. -/
def fnExactIsIsomorphismSpec : ChangeSpec := { name := "fnExactIsIsomorphism", fn := fun _ => fun
  | [d1, d2, d3, d4] => { results := [.lit (.bool true)], args := [d1, d2, d3, d4] }
  | _ => none }
def fnExactIsIsomorphismRow : OpenClaim := { program := "ytdgdnnjigigkcaa", sum := "d3f169807cddb557d591f5c7e74f17d911ba2d40aac2d373b2e02512ae85a2ae", func := "loop.example/g00870/laws.FnExactIsIsomorphism", spec := "fnExactIsIsomorphism", unfollowed := true, recurses := true, apart := false }
def FnExactIsIsomorphismSaid : Prop := fnExactIsIsomorphismRow.holds Try.pinned (OpenSpec.ofChange fnExactIsIsomorphismSpec)

/-- ITS FALSE NEIGHBOUR: 'it returns false'. Refute it at one input. -/
def fnExactIsIsomorphismWrong : ChangeSpec := { name := "fnExactIsIsomorphism", fn := fun _ => fun
  | [d1, d2, d3, d4] => { results := [.lit (.bool false)], args := [d1, d2, d3, d4] }
  | _ => none }
def FnExactIsIsomorphismWrongFalsely : Prop := fnExactIsIsomorphismRow.holds Try.pinned (OpenSpec.ofChange fnExactIsIsomorphismWrong)

/-- 'laws.FnExactGluingNumber': WHATEVER THE INPUT: true; the input reads as it did. -/
def fnExactGluingNumberSpec : ChangeSpec := { name := "fnExactGluingNumber", fn := fun _ => fun
  | [d] => { results := [.lit (.bool true)], args := [d] }
  | _ => none }
def fnExactGluingNumberRow : OpenClaim := { program := "ytdgdnnjigigkcaa", sum := "d3f169807cddb557d591f5c7e74f17d911ba2d40aac2d373b2e02512ae85a2ae", func := "loop.example/g00870/laws.FnExactGluingNumber", spec := "fnExactGluingNumber", unfollowed := true, recurses := true, apart := false }
def FnExactGluingNumberSaid : Prop := fnExactGluingNumberRow.holds Try.pinned (OpenSpec.ofChange fnExactGluingNumberSpec)

/-- ITS FALSE NEIGHBOUR: 'it returns false'. Refute it at one input. -/
def fnExactGluingNumberWrong : ChangeSpec := { name := "fnExactGluingNumber", fn := fun _ => fun
  | [d] => { results := [.lit (.bool false)], args := [d] }
  | _ => none }
def FnExactGluingNumberWrongFalsely : Prop := fnExactGluingNumberRow.holds Try.pinned (OpenSpec.ofChange fnExactGluingNumberWrong)

/-- 'laws.FnExactFaceSigns': WHATEVER THE INPUT: true; the input reads as it did. -/
def fnExactFaceSignsSpec : ChangeSpec := { name := "fnExactFaceSigns", fn := fun _ => fun
  | [d] => { results := [.lit (.bool true)], args := [d] }
  | _ => none }
def fnExactFaceSignsRow : OpenClaim := { program := "ytdgdnnjigigkcaa", sum := "d3f169807cddb557d591f5c7e74f17d911ba2d40aac2d373b2e02512ae85a2ae", func := "loop.example/g00870/laws.FnExactFaceSigns", spec := "fnExactFaceSigns", unfollowed := true, recurses := true, apart := false }
def FnExactFaceSignsSaid : Prop := fnExactFaceSignsRow.holds Try.pinned (OpenSpec.ofChange fnExactFaceSignsSpec)

/-- ITS FALSE NEIGHBOUR: 'it returns false'. Refute it at one input. -/
def fnExactFaceSignsWrong : ChangeSpec := { name := "fnExactFaceSigns", fn := fun _ => fun
  | [d] => { results := [.lit (.bool false)], args := [d] }
  | _ => none }
def FnExactFaceSignsWrongFalsely : Prop := fnExactFaceSignsRow.holds Try.pinned (OpenSpec.ofChange fnExactFaceSignsWrong)

/-- 'laws.FnExactQuadChoice': WHATEVER THE INPUT: true; the input reads as it did. -/
def fnExactQuadChoiceSpec : ChangeSpec := { name := "fnExactQuadChoice", fn := fun _ => fun
  | [d1, d2] => { results := [.lit (.bool true)], args := [d1, d2] }
  | _ => none }
def fnExactQuadChoiceRow : OpenClaim := { program := "ytdgdnnjigigkcaa", sum := "d3f169807cddb557d591f5c7e74f17d911ba2d40aac2d373b2e02512ae85a2ae", func := "loop.example/g00870/laws.FnExactQuadChoice", spec := "fnExactQuadChoice", unfollowed := true, recurses := true, apart := false }
def FnExactQuadChoiceSaid : Prop := fnExactQuadChoiceRow.holds Try.pinned (OpenSpec.ofChange fnExactQuadChoiceSpec)

/-- ITS FALSE NEIGHBOUR: 'it returns false'. Refute it at one input. -/
def fnExactQuadChoiceWrong : ChangeSpec := { name := "fnExactQuadChoice", fn := fun _ => fun
  | [d1, d2] => { results := [.lit (.bool false)], args := [d1, d2] }
  | _ => none }
def FnExactQuadChoiceWrongFalsely : Prop := fnExactQuadChoiceRow.holds Try.pinned (OpenSpec.ofChange fnExactQuadChoiceWrong)

/- THE SECOND FORM. 'bulk': how many values and letters a reading holds, each counted each time it is reached (what is shared counts as often as it is met; a slice's spare places count too). A statement '..UptoSaid' is the law's where the arguments, and the package variables that the reading takes, are together of bulk at most 1048576: NARROWER than '..Said'. Prove '..Said' where nothing that the law and all that it calls make is longer than what came in: it says more and counts as full. Else prove '..UptoSaid'. A law counts once. -/
mutual
def uptoBulk {H : Type} : DataW H → Nat
  | .lit (.string bytes) => bytes.length + 1
  | .lit _ => 1
  | .nil => 1
  | .ptr d => uptoBulk d + 1
  | .slice elems spare => uptoBulkAll elems + uptoBulkAll spare + 1
  | .agg parts => uptoBulkAll parts + 1
  | .iface _ d => uptoBulk d + 1
  | .map entries => uptoBulkEntries entries + 1
  | .held _ => 1
def uptoBulkAll {H : Type} : List (DataW H) → Nat
  | [] => 0
  | d :: r => uptoBulk d + uptoBulkAll r
def uptoBulkEntries {H : Type} : List (Lit × DataW H) → Nat
  | [] => 0
  | x :: r => uptoBulkEntry x + uptoBulkEntries r
def uptoBulkEntry {H : Type} : Lit × DataW H → Nat
  | (.string bytes, d) => bytes.length + uptoBulk d + 1
  | (_, d) => uptoBulk d + 1
 end
def uptoSmall : (H : Type) → List (DataW H) → Bool := fun _ ds => decide (uptoBulkAll ds ≤ 1048576)
def OpenSpec.upto (s : _root_.Go.ChangeSpec) : _root_.Go.OpenSpec := { _root_.Go.OpenSpec.ofChange s with cond := some uptoSmall }

/-- 'laws.FnExactComponentOf', WHERE WHAT IT READS IS OF BULK AT MOST 1048576: true; the input reads as it did. -/
def fnExactComponentOfUptoRow : OpenClaim := { program := "ytdgdnnjigigkcaa", sum := "d3f169807cddb557d591f5c7e74f17d911ba2d40aac2d373b2e02512ae85a2ae", func := "loop.example/g00870/laws.FnExactComponentOf", spec := "fnExactComponentOf", unfollowed := true, recurses := true, apart := false, narrowed := true }
def FnExactComponentOfUptoSaid : Prop := fnExactComponentOfUptoRow.holds Try.pinned (OpenSpec.upto fnExactComponentOfSpec)

/-- 'laws.FnExactGlueFaces', WHERE WHAT IT READS IS OF BULK AT MOST 1048576: true; the input reads as it did. -/
def fnExactGlueFacesUptoRow : OpenClaim := { program := "ytdgdnnjigigkcaa", sum := "d3f169807cddb557d591f5c7e74f17d911ba2d40aac2d373b2e02512ae85a2ae", func := "loop.example/g00870/laws.FnExactGlueFaces", spec := "fnExactGlueFaces", unfollowed := true, recurses := true, apart := false, narrowed := true }
def FnExactGlueFacesUptoSaid : Prop := fnExactGlueFacesUptoRow.holds Try.pinned (OpenSpec.upto fnExactGlueFacesSpec)

/-- 'laws.FnExactUnionTriangulations', WHERE WHAT IT READS IS OF BULK AT MOST 1048576: true; the input reads as it did. -/
def fnExactUnionTriangulationsUptoRow : OpenClaim := { program := "ytdgdnnjigigkcaa", sum := "d3f169807cddb557d591f5c7e74f17d911ba2d40aac2d373b2e02512ae85a2ae", func := "loop.example/g00870/laws.FnExactUnionTriangulations", spec := "fnExactUnionTriangulations", unfollowed := true, recurses := true, apart := false, narrowed := true }
def FnExactUnionTriangulationsUptoSaid : Prop := fnExactUnionTriangulationsUptoRow.holds Try.pinned (OpenSpec.upto fnExactUnionTriangulationsSpec)

/-- 'laws.FnExactDoubleCover', WHERE WHAT IT READS IS OF BULK AT MOST 1048576: true; the input reads as it did. -/
def fnExactDoubleCoverUptoRow : OpenClaim := { program := "ytdgdnnjigigkcaa", sum := "d3f169807cddb557d591f5c7e74f17d911ba2d40aac2d373b2e02512ae85a2ae", func := "loop.example/g00870/laws.FnExactDoubleCover", spec := "fnExactDoubleCover", unfollowed := true, recurses := true, apart := false, narrowed := true }
def FnExactDoubleCoverUptoSaid : Prop := fnExactDoubleCoverUptoRow.holds Try.pinned (OpenSpec.upto fnExactDoubleCoverSpec)

/-- 'laws.FnExactAddTetrahedron', WHERE WHAT IT READS IS OF BULK AT MOST 1048576: true; the input reads as it did. -/
def fnExactAddTetrahedronUptoRow : OpenClaim := { program := "ytdgdnnjigigkcaa", sum := "d3f169807cddb557d591f5c7e74f17d911ba2d40aac2d373b2e02512ae85a2ae", func := "loop.example/g00870/laws.FnExactAddTetrahedron", spec := "fnExactAddTetrahedron", unfollowed := true, recurses := true, apart := false, narrowed := true }
def FnExactAddTetrahedronUptoSaid : Prop := fnExactAddTetrahedronUptoRow.holds Try.pinned (OpenSpec.upto fnExactAddTetrahedronSpec)

/-- 'laws.FnExactRelabelTriangulation', WHERE WHAT IT READS IS OF BULK AT MOST 1048576: true; the input reads as it did. -/
def fnExactRelabelTriangulationUptoRow : OpenClaim := { program := "ytdgdnnjigigkcaa", sum := "d3f169807cddb557d591f5c7e74f17d911ba2d40aac2d373b2e02512ae85a2ae", func := "loop.example/g00870/laws.FnExactRelabelTriangulation", spec := "fnExactRelabelTriangulation", unfollowed := true, recurses := true, apart := false, narrowed := true }
def FnExactRelabelTriangulationUptoSaid : Prop := fnExactRelabelTriangulationUptoRow.holds Try.pinned (OpenSpec.upto fnExactRelabelTriangulationSpec)

/-- 'laws.FnExactMirrorForm', WHERE WHAT IT READS IS OF BULK AT MOST 1048576: true; the input reads as it did. -/
def fnExactMirrorFormUptoRow : OpenClaim := { program := "ytdgdnnjigigkcaa", sum := "d3f169807cddb557d591f5c7e74f17d911ba2d40aac2d373b2e02512ae85a2ae", func := "loop.example/g00870/laws.FnExactMirrorForm", spec := "fnExactMirrorForm", unfollowed := true, recurses := true, apart := false, narrowed := true }
def FnExactMirrorFormUptoSaid : Prop := fnExactMirrorFormUptoRow.holds Try.pinned (OpenSpec.upto fnExactMirrorFormSpec)

/-- 'laws.FnExactOrientedForm', WHERE WHAT IT READS IS OF BULK AT MOST 1048576: true; the input reads as it did. -/
def fnExactOrientedFormUptoRow : OpenClaim := { program := "ytdgdnnjigigkcaa", sum := "d3f169807cddb557d591f5c7e74f17d911ba2d40aac2d373b2e02512ae85a2ae", func := "loop.example/g00870/laws.FnExactOrientedForm", spec := "fnExactOrientedForm", unfollowed := true, recurses := true, apart := false, narrowed := true }
def FnExactOrientedFormUptoSaid : Prop := fnExactOrientedFormUptoRow.holds Try.pinned (OpenSpec.upto fnExactOrientedFormSpec)

/-- 'laws.FnExactIsIsomorphism', WHERE WHAT IT READS IS OF BULK AT MOST 1048576: true; the input reads as it did. -/
def fnExactIsIsomorphismUptoRow : OpenClaim := { program := "ytdgdnnjigigkcaa", sum := "d3f169807cddb557d591f5c7e74f17d911ba2d40aac2d373b2e02512ae85a2ae", func := "loop.example/g00870/laws.FnExactIsIsomorphism", spec := "fnExactIsIsomorphism", unfollowed := true, recurses := true, apart := false, narrowed := true }
def FnExactIsIsomorphismUptoSaid : Prop := fnExactIsIsomorphismUptoRow.holds Try.pinned (OpenSpec.upto fnExactIsIsomorphismSpec)

/-- 'laws.FnExactGluingNumber', WHERE WHAT IT READS IS OF BULK AT MOST 1048576: true; the input reads as it did. -/
def fnExactGluingNumberUptoRow : OpenClaim := { program := "ytdgdnnjigigkcaa", sum := "d3f169807cddb557d591f5c7e74f17d911ba2d40aac2d373b2e02512ae85a2ae", func := "loop.example/g00870/laws.FnExactGluingNumber", spec := "fnExactGluingNumber", unfollowed := true, recurses := true, apart := false, narrowed := true }
def FnExactGluingNumberUptoSaid : Prop := fnExactGluingNumberUptoRow.holds Try.pinned (OpenSpec.upto fnExactGluingNumberSpec)

/-- 'laws.FnExactFaceSigns', WHERE WHAT IT READS IS OF BULK AT MOST 1048576: true; the input reads as it did. -/
def fnExactFaceSignsUptoRow : OpenClaim := { program := "ytdgdnnjigigkcaa", sum := "d3f169807cddb557d591f5c7e74f17d911ba2d40aac2d373b2e02512ae85a2ae", func := "loop.example/g00870/laws.FnExactFaceSigns", spec := "fnExactFaceSigns", unfollowed := true, recurses := true, apart := false, narrowed := true }
def FnExactFaceSignsUptoSaid : Prop := fnExactFaceSignsUptoRow.holds Try.pinned (OpenSpec.upto fnExactFaceSignsSpec)

/-- 'laws.FnExactQuadChoice', WHERE WHAT IT READS IS OF BULK AT MOST 1048576: true; the input reads as it did. -/
def fnExactQuadChoiceUptoRow : OpenClaim := { program := "ytdgdnnjigigkcaa", sum := "d3f169807cddb557d591f5c7e74f17d911ba2d40aac2d373b2e02512ae85a2ae", func := "loop.example/g00870/laws.FnExactQuadChoice", spec := "fnExactQuadChoice", unfollowed := true, recurses := true, apart := false, narrowed := true }
def FnExactQuadChoiceUptoSaid : Prop := fnExactQuadChoiceUptoRow.holds Try.pinned (OpenSpec.upto fnExactQuadChoiceSpec)

end Rows
end Go.Proofs.Ytdgdnnjigigkcaa
