/- The statement FnExactFaceSignsSaid, proved: part 7 of 7 (texts of this session and of the kit's print, put together and cut to what is used by a program of it). -/
import Derived.Test.YtfnopcbicceeaaaMFnExactFaceSigns6
import Derived.Test.YtfnopcbicceeaaaRows
import Derived.WalkKit
import Derived.ProofKit
import Derived.OpenShut
import Derived.ShutString
import Derived.ChangeOld
import Derived.Below
import Derived.SizedLaws
import Derived.Carry
-- Printed by a program of this session (drv.py), by means of the kit's print.py.
namespace Go.Proofs.Ytfnopcbicceeaaa.fnExactFaceSigns
open Go.ChangeShapes Go.WideShapes Go.ChangeAt Go.RowKit Go.Proofs.Ytfnopcbicceeaaa.Lib Go.Proofs.YtfnopcbicceeaaaW.PrintWords Go.Proofs.Ytfnopcbicceeaaa.P
open Go.ChangeMaps (open_string shut_string)
set_option linter.unusedVariables false
theorem own : ownKnob Try.prog.godebug = none := by kernel_rfl
theorem laidOut : laidOutB Try.prog = true := by kernel_rfl
set_option maxRecDepth 100000 in
theorem lifted (os : Os) (started : os.Started) (H : Type) (enc : TypeId × Value → H) :
    ReturnsInHanded {} Try.checked os 5 .any (Rows.fnExactFaceSignsSpec.pre6 enc Try.prog Try.f5 Rows.fnExactFaceSignsRow.domain false) (Rows.fnExactFaceSignsSpec.post enc Try.prog Try.f5 false true false false) := by
  refine returnsInHanded_of_change_sized (C := Try.checked) own started (by kernel_rfl) Try.func5
    (ChangeSpec.witness6 (enc := enc) (C := Try.checked) false ⟨#[], #[.agg #[.slice none 0 0]], []⟩ 8 (by kernel_rfl) (by kernel_rfl) (by kernel_rfl) (by kernel_rfl)) ?_
  intro W base args ds gs before hval0 hW hcnd hsz0 _
  have hval : ∀ (j : Nat) t v, Try.f5.params[j]? = some t → args[j]? = some v → Value.okWide Try.prog W .any base t v := hval0
  have hW' := hW
  obtain ⟨p, q, hA0, hV, rfl, hfz, hnd⟩ := hW
  have hA : DataW.TrodAll enc Try.prog W 0 (fun _ => true) true Try.f5.params.toList args.toList ds p := hA0
  rw [Try.params5] at hA hval
  obtain ⟨v0, vs0, d0, ds0, p0, q0, hargs, rfl, rfl, h0, r0⟩ := trodAll_cons hA
  obtain ⟨rfl, rfl, rfl⟩ := trodAll_nil r0
  obtain rfl : args = #[v0] := by cases args; simp_all
  obtain ⟨rfl, rfl⟩ := trodVars_none hV
  have k0 := h0
  have lt0 : ∀ x ∈ p0, x.block < W.heap.size := by obtain ⟨m, hm⟩ := k0; exact DataW.trod_lt m _ _ _ hm
  obtain ⟨A0, c0, l0, rfl, hl0, hC0⟩ := open_agg1 Try.underlying24 (by kernel_rfl) (by kernel_rfl) (opens_slice Try.underlying22 (by kernel_rfl) (opens_slice Try.underlying91 (by kernel_rfl) (opens_struct2 Try.underlying123 (by kernel_rfl) (by kernel_rfl) Try.underlying2 Try.underlying2 kLawFace (fun a b => (⟨a, b⟩ : SLawFace)) (fun w a b => kLawFace_mk w ⟨a, b⟩)))) (hval 0 24 v0 rfl rfl) h0
  obtain ⟨k, hk⟩ := Pure.FnExactFaceSigns l0 (fits_of_C hC0)
  refine (laws_FnExactFaceSigns.calls k _ _ l0 W hC0 hl0 hk).mono fun e W' ⟨he, bel⟩ => ?_
  subst he
  exact ⟨_, rfl, _, _, _, [], _, [], hW', trodAll_mk1 (shut_bool Try.underlying4 _), (trodAll_cons_mk (Below.trod laidOut (by kernel_rfl) (of_decide_eq_true (by kernel_rfl)) k0 bel lt0) trodAll_mk0), rfl, bel.frame _, fun h => by cases h⟩
theorem jMay : Try.pinned.checked.prog.mayEnter = true := by kernel_rfl
theorem jLifts : (Rows.fnExactFaceSignsRow.lifted == Try.pinned.checked.prog.liftsFinal) = true := by kernel_rfl
theorem jMake : (Try.pinned.checked.prog.make == some Rows.fnExactFaceSignsRow.make) = true := by kernel_rfl
theorem closed : joinedFacts Try.pinned.checked.prog 5 Try.f5 Rows.fnExactFaceSignsSpec Rows.fnExactFaceSignsRow = true := by
  unfold joinedFacts
  rw [jMay, jLifts, jMake]
  kernel_rfl
theorem over : Rows.fnExactFaceSignsRow.holds Try.pinned (OpenSpec.ofChange Rows.fnExactFaceSignsSpec) :=
  OpenClaim.holds_of_wide 5 Try.f5 rfl rfl rfl rfl rfl rfl rfl ⟨rfl, rfl, rfl, rfl, rfl⟩ rfl rfl rfl rfl rfl (by kernel_rfl) Try.func5 closed
    (of_decide_eq_true (by kernel_rfl)) (by unfold Func.isWrapper; first | (rw [if_pos (by decide +kernel)]; kernel_rfl) | (rw [if_neg (by decide +kernel)]; exact ⟨rfl, rfl⟩))
    (fun os started H enc _ => lifted os started H enc)
theorem proved : Rows.FnExactFaceSignsSaid := over
#print axioms proved
end Go.Proofs.Ytfnopcbicceeaaa.fnExactFaceSigns
namespace Go.Proofs.Ytfnopcbicceeaaa
/-- The row, under a short name, for the claim. -/
theorem fnExactFaceSigns_holds : Rows.FnExactFaceSignsSaid := fnExactFaceSigns.proved
end Go.Proofs.Ytfnopcbicceeaaa
