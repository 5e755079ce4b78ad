/- The statement FnExactLinkIsOrientableSaid, proved: part 8 of 8 (texts of this session and of the kit's print, put together and cut to what is used by a program of it). -/
import Derived.Test.YtembbpalgfikiaaMFnExactLinkIsOrientable7
import Derived.Test.YtembbpalgfikiaaRows
import Derived.WalkKit
import Derived.ProofKit
import Derived.OpenShut
import Derived.ShutString
import Derived.ChangeOld
import Derived.Below
import Derived.SizedLaws
import Derived.Carry

namespace Go.Proofs.Ytembbpalgfikiaa.fnExactLinkIsOrientable
open Go.ChangeShapes Go.WideShapes Go.ChangeAt Go.RowKit Go.Proofs.Ytembbpalgfikiaa.Lib Go.Proofs.YtembbpalgfikiaaW.PrintWords Go.Proofs.Ytembbpalgfikiaa.P
open Go.ChangeMaps (open_string shut_string)
set_option linter.unusedVariables false
theorem own : ownKnob Try.prog.godebug = none := by kernel_rfl
theorem laidOut : laidOutB Try.prog = true := by kernel_rfl
set_option maxRecDepth 100000 in
theorem lifted (os : Os) (started : os.Started) (H : Type) (enc : TypeId × Value → H) :
    ReturnsInHanded {} Try.checked os 7 .any (Rows.fnExactLinkIsOrientableSpec.pre6 enc Try.prog Try.f7 Rows.fnExactLinkIsOrientableRow.domain false) (Rows.fnExactLinkIsOrientableSpec.post enc Try.prog Try.f7 false true false false) := by
  refine returnsInHanded_of_change_sized (C := Try.checked) own started (by kernel_rfl) Try.func7
    (ChangeSpec.witness6 (enc := enc) (C := Try.checked) false ⟨#[], #[.agg #[.slice none 0 0], .int .i64 0], []⟩ 8 (by kernel_rfl) (by kernel_rfl) (by kernel_rfl) (by kernel_rfl)) ?_
  intro W base args ds gs before hval0 hW hcnd hsz0 _
  have hval : ∀ (j : Nat) t v, Try.f7.params[j]? = some t → args[j]? = some v → Value.okWide Try.prog W .any base t v := hval0
  have hW' := hW
  obtain ⟨p, q, hA0, hV, rfl, hfz, hnd⟩ := hW
  have hA : DataW.TrodAll enc Try.prog W 0 (fun _ => true) true Try.f7.params.toList args.toList ds p := hA0
  rw [Try.params7] at hA hval
  obtain ⟨v0, vs0, d0, ds0, p0, q0, hargs, rfl, rfl, h0, r0⟩ := trodAll_cons hA
  obtain ⟨v1, vs1, d1, ds1, p1, q1, rfl, rfl, rfl, h1, r1⟩ := trodAll_cons r0
  obtain ⟨rfl, rfl, rfl⟩ := trodAll_nil r1
  obtain rfl : args = #[v0, v1] := by cases args; simp_all
  obtain ⟨rfl, rfl⟩ := trodVars_none hV
  have k0 := h0
  have lt0 : ∀ x ∈ p0, x.block < W.heap.size := by obtain ⟨m, hm⟩ := k0; exact DataW.trod_lt m _ _ _ hm
  obtain ⟨A0, c0, l0, rfl, hl0, hC0⟩ := zFD Try.underlying28 (by kernel_rfl) (by kernel_rfl) (zBD Try.underlying26 (by kernel_rfl) (zBD Try.underlying85 (by kernel_rfl) (zCG Try.underlying118 (by kernel_rfl) (by kernel_rfl) Try.underlying2 Try.underlying2 QG (fun a b => (⟨a, b⟩ : qP)) (fun w a b => zCy w ⟨a, b⟩)))) (hval 0 28 v0 rfl rfl) h0
  obtain ⟨a1, rfl, rfl, rfl, w1⟩ := open_int Try.underlying2 (hval 1 2 v1 rfl rfl) h1
  obtain ⟨k, hk⟩ := Pure.JX l0 a1 (zFE hC0) w1
  refine (ZG.calls k _ _ l0 a1 true W hC0 hl0 hk).mono fun e W' ⟨he, bel⟩ => ?_
  subst he
  exact ⟨_, rfl, _, _, _, [], _, [], hW', trodAll_mk1 (shut_bool Try.underlying4 _), (trodAll_cons_mk (Below.trod laidOut (by kernel_rfl) (of_decide_eq_true (by kernel_rfl)) k0 bel lt0) (trodAll_cons_mk (shut_int Try.underlying2 w1) trodAll_mk0)), rfl, bel.frame _, fun h => by cases h⟩
theorem jMay : Try.pinned.checked.prog.mayEnter = true := by kernel_rfl
theorem jLifts : (Rows.fnExactLinkIsOrientableRow.lifted == Try.pinned.checked.prog.liftsFinal) = true := by kernel_rfl
theorem jMake : (Try.pinned.checked.prog.make == some Rows.fnExactLinkIsOrientableRow.make) = true := by kernel_rfl
theorem closed : joinedFacts Try.pinned.checked.prog 7 Try.f7 Rows.fnExactLinkIsOrientableSpec Rows.fnExactLinkIsOrientableRow = true := by
  unfold joinedFacts
  rw [jMay, jLifts, jMake]
  kernel_rfl
theorem over : Rows.fnExactLinkIsOrientableRow.holds Try.pinned (OpenSpec.ofChange Rows.fnExactLinkIsOrientableSpec) :=
  OpenClaim.holds_of_wide 7 Try.f7 rfl rfl rfl rfl rfl rfl rfl ⟨rfl, rfl, rfl, rfl, rfl⟩ rfl rfl rfl rfl rfl (by kernel_rfl) Try.func7 closed
    (of_decide_eq_true (by kernel_rfl)) (by unfold Func.isWrapper; first | (rw [if_pos (by decide +kernel)]; kernel_rfl) | (rw [if_neg (by decide +kernel)]; exact ⟨rfl, rfl⟩))
    (fun os started H enc _ => lifted os started H enc)
theorem proved : Rows.FnExactLinkIsOrientableSaid := over
#print axioms proved
end Go.Proofs.Ytembbpalgfikiaa.fnExactLinkIsOrientable
namespace Go.Proofs.Ytembbpalgfikiaa
theorem fnExactLinkIsOrientable_holds : Rows.FnExactLinkIsOrientableSaid := fnExactLinkIsOrientable.proved
end Go.Proofs.Ytembbpalgfikiaa
