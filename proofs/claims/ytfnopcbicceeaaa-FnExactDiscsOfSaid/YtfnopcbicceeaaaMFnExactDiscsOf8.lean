/- The statement FnExactDiscsOfSaid, proved: part 8 of 8 (texts of this session and of the kit's print, put together and cut to what is used by a program of it). -/
import Derived.Test.YtfnopcbicceeaaaMFnExactDiscsOf7
import Derived.Test.YtfnopcbicceeaaaRows
import Derived.WalkKit
import Derived.ProofKit
import Derived.OpenShut
import Derived.ShutString
import Derived.ChangeOld
import Derived.Below
import Derived.SizedLaws
import Derived.Carry

namespace Go.Proofs.Ytfnopcbicceeaaa.fnExactDiscsOf
open Go.ChangeShapes Go.WideShapes Go.ChangeAt Go.RowKit Go.Proofs.Ytfnopcbicceeaaa.Lib Go.Proofs.YtfnopcbicceeaaaW.PrintWords Go.Proofs.Ytfnopcbicceeaaa.P
open Go.ChangeMaps (open_string shut_string)
set_option linter.unusedVariables false
theorem own : ownKnob Try.prog.godebug = none := by kernel_rfl
theorem laidOut : laidOutB Try.prog = true := by kernel_rfl
set_option maxRecDepth 100000 in
theorem lifted (os : Os) (started : os.Started) (H : Type) (enc : TypeId × Value → H) :
    ReturnsInHanded {} Try.checked os 7 .any (Rows.fnExactDiscsOfSpec.pre6 enc Try.prog Try.f7 Rows.fnExactDiscsOfRow.domain false) (Rows.fnExactDiscsOfSpec.post enc Try.prog Try.f7 false true false false) := by
  refine returnsInHanded_of_change_sized (C := Try.checked) own started (by kernel_rfl) Try.func7
    (ChangeSpec.witness6 (enc := enc) (C := Try.checked) false ⟨#[], #[.agg #[.slice none 0 0], .slice none 0 0], []⟩ 8 (by kernel_rfl) (by kernel_rfl) (by kernel_rfl) (by kernel_rfl)) ?_
  intro W base args ds gs before hval0 hW hcnd hsz0 _
  have hval : ∀ (j : Nat) t v, Try.f7.params[j]? = some t → args[j]? = some v → Value.okWide Try.prog W .any base t v := hval0
  have hW' := hW
  obtain ⟨p, q, hA0, hV, rfl, hfz, hnd⟩ := hW
  have hA : DataW.TrodAll enc Try.prog W 0 (fun _ => true) true Try.f7.params.toList args.toList ds p := hA0
  rw [Try.params7] at hA hval
  obtain ⟨v0, vs0, d0, ds0, p0, q0, hargs, rfl, rfl, h0, r0⟩ := trodAll_cons hA
  obtain ⟨v1, vs1, d1, ds1, p1, q1, rfl, rfl, rfl, h1, r1⟩ := trodAll_cons r0
  obtain ⟨rfl, rfl, rfl⟩ := trodAll_nil r1
  obtain rfl : args = #[v0, v1] := by cases args; simp_all
  obtain ⟨rfl, rfl⟩ := trodVars_none hV
  have k0 := h0
  have lt0 : ∀ x ∈ p0, x.block < W.heap.size := by obtain ⟨m, hm⟩ := k0; exact DataW.trod_lt m _ _ _ hm
  obtain ⟨A0, c0, l0, rfl, hl0, hC0⟩ := zFJ Try.underlying24 (by kernel_rfl) (by kernel_rfl) (zAB Try.underlying22 (by kernel_rfl) (zAB Try.underlying91 (by kernel_rfl) (zCc Try.underlying123 (by kernel_rfl) (by kernel_rfl) Try.underlying2 Try.underlying2 QA (fun a b => (⟨a, b⟩ : qR)) (fun w a b => zDK w ⟨a, b⟩)))) (hval 0 24 v0 rfl rfl) h0
  have k1 := h1
  have lt1 : ∀ x ∈ p1, x.block < W.heap.size := by obtain ⟨m, hm⟩ := k1; exact DataW.trod_lt m _ _ _ hm
  obtain ⟨A1, c1, l1, rfl, hl1, hC1⟩ := zFr Try.underlying44 (zAB Try.underlying44 (by kernel_rfl) (zFI Try.underlying2)) (hval 1 44 v1 rfl rfl) h1
  obtain ⟨k, hk⟩ := Pure.zBY l0 l1 (zFK hC0) hC1.2.1
  refine (Zg.calls k _ _ l0 _ _ l1 W hC0 hl0 hC1 hl1 hk).mono fun e W' ⟨he, bel⟩ => ?_
  subst he
  exact ⟨_, rfl, _, _, _, [], _, [], hW', trodAll_mk1 (shut_bool Try.underlying4 _), (trodAll_cons_mk (Below.trod laidOut (by kernel_rfl) (of_decide_eq_true (by kernel_rfl)) k0 bel lt0) (trodAll_cons_mk (Below.trod laidOut (by kernel_rfl) (of_decide_eq_true (by kernel_rfl)) k1 bel lt1) trodAll_mk0)), rfl, bel.frame _, fun h => by cases h⟩
theorem jMay : Try.pinned.checked.prog.mayEnter = true := by kernel_rfl
theorem jLifts : (Rows.fnExactDiscsOfRow.lifted == Try.pinned.checked.prog.liftsFinal) = true := by kernel_rfl
theorem jMake : (Try.pinned.checked.prog.make == some Rows.fnExactDiscsOfRow.make) = true := by kernel_rfl
theorem closed : joinedFacts Try.pinned.checked.prog 7 Try.f7 Rows.fnExactDiscsOfSpec Rows.fnExactDiscsOfRow = true := by
  unfold joinedFacts
  rw [jMay, jLifts, jMake]
  kernel_rfl
theorem over : Rows.fnExactDiscsOfRow.holds Try.pinned (OpenSpec.ofChange Rows.fnExactDiscsOfSpec) :=
  OpenClaim.holds_of_wide 7 Try.f7 rfl rfl rfl rfl rfl rfl rfl ⟨rfl, rfl, rfl, rfl, rfl⟩ rfl rfl rfl rfl rfl (by kernel_rfl) Try.func7 closed
    (of_decide_eq_true (by kernel_rfl)) (by unfold Func.isWrapper; first | (rw [if_pos (by decide +kernel)]; kernel_rfl) | (rw [if_neg (by decide +kernel)]; exact ⟨rfl, rfl⟩))
    (fun os started H enc _ => lifted os started H enc)
theorem proved : Rows.FnExactDiscsOfSaid := over
#print axioms proved
end Go.Proofs.Ytfnopcbicceeaaa.fnExactDiscsOf
namespace Go.Proofs.Ytfnopcbicceeaaa
theorem fnExactDiscsOf_holds : Rows.FnExactDiscsOfSaid := fnExactDiscsOf.proved
end Go.Proofs.Ytfnopcbicceeaaa
