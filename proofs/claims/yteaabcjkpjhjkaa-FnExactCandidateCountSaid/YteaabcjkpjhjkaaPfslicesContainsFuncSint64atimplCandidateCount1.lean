-- Printed by a program of this session (drv.py), by means of the kit's print.py.
import Derived.Test.YteaabcjkpjhjkaaP0
import Derived.Test.YteaabcjkpjhjkaaPfslicesIndexFuncSint64atimplCandidateCount1
import Derived.Test.YteaabcjkpjhjkaaLib
namespace Go.Proofs.Yteaabcjkpjhjkaa.P
open Go.RowKit Go.Proofs.YteaabcjkpjhjkaaW.PrintWords Go.Proofs.YteaabcjkpjhjkaaW.PrintLast Go.Proofs.YteaabcjkpjhjkaaW.PrintMore
attribute [local go_sem] max2_int min2_int max_two min_two max_three min_three max_four min_four   -- for this text's walks alone
set_option linter.unusedVariables false
set_option linter.unusedSimpArgs false

open Go.Proofs.Yteaabcjkpjhjkaa.Lib
/-! ### slices_ContainsFunc_Sint64_at_impl_CandidateCount_1: function 21 at the literal 22 -/
def slices_ContainsFunc_Sint64_at_impl_CandidateCount_1.f (l0 : List Int) : Option Bool := (slices_IndexFunc_Sint64_at_impl_CandidateCount_1.f l0).bind fun i => some (decide (0 ≤ i))
set_option maxHeartbeats 8000000 in
set_option maxRecDepth 100000 in
theorem slices_ContainsFunc_Sint64_at_impl_CandidateCount_1.calls (A0 : Option Addr) (c0 : Nat) (l0 : List Int) (r : Bool) (w : World) (hr0 : Kd.C (Kd.int .i64) w A0 l0.length l0) (hc0 : l0.length ≤ c0) (h : slices_ContainsFunc_Sint64_at_impl_CandidateCount_1.f l0 = some r) :
    Calls Try.prog 21 #[.slice A0 l0.length c0, .func (.func 22) #[] #[]] w fun e w' => e = .returned (.bool r) ∧ Below w.heap.size w w' := by
  obtain ⟨i, hi, h⟩ := Option.bind_eq_some_iff.mp h
  have H := Aside0.mk (Option.some.inj h)
  clear h
  have HI := Aside0.mk hi
  clear hi
  have HR0 := Aside0.mk hr0
  have HC0 := Aside0.mk hc0
  clear hr0 hc0
  go_enter Try.func21, Try.ntmps21
  go_wp2_with fail
  refine (slices_IndexFunc_Sint64_at_impl_CandidateCount_1.calls _ _ _ _ _ HR0.out HC0.out HI.out).mono ?_
  rintro e w' ⟨rfl, hd⟩
  have HB := Aside0.mk hd
  clear hd
  go_wp2
  go_ret
  exact ⟨by rw [← H.out]; rfl, HB.out⟩

end Go.Proofs.Yteaabcjkpjhjkaa.P
