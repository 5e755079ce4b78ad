import Derived.Test.YteaabcjkpjhjkaaPureVec
import Derived.Test.YteaabcjkpjhjkaaPflawsFnExactSupportOf
/- The pure statement of FnExactSupportOf. -/
namespace Go.Proofs.Yteaabcjkpjhjkaa.Pure
open Go.RowKit Go.Proofs.Yteaabcjkpjhjkaa.P Go.Proofs.Yteaabcjkpjhjkaa.Lib Go.Proofs.YteaabcjkpjhjkaaW.PrintWords Go.Proofs.YteaabcjkpjhjkaaW.PrintLast
theorem FnExactSupportOf : laws_FnExactSupportOf.Pure := by
  intro l hm hb hw
  refine Ev.rounds ?_
  by_cases hl : (l.length : Int) > 1048576
  · refine Ev.congr (fun k => ?_) (Ev.now true)
    unfold laws_FnExactSupportOf.f; rw [if_pos hl]
  · have hl1 : l.length ≤ 1048576 := by omega
    have hs := supp_length 0 l
    have he := eqInt64S_ev l (by omega)
    have hes := eqInt64S_ev (supp 0 l) (by omega)
    have hmk := markInt64S_ev (supp 0 l) 1 (by omega) (by omega) (by omega)
    have hml := markInt64S_ev l 1 (by omega) (by omega) (by omega)
    have hh := heldInt64S_ev 1 (supp 0 l).length (by omega) (by omega) (by omega)
    have hj : Ev (fun k => laws_FnExactSupportOf.j0 k l (supp 0 l) (supp 0 l) false) true := by
      refine ev_step (fun k => by unfold laws_FnExactSupportOf.j0; rfl) ?_
      refine ev_neg (by simp) ?_
      refine Ev.bind hmk ?_
      refine Ev.bind hh ?_
      refine ev_neg (by omega) ?_
      refine ev_pos rfl ?_
      refine Ev.bind (toInt64S_ev l (by omega)) ?_
      refine Ev.bind (impl_SupportOf_ev l (by omega)) ?_
      refine Ev.bind hes ?_
      refine ev_pos rfl ?_
      refine Ev.bind hh ?_
      refine ev_neg (by omega) ?_
      refine ev_pos rfl ?_
      exact Ev.now true
    refine Ev.congr (fun k => by unfold laws_FnExactSupportOf.f; rw [if_neg hl]) ?_
    refine Ev.bind (toInt64S_ev l (by omega)) ?_
    refine Ev.bind (spec_SupportOf_ev l (by omega)) ?_
    refine Ev.bind (toInt64S_ev l (by omega)) ?_
    refine Ev.bind (impl_SupportOf_ev l (by omega)) ?_
    refine Ev.bind hes ?_
    refine ev_pos rfl ?_
    refine Ev.bind (toInt64S_ev l (by omega)) ?_
    refine Ev.bind he ?_
    refine ev_pos rfl ?_
    refine Ev.bind hml ?_
    refine ev_neg (by dsimp only; omega) ?_
    refine Ev.bind hes ?_
    exact hj
end Go.Proofs.Yteaabcjkpjhjkaa.Pure
