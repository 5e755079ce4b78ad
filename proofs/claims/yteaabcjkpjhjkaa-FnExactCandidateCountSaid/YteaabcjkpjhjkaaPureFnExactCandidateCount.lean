/- The pure statement of FnExactCandidateCount: for every list, the law answers true. -/
import Derived.Test.YteaabcjkpjhjkaaPureCand
namespace Go.Proofs.Yteaabcjkpjhjkaa.Pure
open Go.RowKit Go.Proofs.Yteaabcjkpjhjkaa.P Go.Proofs.Yteaabcjkpjhjkaa.Lib Go.Proofs.YteaabcjkpjhjkaaW.PrintWords Go.Proofs.YteaabcjkpjhjkaaW.PrintLast
theorem FnExactCandidateCount : laws_FnExactCandidateCount.Pure := by
  intro l hm hb hw
  refine Ev.rounds ?_
  by_cases hl : (l.length : Int) > 1048576
  · refine Ev.congr (fun k => ?_) (Ev.now true)
    unfold laws_FnExactCandidateCount.f; rw [if_pos hl]
  · refine Ev.congr (fun k => by unfold laws_FnExactCandidateCount.f; rw [if_neg hl]) ?_
    refine Ev.bind (toInt64S_ev l (by omega)) ?_
    refine Ev.bind (spec_CandidateCount_ev l (by omega)) ?_
    refine Ev.bind (toInt64S_ev l (by omega)) ?_
    refine Ev.bind (impl_CandidateCount_ev l (by omega)) ?_
    refine ev_pos rfl ?_
    refine Ev.bind (toInt64S_ev l (by omega)) ?_
    refine Ev.bind (eqInt64S_ev l (by omega)) ?_
    exact ev_pos rfl (Ev.now true)
end Go.Proofs.Yteaabcjkpjhjkaa.Pure
