/- The statement FnExactRelabelTriangulationSaid, proved: part 6 of 7 (texts of this session and of the kit's print, put together and cut to what is used by a program of it). -/
import Derived.Test.YtdgdnnjigigkcaaMFnExactRelabelTriangulation5
import Derived.Deep.Slices
import Derived.ChangeSame
import Derived.ChangeArms
import Derived.WideShapes
import Derived.Lib.SmallJoins
import Derived.ChangeShapes
namespace Go.Proofs.Ytdgdnnjigigkcaa.P
open Go.RowKit Go.Proofs.YtdgdnnjigigkcaaW.PrintWords Go.Proofs.YtdgdnnjigigkcaaW.PrintLast Go.Proofs.YtdgdnnjigigkcaaW.PrintMore
attribute [local go_sem] max2_int min2_int max_two min_two max_three min_three max_four min_four   -- for this text's walks alone
set_option linter.unusedVariables false
set_option linter.unusedSimpArgs false
/-! ### spec_RelabelTriangulation: function 30 -/
def spec_RelabelTriangulation.f (k : Nat) (l0_0 : List (List (SFace))) (l1 : List Int) (l2 : List Int) : Option ((List (List (SFace))) × Int) := (spec_IsTriangulation.f k l0_0).bind fun t103 => (if t103 = true then ((spec_l07Labels.f k l0_0 l1 l2).bind fun t104 => (if t104 = true then ((spec_l07Relabel.f k l0_0 l1 l2).bind fun t105 => (some (t105, 0))) else (some (([] : List (List (SFace))), 2)))) else (some (([] : List (List (SFace))), 1)))
set_option maxHeartbeats 8000000 in
set_option maxRecDepth 100000 in
theorem spec_RelabelTriangulation.calls (k : Nat) (A0_0 : Option Addr) (c0_0 : Nat) (l0_0 : List (List (SFace))) (A1 : Option Addr) (c1 : Nat) (l1 : List Int) (A2 : Option Addr) (c2 : Nat) (l2 : List Int) (r1 : List (List (SFace))) (r2 : Int) (w : World) (hr0_0 : Kd.C (Kd.slice 74 kFace) w A0_0 l0_0.length l0_0) (hc0_0 : l0_0.length ≤ c0_0) (hr1 : Kd.C (Kd.int .i64) w A1 l1.length l1) (hc1 : l1.length ≤ c1) (hr2 : Kd.C (Kd.int .i64) w A2 l2.length l2) (hc2 : l2.length ≤ c2) (h : spec_RelabelTriangulation.f k l0_0 l1 l2 = some (r1, r2)) :
 Calls Try.prog 30 #[.agg #[.slice A0_0 l0_0.length c0_0], .slice A1 l1.length c1, .slice A2 l2.length c2] w fun e w' => ∃ v0_ : Value, e = .returned (.tuple #[.agg #[v0_], .int .i64 r2]) ∧ Kd.S (Kd.slice 74 kFace) 75 w' w.heap.size (fun _ => True) v0_ r1 ∧ Below w.heap.size w w' := by
 have hu28 := Try.underlying28
 have HR0_0 := Aside0.mk hr0_0
 have HC0_0 := Aside0.mk hc0_0
 clear hr0_0 hc0_0
 have HR1 := Aside0.mk hr1
 have HC1 := Aside0.mk hc1
 clear hr1 hc1
 have HR2 := Aside0.mk hr2
 have HC2 := Aside0.mk hc2
 clear hr2 hc2
 have HB := Aside0.mk (Below.refl w.heap.size w)
 have H : ((spec_IsTriangulation.f k l0_0).bind fun t103 => (if t103 = true then ((spec_l07Labels.f k l0_0 l1 l2).bind fun t104 => (if t104 = true then ((spec_l07Relabel.f k l0_0 l1 l2).bind fun t105 => (some (t105, 0))) else (some (([] : List (List (SFace))), 2)))) else (some (([] : List (List (SFace))), 1)))) = some (r1, r2) := h
 clear h
 replace H := ydy.mp H
 obtain ⟨t103, A40, H⟩ := H
 replace H : (if t103 = true then ((spec_l07Labels.f k l0_0 l1 l2).bind fun t104 => (if t104 = true then ((spec_l07Relabel.f k l0_0 l1 l2).bind fun t105 => (some (t105, 0))) else (some (([] : List (List (SFace))), 2)))) else (some (([] : List (List (SFace))), 1))) = some (r1, r2) := H
 have A4 := Aside0.mk A40
 clear A40
 by_cases c5 : t103 = true
 rotate_left
 next =>
  replace c5 := Bool.eq_false_iff.mpr c5
  subst c5
  have H1 : (some (([] : List (List (SFace))), 1)) = some (r1, r2) := by rw [if_neg (show ¬ (false = true) by decide)] at H; exact H
  clear H
  have H := H1
  clear H1
  simp only [Option.some.injEq, Prod.mk.injEq] at H
  obtain ⟨rfl, rfl⟩ := H
  go_enter Try.func30, Try.ntmps30
  go_wp2_with (first | ((with_reducible refine gate_dst (N := 3) rfl ?_); refine box_event ?hg (N := 3) ?hd (cs := #[.slice A0_0 l0_0.length c0_0]) (t := 28) ?hr ?_; (case hd => rfl); (case hg => rfl); (case hr => first | (go_simp; done) | (go_simp; rfl)); intro gb101 hg w28 hbox hb; have n0_ := Aside0.mk (below_step (by repeat (first | (with_reducible first | exact HB.out | apply below_alloc | apply pw_below_drewN | apply below_drew1) | exact HB.out)) hb); have n1_ := Aside0.mk (hbox); have n2_ := Aside0.mk ((by rw [hg]; exact (below_size (by repeat (first | (with_reducible first | exact HB.out | apply below_alloc | apply pw_below_drewN | apply below_drew1) | exact HB.out))) : w.heap.size ≤ gb101)); have n3_ := Aside0.mk ((by rw [hg]; exact (below_size (by repeat (first | (with_reducible first | exact HB.out | apply below_alloc | apply pw_below_drewN | apply below_drew1) | exact HB.out))) : w.heap.size ≤ gb101)); clear HB; have HB := n0_; have BK101 := n1_; have GW101 := n2_; have GE101 := n3_; clear n0_ n1_ n2_ n3_; clear hb hbox hg) | ((with_reducible refine gate_dst (N := 6) rfl ?_); refine box_event ?hg (N := 6) ?hd (cs := #[.slice none 0 0]) (t := 28) ?hr ?_; (case hd => rfl); (case hg => rfl); (case hr => first | (go_simp; done) | (go_simp; rfl)); intro gb102 hg w29 hbox hb; have n0_ := Aside0.mk (blk_below (g := gb101) (o := .cells #[.slice A0_0 l0_0.length c0_0] 28 (0, 0)) (by (with_reducible repeat (first | refine blk_drewN ?_ _ | refine blk_drew ?_ | refine blk_alloc ?_ _)); exact BK101.out) hb); have n1_ := Aside0.mk (below_step (by repeat (first | (with_reducible first | exact HB.out | apply below_alloc | apply pw_below_drewN | apply below_drew1 | refine below_set ?_ GE101.out) | exact HB.out)) hb); have n2_ := Aside0.mk (hbox); have n3_ := Aside0.mk ((by rw [hg]; exact (below_size (by repeat (first | (with_reducible first | exact HB.out | apply below_alloc | apply pw_below_drewN | apply below_drew1 | refine below_set ?_ GE101.out) | exact HB.out))) : w.heap.size ≤ gb102)); have n4_ := Aside0.mk ((by rw [hg]; exact (below_size (by repeat (first | (with_reducible first | exact HB.out | apply below_alloc | apply pw_below_drewN | apply below_drew1 | refine below_set ?_ GE101.out) | exact HB.out))) : w.heap.size ≤ gb102)); have n5_ := Aside0.mk ((by rw [hg]; exact Nat.ne_of_lt (blk_lt (g := gb101) (o := .cells #[.slice A0_0 l0_0.length c0_0] 28 (0, 0)) (by (with_reducible repeat (first | refine blk_drewN ?_ _ | refine blk_drew ?_ | refine blk_alloc ?_ _)); exact BK101.out)) : gb101 ≠ gb102)); have n6_ := Aside0.mk ((by rw [hg]; exact Nat.ne_of_gt (blk_lt (g := gb101) (o := .cells #[.slice A0_0 l0_0.length c0_0] 28 (0, 0)) (by (with_reducible repeat (first | refine blk_drewN ?_ _ | refine blk_drew ?_ | refine blk_alloc ?_ _)); exact BK101.out)) : gb102 ≠ gb101)); clear BK101; clear HB; have BK101 := n0_; have HB := n1_; have BK102 := n2_; have GW102 := n3_; have GE102 := n4_; have NB101_102 := n5_; have NB102_101 := n6_; clear n0_ n1_ n2_ n3_ n4_ n5_ n6_; clear hb hbox hg; have hnb30 := NB101_102.out; have hnc30 := NB102_101.out; have hcz31_0 : w29.cell? ⟨gb101, 0, none⟩ = some (.slice A0_0 l0_0.length c0_0) := (blk_cell BK101.out 0).trans rfl; have hfz31_0 := blk_frozen BK101.out 0) | ((with_reducible refine gate_callee (f := 52) rfl ?_); refine goesL_ (some 9) rfl rfl Try.func52 (by kernel_rfl) rfl #[.agg #[.slice A0_0 l0_0.length c0_0]] rfl (by (try simp only [yiy, yjy, yky]); first | done | rfl | (simp only [yly, ymy]; rfl)) ?_; (with_reducible refine (spec_IsTriangulation.calls k _ _ l0_0 false _ ?side1 ?side2 A4.out).mono ?_); (case side1 => repeat (first | exact (Kd.C_below HR0_0.out HB.out) | (with_reducible refine Kd.C_alloc ?_ _) | (with_reducible refine Kd.C_drewN ?_ _) | (with_reducible refine Kd.C_drew ?_))); (case side2 => exact HC0_0.out); rintro e w32 ⟨rfl, hb⟩; refine ⟨_, rfl, ?_⟩; have n0_ := Aside0.mk (blk_below (g := gb101) (o := .cells #[.slice A0_0 l0_0.length c0_0] 28 (0, 0)) (by (with_reducible repeat (first | refine blk_drewN ?_ _ | refine blk_drew ?_ | refine blk_alloc ?_ _)); exact BK101.out) hb); have n1_ := Aside0.mk (blk_below (g := gb102) (o := .cells #[.slice none 0 0] 28 (0, 0)) (by (with_reducible repeat (first | refine blk_drewN ?_ _ | refine blk_drew ?_ | refine blk_alloc ?_ _)); exact BK102.out) hb); have n2_ := Aside0.mk (below_step (by repeat (first | (with_reducible first | exact HB.out | apply below_alloc | apply pw_below_drewN | apply below_drew1 | refine below_set ?_ GE101.out | refine below_set ?_ GE102.out) | exact HB.out)) hb); clear BK101; clear BK102; clear HB; have BK101 := n0_; have BK102 := n1_; have HB := n2_; clear n0_ n1_ n2_; (try clear hb); (try clear hb2); (try clear hk); (try clear hi); have hcz33_0 : w32.cell? ⟨gb102, 0, none⟩ = some (.slice none 0 0) := (blk_cell BK102.out 0).trans rfl; have hfz33_0 := blk_frozen BK102.out 0))
  refine bodyPost_ret (results_ct rfl _ _ gb102 28 #[.slice none 0 0] (0, 0) _ rfl (by (with_reducible repeat (first | refine blk_drewN ?_ _ | refine blk_drew ?_ | refine blk_alloc ?_ _)); refine blk_put (cs := #[.slice none 0 0]) ?_ 0 _ rfl; (with_reducible repeat (first | refine blk_drewN ?_ _ | refine blk_drew ?_ | refine blk_alloc ?_ _)); exact BK102.out) Try.underlying28 rfl (by kernel_rfl)) rfl ?_
  exact ⟨_, by first | rfl | (simp [errW_none, errW_some] <;> rfl) | (simp [*, errW_none, errW_some] <;> rfl), by first | exact Kd.S_nil _ _ _ _ _ | exact Kd.N_nil _ _ _ _ _ | exact Kd.V_nil _ _ _ _ _ | exact Kd.Q_nil _ _ _ _ _ | exact Kd.R_nil _ _ _ _ _, by repeat (first | (with_reducible first | exact HB.out | apply below_alloc | apply pw_below_drewN | apply below_drew1 | refine below_set ?_ GE101.out | refine below_set ?_ GE102.out) | exact HB.out)⟩
 subst c5
 have H1 : ((spec_l07Labels.f k l0_0 l1 l2).bind fun t104 => (if t104 = true then ((spec_l07Relabel.f k l0_0 l1 l2).bind fun t105 => (some (t105, 0))) else (some (([] : List (List (SFace))), 2)))) = some (r1, r2) := by rw [if_pos rfl] at H; exact H
 clear H
 have H := H1
 clear H1
 replace H := ydy.mp H
 obtain ⟨t104, A60, H⟩ := H
 replace H : (if t104 = true then ((spec_l07Relabel.f k l0_0 l1 l2).bind fun t105 => (some (t105, 0))) else (some (([] : List (List (SFace))), 2))) = some (r1, r2) := H
 have A6 := Aside0.mk A60
 clear A60
 by_cases c7 : t104 = true
 rotate_left
 next =>
  replace c7 := Bool.eq_false_iff.mpr c7
  subst c7
  have H1 : (some (([] : List (List (SFace))), 2)) = some (r1, r2) := by rw [if_neg (show ¬ (false = true) by decide)] at H; exact H
  clear H
  have H := H1
  clear H1
  simp only [Option.some.injEq, Prod.mk.injEq] at H
  obtain ⟨rfl, rfl⟩ := H
  go_enter Try.func30, Try.ntmps30
  go_wp2_with (first | ((with_reducible refine gate_dst (N := 3) rfl ?_); refine box_event ?hg (N := 3) ?hd (cs := #[.slice A0_0 l0_0.length c0_0]) (t := 28) ?hr ?_; (case hd => rfl); (case hg => rfl); (case hr => first | (go_simp; done) | (go_simp; rfl)); intro gb101 hg w20 hbox hb; have n0_ := Aside0.mk (below_step (by repeat (first | (with_reducible first | exact HB.out | apply below_alloc | apply pw_below_drewN | apply below_drew1) | exact HB.out)) hb); have n1_ := Aside0.mk (hbox); have n2_ := Aside0.mk ((by rw [hg]; exact (below_size (by repeat (first | (with_reducible first | exact HB.out | apply below_alloc | apply pw_below_drewN | apply below_drew1) | exact HB.out))) : w.heap.size ≤ gb101)); have n3_ := Aside0.mk ((by rw [hg]; exact (below_size (by repeat (first | (with_reducible first | exact HB.out | apply below_alloc | apply pw_below_drewN | apply below_drew1) | exact HB.out))) : w.heap.size ≤ gb101)); clear HB; have HB := n0_; have BK101 := n1_; have GW101 := n2_; have GE101 := n3_; clear n0_ n1_ n2_ n3_; clear hb hbox hg) | ((with_reducible refine gate_dst (N := 6) rfl ?_); refine box_event ?hg (N := 6) ?hd (cs := #[.slice none 0 0]) (t := 28) ?hr ?_; (case hd => rfl); (case hg => rfl); (case hr => first | (go_simp; done) | (go_simp; rfl)); intro gb102 hg w21 hbox hb; have n0_ := Aside0.mk (blk_below (g := gb101) (o := .cells #[.slice A0_0 l0_0.length c0_0] 28 (0, 0)) (by (with_reducible repeat (first | refine blk_drewN ?_ _ | refine blk_drew ?_ | refine blk_alloc ?_ _)); exact BK101.out) hb); have n1_ := Aside0.mk (below_step (by repeat (first | (with_reducible first | exact HB.out | apply below_alloc | apply pw_below_drewN | apply below_drew1 | refine below_set ?_ GE101.out) | exact HB.out)) hb); have n2_ := Aside0.mk (hbox); have n3_ := Aside0.mk ((by rw [hg]; exact (below_size (by repeat (first | (with_reducible first | exact HB.out | apply below_alloc | apply pw_below_drewN | apply below_drew1 | refine below_set ?_ GE101.out) | exact HB.out))) : w.heap.size ≤ gb102)); have n4_ := Aside0.mk ((by rw [hg]; exact (below_size (by repeat (first | (with_reducible first | exact HB.out | apply below_alloc | apply pw_below_drewN | apply below_drew1 | refine below_set ?_ GE101.out) | exact HB.out))) : w.heap.size ≤ gb102)); have n5_ := Aside0.mk ((by rw [hg]; exact Nat.ne_of_lt (blk_lt (g := gb101) (o := .cells #[.slice A0_0 l0_0.length c0_0] 28 (0, 0)) (by (with_reducible repeat (first | refine blk_drewN ?_ _ | refine blk_drew ?_ | refine blk_alloc ?_ _)); exact BK101.out)) : gb101 ≠ gb102)); have n6_ := Aside0.mk ((by rw [hg]; exact Nat.ne_of_gt (blk_lt (g := gb101) (o := .cells #[.slice A0_0 l0_0.length c0_0] 28 (0, 0)) (by (with_reducible repeat (first | refine blk_drewN ?_ _ | refine blk_drew ?_ | refine blk_alloc ?_ _)); exact BK101.out)) : gb102 ≠ gb101)); clear BK101; clear HB; have BK101 := n0_; have HB := n1_; have BK102 := n2_; have GW102 := n3_; have GE102 := n4_; have NB101_102 := n5_; have NB102_101 := n6_; clear n0_ n1_ n2_ n3_ n4_ n5_ n6_; clear hb hbox hg; have hnb22 := NB101_102.out; have hnc22 := NB102_101.out; have hcz23_0 : w21.cell? ⟨gb101, 0, none⟩ = some (.slice A0_0 l0_0.length c0_0) := (blk_cell BK101.out 0).trans rfl; have hfz23_0 := blk_frozen BK101.out 0) | ((with_reducible refine gate_callee (f := 52) rfl ?_); refine goesL_ (some 9) rfl rfl Try.func52 (by kernel_rfl) rfl #[.agg #[.slice A0_0 l0_0.length c0_0]] rfl (by (try simp only [yiy, yjy, yky]); first | done | rfl | (simp only [yly, ymy]; rfl)) ?_; (with_reducible refine (spec_IsTriangulation.calls k _ _ l0_0 true _ ?side1 ?side2 A4.out).mono ?_); (case side1 => repeat (first | exact (Kd.C_below HR0_0.out HB.out) | (with_reducible refine Kd.C_alloc ?_ _) | (with_reducible refine Kd.C_drewN ?_ _) | (with_reducible refine Kd.C_drew ?_))); (case side2 => exact HC0_0.out); rintro e w24 ⟨rfl, hb⟩; refine ⟨_, rfl, ?_⟩; have n0_ := Aside0.mk (blk_below (g := gb101) (o := .cells #[.slice A0_0 l0_0.length c0_0] 28 (0, 0)) (by (with_reducible repeat (first | refine blk_drewN ?_ _ | refine blk_drew ?_ | refine blk_alloc ?_ _)); exact BK101.out) hb); have n1_ := Aside0.mk (blk_below (g := gb102) (o := .cells #[.slice none 0 0] 28 (0, 0)) (by (with_reducible repeat (first | refine blk_drewN ?_ _ | refine blk_drew ?_ | refine blk_alloc ?_ _)); exact BK102.out) hb); have n2_ := Aside0.mk (below_step (by repeat (first | (with_reducible first | exact HB.out | apply below_alloc | apply pw_below_drewN | apply below_drew1 | refine below_set ?_ GE101.out | refine below_set ?_ GE102.out) | exact HB.out)) hb); clear BK101; clear BK102; clear HB; have BK101 := n0_; have BK102 := n1_; have HB := n2_; clear n0_ n1_ n2_; (try clear hb); (try clear hb2); (try clear hk); (try clear hi); have hcz25_0 : w24.cell? ⟨gb101, 0, none⟩ = some (.slice A0_0 l0_0.length c0_0) := (blk_cell BK101.out 0).trans rfl; have hfz25_0 := blk_frozen BK101.out 0) | ((with_reducible refine gate_callee (f := 84) rfl ?_); refine goesL_ (some 15) rfl rfl Try.func84 (by kernel_rfl) rfl #[.agg #[.slice A0_0 l0_0.length c0_0], .slice A1 l1.length c1, .slice A2 l2.length c2] rfl (by (try simp only [yiy, yjy, yky]); first | done | rfl | (simp only [yly, ymy]; rfl)) ?_; (with_reducible refine (spec_l07Labels.calls k _ _ l0_0 _ _ l1 _ _ l2 false _ ?side1 ?side2 ?side3 ?side4 ?side5 ?side6 A6.out).mono ?_); (case side1 => repeat (first | exact (Kd.C_below HR0_0.out HB.out) | (with_reducible refine Kd.C_alloc ?_ _) | (with_reducible refine Kd.C_drewN ?_ _) | (with_reducible refine Kd.C_drew ?_))); (case side2 => exact HC0_0.out); (case side3 => repeat (first | exact (Kd.C_below HR1.out HB.out) | (with_reducible refine Kd.C_alloc ?_ _) | (with_reducible refine Kd.C_drewN ?_ _) | (with_reducible refine Kd.C_drew ?_))); (case side4 => exact HC1.out); (case side5 => repeat (first | exact (Kd.C_below HR2.out HB.out) | (with_reducible refine Kd.C_alloc ?_ _) | (with_reducible refine Kd.C_drewN ?_ _) | (with_reducible refine Kd.C_drew ?_))); (case side6 => exact HC2.out); rintro e w26 ⟨rfl, hb⟩; refine ⟨_, rfl, ?_⟩; have n0_ := Aside0.mk (blk_below (g := gb101) (o := .cells #[.slice A0_0 l0_0.length c0_0] 28 (0, 0)) (by (with_reducible repeat (first | refine blk_drewN ?_ _ | refine blk_drew ?_ | refine blk_alloc ?_ _)); exact BK101.out) hb); have n1_ := Aside0.mk (blk_below (g := gb102) (o := .cells #[.slice none 0 0] 28 (0, 0)) (by (with_reducible repeat (first | refine blk_drewN ?_ _ | refine blk_drew ?_ | refine blk_alloc ?_ _)); exact BK102.out) hb); have n2_ := Aside0.mk (below_step (by repeat (first | (with_reducible first | exact HB.out | apply below_alloc | apply pw_below_drewN | apply below_drew1 | refine below_set ?_ GE101.out | refine below_set ?_ GE102.out) | exact HB.out)) hb); clear BK101; clear BK102; clear HB; have BK101 := n0_; have BK102 := n1_; have HB := n2_; clear n0_ n1_ n2_; (try clear hb); (try clear hb2); (try clear hk); (try clear hi); have hcz27_0 : w26.cell? ⟨gb102, 0, none⟩ = some (.slice none 0 0) := (blk_cell BK102.out 0).trans rfl; have hfz27_0 := blk_frozen BK102.out 0))
  refine bodyPost_ret (results_ct rfl _ _ gb102 28 #[.slice none 0 0] (0, 0) _ rfl (by (with_reducible repeat (first | refine blk_drewN ?_ _ | refine blk_drew ?_ | refine blk_alloc ?_ _)); refine blk_put (cs := #[.slice none 0 0]) ?_ 0 _ rfl; (with_reducible repeat (first | refine blk_drewN ?_ _ | refine blk_drew ?_ | refine blk_alloc ?_ _)); exact BK102.out) Try.underlying28 rfl (by kernel_rfl)) rfl ?_
  exact ⟨_, by first | rfl | (simp [errW_none, errW_some] <;> rfl) | (simp [*, errW_none, errW_some] <;> rfl), by first | exact Kd.S_nil _ _ _ _ _ | exact Kd.N_nil _ _ _ _ _ | exact Kd.V_nil _ _ _ _ _ | exact Kd.Q_nil _ _ _ _ _ | exact Kd.R_nil _ _ _ _ _, by repeat (first | (with_reducible first | exact HB.out | apply below_alloc | apply pw_below_drewN | apply below_drew1 | refine below_set ?_ GE101.out | refine below_set ?_ GE102.out) | exact HB.out)⟩
 subst c7
 have H1 : ((spec_l07Relabel.f k l0_0 l1 l2).bind fun t105 => (some (t105, 0))) = some (r1, r2) := by rw [if_pos rfl] at H; exact H
 clear H
 have H := H1
 clear H1
 replace H := ydy.mp H
 obtain ⟨t105, A80, H⟩ := H
 replace H : (some (t105, 0)) = some (r1, r2) := H
 have A8 := Aside0.mk A80
 clear A80
 simp only [Option.some.injEq, Prod.mk.injEq] at H
 obtain ⟨rfl, rfl⟩ := H
 go_enter Try.func30, Try.ntmps30
 go_wp2_with (first | ((with_reducible refine gate_dst (N := 3) rfl ?_); refine box_event ?hg (N := 3) ?hd (cs := #[.slice A0_0 l0_0.length c0_0]) (t := 28) ?hr ?_; (case hd => rfl); (case hg => rfl); (case hr => first | (go_simp; done) | (go_simp; rfl)); intro gb101 hg w9 hbox hb; have n0_ := Aside0.mk (below_step (by repeat (first | (with_reducible first | exact HB.out | apply below_alloc | apply pw_below_drewN | apply below_drew1) | exact HB.out)) hb); have n1_ := Aside0.mk (hbox); have n2_ := Aside0.mk ((by rw [hg]; exact (below_size (by repeat (first | (with_reducible first | exact HB.out | apply below_alloc | apply pw_below_drewN | apply below_drew1) | exact HB.out))) : w.heap.size ≤ gb101)); have n3_ := Aside0.mk ((by rw [hg]; exact (below_size (by repeat (first | (with_reducible first | exact HB.out | apply below_alloc | apply pw_below_drewN | apply below_drew1) | exact HB.out))) : w.heap.size ≤ gb101)); clear HB; have HB := n0_; have BK101 := n1_; have GW101 := n2_; have GE101 := n3_; clear n0_ n1_ n2_ n3_; clear hb hbox hg) | ((with_reducible refine gate_dst (N := 6) rfl ?_); refine box_event ?hg (N := 6) ?hd (cs := #[.slice none 0 0]) (t := 28) ?hr ?_; (case hd => rfl); (case hg => rfl); (case hr => first | (go_simp; done) | (go_simp; rfl)); intro gb102 hg w10 hbox hb; have n0_ := Aside0.mk (blk_below (g := gb101) (o := .cells #[.slice A0_0 l0_0.length c0_0] 28 (0, 0)) (by (with_reducible repeat (first | refine blk_drewN ?_ _ | refine blk_drew ?_ | refine blk_alloc ?_ _)); exact BK101.out) hb); have n1_ := Aside0.mk (below_step (by repeat (first | (with_reducible first | exact HB.out | apply below_alloc | apply pw_below_drewN | apply below_drew1 | refine below_set ?_ GE101.out) | exact HB.out)) hb); have n2_ := Aside0.mk (hbox); have n3_ := Aside0.mk ((by rw [hg]; exact (below_size (by repeat (first | (with_reducible first | exact HB.out | apply below_alloc | apply pw_below_drewN | apply below_drew1 | refine below_set ?_ GE101.out) | exact HB.out))) : w.heap.size ≤ gb102)); have n4_ := Aside0.mk ((by rw [hg]; exact (below_size (by repeat (first | (with_reducible first | exact HB.out | apply below_alloc | apply pw_below_drewN | apply below_drew1 | refine below_set ?_ GE101.out) | exact HB.out))) : w.heap.size ≤ gb102)); have n5_ := Aside0.mk ((by rw [hg]; exact Nat.ne_of_lt (blk_lt (g := gb101) (o := .cells #[.slice A0_0 l0_0.length c0_0] 28 (0, 0)) (by (with_reducible repeat (first | refine blk_drewN ?_ _ | refine blk_drew ?_ | refine blk_alloc ?_ _)); exact BK101.out)) : gb101 ≠ gb102)); have n6_ := Aside0.mk ((by rw [hg]; exact Nat.ne_of_gt (blk_lt (g := gb101) (o := .cells #[.slice A0_0 l0_0.length c0_0] 28 (0, 0)) (by (with_reducible repeat (first | refine blk_drewN ?_ _ | refine blk_drew ?_ | refine blk_alloc ?_ _)); exact BK101.out)) : gb102 ≠ gb101)); clear BK101; clear HB; have BK101 := n0_; have HB := n1_; have BK102 := n2_; have GW102 := n3_; have GE102 := n4_; have NB101_102 := n5_; have NB102_101 := n6_; clear n0_ n1_ n2_ n3_ n4_ n5_ n6_; clear hb hbox hg; have hnb11 := NB101_102.out; have hnc11 := NB102_101.out; have hcz12_0 : w10.cell? ⟨gb101, 0, none⟩ = some (.slice A0_0 l0_0.length c0_0) := (blk_cell BK101.out 0).trans rfl; have hfz12_0 := blk_frozen BK101.out 0) | ((with_reducible refine gate_callee (f := 52) rfl ?_); refine goesL_ (some 9) rfl rfl Try.func52 (by kernel_rfl) rfl #[.agg #[.slice A0_0 l0_0.length c0_0]] rfl (by (try simp only [yiy, yjy, yky]); first | done | rfl | (simp only [yly, ymy]; rfl)) ?_; (with_reducible refine (spec_IsTriangulation.calls k _ _ l0_0 true _ ?side1 ?side2 A4.out).mono ?_); (case side1 => repeat (first | exact (Kd.C_below HR0_0.out HB.out) | (with_reducible refine Kd.C_alloc ?_ _) | (with_reducible refine Kd.C_drewN ?_ _) | (with_reducible refine Kd.C_drew ?_))); (case side2 => exact HC0_0.out); rintro e w13 ⟨rfl, hb⟩; refine ⟨_, rfl, ?_⟩; have n0_ := Aside0.mk (blk_below (g := gb101) (o := .cells #[.slice A0_0 l0_0.length c0_0] 28 (0, 0)) (by (with_reducible repeat (first | refine blk_drewN ?_ _ | refine blk_drew ?_ | refine blk_alloc ?_ _)); exact BK101.out) hb); have n1_ := Aside0.mk (blk_below (g := gb102) (o := .cells #[.slice none 0 0] 28 (0, 0)) (by (with_reducible repeat (first | refine blk_drewN ?_ _ | refine blk_drew ?_ | refine blk_alloc ?_ _)); exact BK102.out) hb); have n2_ := Aside0.mk (below_step (by repeat (first | (with_reducible first | exact HB.out | apply below_alloc | apply pw_below_drewN | apply below_drew1 | refine below_set ?_ GE101.out | refine below_set ?_ GE102.out) | exact HB.out)) hb); clear BK101; clear BK102; clear HB; have BK101 := n0_; have BK102 := n1_; have HB := n2_; clear n0_ n1_ n2_; (try clear hb); (try clear hb2); (try clear hk); (try clear hi); have hcz14_0 : w13.cell? ⟨gb101, 0, none⟩ = some (.slice A0_0 l0_0.length c0_0) := (blk_cell BK101.out 0).trans rfl; have hfz14_0 := blk_frozen BK101.out 0) | ((with_reducible refine gate_callee (f := 84) rfl ?_); refine goesL_ (some 15) rfl rfl Try.func84 (by kernel_rfl) rfl #[.agg #[.slice A0_0 l0_0.length c0_0], .slice A1 l1.length c1, .slice A2 l2.length c2] rfl (by (try simp only [yiy, yjy, yky]); first | done | rfl | (simp only [yly, ymy]; rfl)) ?_; (with_reducible refine (spec_l07Labels.calls k _ _ l0_0 _ _ l1 _ _ l2 true _ ?side1 ?side2 ?side3 ?side4 ?side5 ?side6 A6.out).mono ?_); (case side1 => repeat (first | exact (Kd.C_below HR0_0.out HB.out) | (with_reducible refine Kd.C_alloc ?_ _) | (with_reducible refine Kd.C_drewN ?_ _) | (with_reducible refine Kd.C_drew ?_))); (case side2 => exact HC0_0.out); (case side3 => repeat (first | exact (Kd.C_below HR1.out HB.out) | (with_reducible refine Kd.C_alloc ?_ _) | (with_reducible refine Kd.C_drewN ?_ _) | (with_reducible refine Kd.C_drew ?_))); (case side4 => exact HC1.out); (case side5 => repeat (first | exact (Kd.C_below HR2.out HB.out) | (with_reducible refine Kd.C_alloc ?_ _) | (with_reducible refine Kd.C_drewN ?_ _) | (with_reducible refine Kd.C_drew ?_))); (case side6 => exact HC2.out); rintro e w15 ⟨rfl, hb⟩; refine ⟨_, rfl, ?_⟩; have n0_ := Aside0.mk (blk_below (g := gb101) (o := .cells #[.slice A0_0 l0_0.length c0_0] 28 (0, 0)) (by (with_reducible repeat (first | refine blk_drewN ?_ _ | refine blk_drew ?_ | refine blk_alloc ?_ _)); exact BK101.out) hb); have n1_ := Aside0.mk (blk_below (g := gb102) (o := .cells #[.slice none 0 0] 28 (0, 0)) (by (with_reducible repeat (first | refine blk_drewN ?_ _ | refine blk_drew ?_ | refine blk_alloc ?_ _)); exact BK102.out) hb); have n2_ := Aside0.mk (below_step (by repeat (first | (with_reducible first | exact HB.out | apply below_alloc | apply pw_below_drewN | apply below_drew1 | refine below_set ?_ GE101.out | refine below_set ?_ GE102.out) | exact HB.out)) hb); clear BK101; clear BK102; clear HB; have BK101 := n0_; have BK102 := n1_; have HB := n2_; clear n0_ n1_ n2_; (try clear hb); (try clear hb2); (try clear hk); (try clear hi); have hcz16_0 : w15.cell? ⟨gb101, 0, none⟩ = some (.slice A0_0 l0_0.length c0_0) := (blk_cell BK101.out 0).trans rfl; have hfz16_0 := blk_frozen BK101.out 0) | ((with_reducible refine gate_callee (f := 85) rfl ?_); refine goesL_ (some 21) rfl rfl Try.func85 (by kernel_rfl) rfl #[.agg #[.slice A0_0 l0_0.length c0_0], .slice A1 l1.length c1, .slice A2 l2.length c2] rfl (by (try simp only [yiy, yjy, yky]); first | done | rfl | (simp only [yly, ymy]; rfl)) ?_; (with_reducible refine (spec_l07Relabel.calls k _ _ l0_0 _ _ l1 _ _ l2 t105 _ ?side1 ?side2 ?side3 ?side4 ?side5 ?side6 A8.out).mono ?_); (case side1 => repeat (first | exact (Kd.C_below HR0_0.out HB.out) | (with_reducible refine Kd.C_alloc ?_ _) | (with_reducible refine Kd.C_drewN ?_ _) | (with_reducible refine Kd.C_drew ?_))); (case side2 => exact HC0_0.out); (case side3 => repeat (first | exact (Kd.C_below HR1.out HB.out) | (with_reducible refine Kd.C_alloc ?_ _) | (with_reducible refine Kd.C_drewN ?_ _) | (with_reducible refine Kd.C_drew ?_))); (case side4 => exact HC1.out); (case side5 => repeat (first | exact (Kd.C_below HR2.out HB.out) | (with_reducible refine Kd.C_alloc ?_ _) | (with_reducible refine Kd.C_drewN ?_ _) | (with_reducible refine Kd.C_drew ?_))); (case side6 => exact HC2.out); rintro e w17 ⟨v106, rfl, ho0, hb⟩; refine ⟨_, rfl, ?_⟩; have n0_ := Aside0.mk (Kd.S_lower ho0 (below_size (by repeat (first | (with_reducible first | exact HB.out | apply below_alloc | apply pw_below_drewN | apply below_drew1 | refine below_set ?_ GE101.out | refine below_set ?_ GE102.out) | exact HB.out)))); have n1_ := Aside0.mk (blk_below (g := gb101) (o := .cells #[.slice A0_0 l0_0.length c0_0] 28 (0, 0)) (by (with_reducible repeat (first | refine blk_drewN ?_ _ | refine blk_drew ?_ | refine blk_alloc ?_ _)); exact BK101.out) hb); have n2_ := Aside0.mk (blk_below (g := gb102) (o := .cells #[.slice none 0 0] 28 (0, 0)) (by (with_reducible repeat (first | refine blk_drewN ?_ _ | refine blk_drew ?_ | refine blk_alloc ?_ _)); exact BK102.out) hb); have n3_ := Aside0.mk (below_step (by repeat (first | (with_reducible first | exact HB.out | apply below_alloc | apply pw_below_drewN | apply below_drew1 | refine below_set ?_ GE101.out | refine below_set ?_ GE102.out) | exact HB.out)) hb); clear BK101; clear BK102; clear HB; have HO107 := n0_; have BK101 := n1_; have BK102 := n2_; have HB := n3_; clear n0_ n1_ n2_ n3_; (try clear hb); (try clear hb2); (try clear hk); (try clear hi); (try clear ho0); obtain ⟨Ao18, co18, eo18⟩ := Kd.S_slice HO107.out; subst eo18; have hcz19_0 : w17.cell? ⟨gb102, 0, none⟩ = some (.slice none 0 0) := (blk_cell BK102.out 0).trans rfl; have hfz19_0 := blk_frozen BK102.out 0))
 refine bodyPost_ret (results_ct rfl _ _ gb102 28 #[.slice Ao18 t105.length co18] (0, 0) _ rfl (by (with_reducible repeat (first | refine blk_drewN ?_ _ | refine blk_drew ?_ | refine blk_alloc ?_ _)); refine blk_put (cs := #[.slice none 0 0]) ?_ 0 _ rfl; (with_reducible repeat (first | refine blk_drewN ?_ _ | refine blk_drew ?_ | refine blk_alloc ?_ _)); exact BK102.out) Try.underlying28 rfl (by kernel_rfl)) rfl ?_
 exact ⟨_, by first | rfl | (simp [errW_none, errW_some] <;> rfl) | (simp [*, errW_none, errW_some] <;> rfl), by (with_reducible repeat (first | apply Kd.S_alloc | apply Kd.S_drewN | apply Kd.S_drew)); exact Kd.S_mono (Kd.S_far (p := ⟨gb102, 0, none⟩) (Kd.S_types HO107.out BK102.out (by decide)) (fun _ hk => hk.2) (.slice Ao18 t105.length co18)) (fun _ hk => trivial), by repeat (first | (with_reducible first | exact HB.out | apply below_alloc | apply pw_below_drewN | apply below_drew1 | refine below_set ?_ GE101.out | refine below_set ?_ GE102.out) | exact HB.out)⟩
end Go.Proofs.Ytdgdnnjigigkcaa.P
namespace Go.Proofs.Ytdgdnnjigigkcaa.Lib
open Go.RowKit Go.Proofs.YtdgdnnjigigkcaaW.PrintWords
set_option linter.unusedVariables false
section
variable {α : Type} {d : Kd α} {e b lo hi lo2 hi2 T : Nat} {w w' W : World} {v : Value} {xs ys : List α}
/-- A row of rows of the walk's own (all of it made from b on), its blocks from lo on and before hi. -/
def ObS (d : Kd α) (e b : Nat) (w : World) (lo hi : Nat) (v : Value) (xs : List α) : Prop := hi ≤ w.heap.size ∧ Kd.S d e w b (fun k => lo ≤ k ∧ k < hi) v xs
/-- The same for a row of scalars. -/
def ObR (d : Kd α) (e b : Nat) (w : World) (lo hi : Nat) (v : Value) (xs : List α) : Prop := hi ≤ w.heap.size ∧ Kd.R d e w b (fun k => lo ≤ k ∧ k < hi) v xs
theorem size_set (w : World) (g i : Nat) (u : Value) : w.heap.size ≤ (w.setCell ⟨g, i, none⟩ u).heap.size := ((Below.refl 0 w).setCell (Nat.zero_le _) u).size
theorem ObS.made (ho : Kd.S d e w' W.heap.size (fun _ => True) v xs) (hb : Below W.heap.size W w') (hT : T ≤ W.heap.size) (hB : b ≤ W.heap.size) : ∃ lo hi, (T ≤ lo ∧ lo ≤ hi) ∧ hi ≤ w'.heap.size ∧ ObS d e b w' lo hi v xs :=
  ⟨W.heap.size, w'.heap.size, ⟨hT, hb.size⟩, yoy _, yoy _, Kd.S_lower (Kd.S_mono (Kd.S_bound ho) (fun k hk => ⟨hk.2.1, hk.2.2.1⟩)) hB⟩
theorem ObR.made (ho : Kd.R d e w' W.heap.size (fun _ => True) v xs) (hb : Below W.heap.size W w') (hT : T ≤ W.heap.size) (hB : b ≤ W.heap.size) : ∃ lo hi, (T ≤ lo ∧ lo ≤ hi) ∧ hi ≤ w'.heap.size ∧ ObR d e b w' lo hi v xs :=
  ⟨W.heap.size, w'.heap.size, ⟨hT, hb.size⟩, yoy _, yoy _, Kd.R_lower (Kd.R_mono (Kd.R_bound ho) (fun k hk => ⟨hk.2.1, hk.2.2.1⟩)) hB⟩
theorem ObS.below (h : ObS d e b w lo hi v xs) (hb : Below w.heap.size w w') : ObS d e b w' lo hi v xs := ⟨Nat.le_trans h.1 hb.size, Kd.S_below h.2 hb⟩
theorem ObR.below (h : ObR d e b w lo hi v xs) (hb : Below w.heap.size w w') : ObR d e b w' lo hi v xs := ⟨Nat.le_trans h.1 hb.size, Kd.R_below h.2 hb⟩
theorem ObS.drew (h : ObS d e b w lo hi v xs) : ObS d e b w.drew lo hi v xs := ⟨h.1, Kd.S_drew h.2⟩
theorem ObR.drew (h : ObR d e b w lo hi v xs) : ObR d e b w.drew lo hi v xs := ⟨h.1, Kd.R_drew h.2⟩
theorem ObS.far {g i : Nat} (h : ObS d e b w lo hi v xs) (hg : g < lo ∨ hi ≤ g) (u : Value) : ObS d e b (w.setCell ⟨g, i, none⟩ u) lo hi v xs :=
  ⟨Nat.le_trans h.1 (size_set _ _ _ _), Kd.S_far h.2 (fun k hk => by show k ≠ g; have := hk.1; have := hk.2; omega) u⟩
theorem ObR.far {g i : Nat} (h : ObR d e b w lo hi v xs) (hg : g < lo ∨ hi ≤ g) (u : Value) : ObR d e b (w.setCell ⟨g, i, none⟩ u) lo hi v xs :=
  ⟨Nat.le_trans h.1 (size_set _ _ _ _), Kd.R_far h.2 (fun k hk => by show k ≠ g; have := hk.1; have := hk.2; omega) u⟩
theorem ObS.kept (h : ObS d e b w lo hi v xs) (hk : Kept w w' (fun k => lo2 ≤ k ∧ k < hi2)) (hd : hi ≤ lo2 ∨ hi2 ≤ lo) : ObS d e b w' lo hi v xs :=
  ⟨Nat.le_trans h.1 hk.1, Kd.S_kept h.2 hk (fun k h1 h2 => by have := h1.1; have := h1.2; have := h2.1; have := h2.2; omega)⟩
theorem ObR.kept (h : ObR d e b w lo hi v xs) (hk : Kept w w' (fun k => lo2 ≤ k ∧ k < hi2)) (hd : hi ≤ lo2 ∨ hi2 ≤ lo) : ObR d e b w' lo hi v xs :=
  ⟨Nat.le_trans h.1 hk.1, Kd.R_kept h.2 hk (fun k h1 h2 => by have := h1.1; have := h1.2; have := h2.1; have := h2.2; omega)⟩
theorem ObS.slice (h : ObS d e b w lo hi v xs) : ∃ A c, v = .slice A xs.length c := Kd.S_slice h.2
theorem ObR.slice (h : ObR d e b w lo hi v xs) : ∃ A c, v = .slice A xs.length c := Kd.R_slice h.2
theorem ObS.reads {A : Option Addr} {n c : Nat} (h : ObS d e b w lo hi (.slice A n c) xs) : n = xs.length ∧ n ≤ c ∧ d.C w A xs.length xs := Kd.S_reads' h.2
theorem ObR.reads {A : Option Addr} {n c : Nat} (h : ObR d e b w lo hi (.slice A n c) xs) : n = xs.length ∧ n ≤ c ∧ d.C w A xs.length xs := Kd.R_reads' h.2
theorem ObS.room {A : Option Addr} {n c : Nat} (h : ObS d e b w lo hi (.slice A n c) xs) : xs.length ≤ c := by have := h.reads; omega
theorem ObR.room {A : Option Addr} {n c : Nat} (h : ObR d e b w lo hi (.slice A n c) xs) : xs.length ≤ c := by have := h.reads; omega
theorem ObR.marked {ok' : Nat → Prop} (h : ObR d e b w lo hi v xs) (hE : d.E = []) (hy : Kd.R d e w' b ok' v ys) (hs : w.heap.size ≤ w'.heap.size) : ObR d e b w' lo hi v ys :=
  ⟨Nat.le_trans h.1 hs, Kd.R_reok hE hy (fun k e => h.2.1 k e)⟩
theorem ObS.marked (h : ObS d e b w lo hi v xs) (hy : Kd.S d e w' b (fun k => lo ≤ k ∧ k < hi) v ys) (hs : w.heap.size ≤ w'.heap.size) : ObS d e b w' lo hi v ys := ⟨Nat.le_trans h.1 hs, hy⟩
theorem ObR.range (h : ObR d e b w lo hi v xs) (hk : Kept w w' (fun k_ => some k_ = v.ownBlock)) : Kept w w' (fun k => lo ≤ k ∧ k < hi) := hk.mono (fun k e => h.2.1 k e.symm)
theorem ObS.row (h : ObS d e b w lo hi v xs) : Kd.S d e w b (fun k => lo ≤ k ∧ k < hi) v xs := h.2
theorem ObR.row (h : ObR d e b w lo hi v xs) : Kd.R d e w b (fun k => lo ≤ k ∧ k < hi) v xs := h.2
theorem below_of_drewN {n : Nat} (h : w' = w.drewN n) : Below w.heap.size w w' := h ▸ pw_below_drewN (Below.refl _ _) n
theorem top_below (h : T ≤ w.heap.size) (hb : Below w.heap.size w w') : T ≤ w'.heap.size := Nat.le_trans h hb.size
theorem top_drew (h : T ≤ w.heap.size) : T ≤ w.drew.heap.size := h
theorem top_far {g i : Nat} {u : Value} (h : T ≤ w.heap.size) : T ≤ (w.setCell ⟨g, i, none⟩ u).heap.size := Nat.le_trans h (size_set _ _ _ _)
end
end Go.Proofs.Ytdgdnnjigigkcaa.Lib
namespace Go.Proofs.Ytdgdnnjigigkcaa.P
open Go.RowKit Go.Proofs.YtdgdnnjigigkcaaW.PrintWords Go.Proofs.YtdgdnnjigigkcaaW.PrintLast Go.Proofs.YtdgdnnjigigkcaaW.PrintMore
attribute [local go_sem] max2_int min2_int max_two min_two max_three min_three max_four min_four   -- for this text's walks alone
set_option linter.unusedVariables false
set_option linter.unusedSimpArgs false
open Go.Proofs.Ytdgdnnjigigkcaa.Lib
/-! ### laws_FnExactRelabelTriangulation: function 8 -/
def laws_FnExactRelabelTriangulation.f (k : Nat) (l0 : List (List (SLawFace))) (l1 : List Int) (l2 : List Int) : Option Bool := if (l1.length : Int) > 1048576 then some true else if (l2.length : Int) > 1048576 then some true else (laws_szTriangulation.f k l0 1048576).bind fun t4 => if t4 < 0 then some true else (laws_toTriangulation.f k l0).bind fun t7 => (laws_toInt64S.f k l1).bind fun t10 => (laws_toInt64S.f k l2).bind fun t13 => (spec_RelabelTriangulation.f k t7 t10 t13).bind fun bt7 => (laws_toTriangulation.f k l0).bind fun t20 => (laws_toInt64S.f k l1).bind fun t23 => (laws_toInt64S.f k l2).bind fun t26 => (impl_RelabelTriangulation.f k t20 t23 t26).bind fun bt11 => (laws_eqTriangulation.f k bt11.1 bt7.1).bind fun t33 => if t33 = true then if bt11.2 = bt7.2 then (laws_toTriangulation.f k l0).bind fun t36 => (laws_eqTriangulation.f k t20 t36).bind fun t39 => if t39 = true then (laws_toInt64S.f k l1).bind fun t41 => (laws_eqInt64S.f k t23 t41).bind fun t44 => if t44 = true then (laws_toInt64S.f k l2).bind fun t46 => (laws_eqInt64S.f k t26 t46).bind fun t49 => if t49 = true then (laws_markTriangulation.f k t20 1).bind fun bt24 => (laws_markInt64S.f k t23 bt24.1).bind fun bt25 => (laws_markInt64S.f k t26 bt25.1).bind fun bt26 => if bt26.1 < 0 then some false else (laws_eqTriangulation.f k bt11.1 bt7.1).bind fun t61 => if t61 = true then if bt11.2 = bt7.2 then (laws_markTriangulation.f k bt11.1 1).bind fun bt31 => (laws_heldTriangulation.f k bt31.2 1).bind fun t67 => if t67 < 0 then some false else if t67 = bt31.1 then (laws_toTriangulation.f k l0).bind fun t71 => (laws_toInt64S.f k l1).bind fun t74 => (laws_toInt64S.f k l2).bind fun t77 => (impl_RelabelTriangulation.f k t71 t74 t77).bind fun bt38 => (laws_eqTriangulation.f k bt38.1 bt7.1).bind fun t84 => if t84 = true then if bt38.2 = bt7.2 then (laws_heldTriangulation.f k bt31.2 1).bind fun t87 => if t87 < 0 then some false else if t87 = bt31.1 then some true else some false else some false else some false else some false else some false else some false else some false else some false else some false else some false else some false
set_option maxHeartbeats 8000000 in
set_option maxRecDepth 100000 in
theorem laws_FnExactRelabelTriangulation.calls (k : Nat) (A0 : Option Addr) (c0 : Nat) (l0 : List (List (SLawFace))) (A1 : Option Addr) (c1 : Nat) (l1 : List Int) (A2 : Option Addr) (c2 : Nat) (l2 : List Int) (w : World) (hr0 : Kd.C (Kd.slice 133 kLawFace) w A0 l0.length l0) (hc0 : l0.length ≤ c0) (hr1 : Kd.C (Kd.int .i64) w A1 l1.length l1) (hc1 : l1.length ≤ c1) (hr2 : Kd.C (Kd.int .i64) w A2 l2.length l2) (hc2 : l2.length ≤ c2) (h : laws_FnExactRelabelTriangulation.f k l0 l1 l2 = some true) :
 Calls Try.prog 8 #[.agg #[.slice A0 l0.length c0], .slice A1 l1.length c1, .slice A2 l2.length c2] w fun e w' => e = .returned (.bool true) ∧ Below w.heap.size w w' := by
 have hu24 := Try.underlying24
 have hu28 := Try.underlying28
 have HR0 := Aside0.mk hr0
 have HC0 := Aside0.mk hc0
 have HR1 := Aside0.mk hr1
 have HC1 := Aside0.mk hc1
 have HR2 := Aside0.mk hr2
 have HC2 := Aside0.mk hc2
 clear hr0 hc0 hr1 hc1 hr2 hc2
 have HB := Aside0.mk (Below.refl w.heap.size w)
 have HT := Aside0.mk (yoy w.heap.size)
 have H := h
 clear h
 unfold laws_FnExactRelabelTriangulation.f at H
 by_cases cC1 : (l1.length : Int) > 1048576
 next =>
  have dC1 : decide ((l1.length : Int) > 1048576) = true := ygy cC1; have e0C1 : decide (1048576 < (l1.length : Int)) = true := ygy (by omega); have e1C1 : decide (1048576 < l1.length) = true := ygy (by omega)
  clear cC1 H
  go_enter Try.func8, Try.ntmps8
  try go_wp2_with (first | ((with_reducible refine gate_dst (N := 3) rfl ?_); refine box_event ?hg (N := 3) ?hd (cs := #[.slice A0 l0.length c0]) (t := 24) ?hr ?_; (case hd => rfl); (case hg => rfl); (case hr => first | (go_simp; done) | (go_simp; rfl)); intro g3 hg w1 hbox hb; have HNg3 := Aside0.mk (by rw [hg]; exact HT.out : w.heap.size ≤ g3); have HXg3 := Aside0.mk (show g3 + 1 ≤ w1.heap.size from blk_lt hbox); have nHB := Aside0.mk (below_step HB.out hb); have nHT := Aside0.mk (top_below HT.out hb); clear HB HT  ; have HB := nHB; have HT := nHT; clear nHB nHT  ; clear HT; have HT := HXg3; clear HXg3; have BKg3 := Aside0.mk hbox; clear hg hbox hb; have hczg3 : w1.cell? ⟨g3, 0, none⟩ = some (.slice A0 l0.length c0) := (blk_cell BKg3.out 0).trans rfl; have hfzg3 := blk_frozen BKg3.out 0))
  go_ret
  exact ⟨by first | rfl | (simp <;> rfl), HB.out⟩
 rw [if_neg cC1] at H
 have dC1 : decide ((l1.length : Int) > 1048576) = false := yhy cC1; have e0C1 : decide (1048576 < (l1.length : Int)) = false := yhy (by omega); have e1C1 : decide (1048576 < l1.length) = false := yhy (by omega)
 clear cC1
 by_cases cC2 : (l2.length : Int) > 1048576
 next =>
  have dC2 : decide ((l2.length : Int) > 1048576) = true := ygy cC2; have e0C2 : decide (1048576 < (l2.length : Int)) = true := ygy (by omega); have e1C2 : decide (1048576 < l2.length) = true := ygy (by omega)
  clear cC2 H
  go_enter Try.func8, Try.ntmps8
  try go_wp2_with (first | ((with_reducible refine gate_dst (N := 3) rfl ?_); refine box_event ?hg (N := 3) ?hd (cs := #[.slice A0 l0.length c0]) (t := 24) ?hr ?_; (case hd => rfl); (case hg => rfl); (case hr => first | (go_simp; done) | (go_simp; rfl)); intro g3 hg w1 hbox hb; have HNg3 := Aside0.mk (by rw [hg]; exact HT.out : w.heap.size ≤ g3); have HXg3 := Aside0.mk (show g3 + 1 ≤ w1.heap.size from blk_lt hbox); have nHB := Aside0.mk (below_step HB.out hb); have nHT := Aside0.mk (top_below HT.out hb); clear HB HT  ; have HB := nHB; have HT := nHT; clear nHB nHT  ; clear HT; have HT := HXg3; clear HXg3; have BKg3 := Aside0.mk hbox; clear hg hbox hb; have hczg3 : w1.cell? ⟨g3, 0, none⟩ = some (.slice A0 l0.length c0) := (blk_cell BKg3.out 0).trans rfl; have hfzg3 := blk_frozen BKg3.out 0))
  go_ret
  exact ⟨by first | rfl | (simp <;> rfl), HB.out⟩
 rw [if_neg cC2] at H
 have dC2 : decide ((l2.length : Int) > 1048576) = false := yhy cC2; have e0C2 : decide (1048576 < (l2.length : Int)) = false := yhy (by omega); have e1C2 : decide (1048576 < l2.length) = false := yhy (by omega)
 clear cC2
 obtain ⟨t4, H30, H⟩ := ydy.mp H
 have H3 := Aside0.mk H30
 clear H30
 by_cases cC5 : t4 < 0
 next =>
  have dC5 : decide (t4 < 0) = true := ygy cC5
  clear cC5 H
  go_enter Try.func8, Try.ntmps8
  try go_wp2_with (first | ((with_reducible refine gate_dst (N := 3) rfl ?_); refine box_event ?hg (N := 3) ?hd (cs := #[.slice A0 l0.length c0]) (t := 24) ?hr ?_; (case hd => rfl); (case hg => rfl); (case hr => first | (go_simp; done) | (go_simp; rfl)); intro g3 hg w1 hbox hb; have HNg3 := Aside0.mk (by rw [hg]; exact HT.out : w.heap.size ≤ g3); have HXg3 := Aside0.mk (show g3 + 1 ≤ w1.heap.size from blk_lt hbox); have nHB := Aside0.mk (below_step HB.out hb); have nHT := Aside0.mk (top_below HT.out hb); clear HB HT  ; have HB := nHB; have HT := nHT; clear nHB nHT  ; clear HT; have HT := HXg3; clear HXg3; have BKg3 := Aside0.mk hbox; clear hg hbox hb; have hczg3 : w1.cell? ⟨g3, 0, none⟩ = some (.slice A0 l0.length c0) := (blk_cell BKg3.out 0).trans rfl; have hfzg3 := blk_frozen BKg3.out 0) | ((with_reducible refine gate_callee (f := 15) rfl ?_); refine goesL_ (some 28) rfl rfl Try.func15 (by kernel_rfl) rfl #[.agg #[.slice A0 l0.length c0], .int .i64 1048576] rfl (by (try simp only [yiy, yjy, yky]); first | done | rfl | (simp only [yly, ymy]; rfl)) ?_; (with_reducible refine (laws_szTriangulation.calls k _ _ l0 1048576 t4 _ ?side1 ?side2 H3.out).mono ?_); (case side1 => exact Kd.C_below HR0.out HB.out); (case side2 => exact HC0.out); rintro e w2 ⟨rfl, hb⟩; refine ⟨_, rfl, ?_⟩; (try clear hczg3 hfzg3); have nBg3 := Aside0.mk (blk_below (g := g3) (o := .cells #[.slice A0 l0.length c0] 24 (0, 0)) BKg3.out hb); have nHB := Aside0.mk (below_step HB.out hb); have nHT := Aside0.mk (top_below HT.out hb); clear HB HT  BKg3; have BKg3 := nBg3; have HB := nHB; have HT := nHT; clear nHB nHT  nBg3; (try clear hb); (try clear hnd); have hczg3 : w2.cell? ⟨g3, 0, none⟩ = some (.slice A0 l0.length c0) := (blk_cell BKg3.out 0).trans rfl; have hfzg3 := blk_frozen BKg3.out 0))
  go_ret
  exact ⟨by first | rfl | (simp <;> rfl), HB.out⟩
 rw [if_neg cC5] at H
 have dC5 : decide (t4 < 0) = false := yhy cC5
 clear cC5
 obtain ⟨t7, H60, H⟩ := ydy.mp H
 have H6 := Aside0.mk H60
 clear H60
 obtain ⟨t10, H90, H⟩ := ydy.mp H
 have H9 := Aside0.mk H90
 clear H90
 obtain ⟨t13, H120, H⟩ := ydy.mp H
 have H12 := Aside0.mk H120
 clear H120
 obtain ⟨⟨t16, t18⟩, H150, H⟩ := ydy.mp H
 have H15 := Aside0.mk H150
 clear H150
 obtain ⟨t20, H190, H⟩ := ydy.mp H
 have H19 := Aside0.mk H190
 clear H190
 obtain ⟨t23, H220, H⟩ := ydy.mp H
 have H22 := Aside0.mk H220
 clear H220
 obtain ⟨t26, H250, H⟩ := ydy.mp H
 have H25 := Aside0.mk H250
 clear H250
 obtain ⟨⟨t29, t31⟩, H280, H⟩ := ydy.mp H
 have H28 := Aside0.mk H280
 clear H280
 obtain ⟨t33, H320, H⟩ := ydy.mp H
 obtain rfl : t33 = true := by cases t33 with | true => rfl | false => exact absurd H (by simp)
 replace H := H
 have H32 := Aside0.mk H320
 clear H320
 rw [if_pos rfl] at H
 have cC34 : t31 = t18 := by by_cases c_ : t31 = t18; exact c_; rw [if_neg c_] at H; cases H
 rw [if_pos cC34] at H
 have dC34 : (t31 != t18) = false := by rw [cC34]; exact bne_self_eq_false _
 clear cC34
 obtain ⟨t36, H350, H⟩ := ydy.mp H
 have H35 := Aside0.mk H350
 clear H350
 obtain ⟨t39, H380, H⟩ := ydy.mp H
 obtain rfl : t39 = true := by cases t39 with | true => rfl | false => exact absurd H (by simp)
 replace H := H
 have H38 := Aside0.mk H380
 clear H380
 rw [if_pos rfl] at H
 obtain ⟨t41, H400, H⟩ := ydy.mp H
 have H40 := Aside0.mk H400
 clear H400
 obtain ⟨t44, H430, H⟩ := ydy.mp H
 obtain rfl : t44 = true := by cases t44 with | true => rfl | false => exact absurd H (by simp)
 replace H := H
 have H43 := Aside0.mk H430
 clear H430
 rw [if_pos rfl] at H
 obtain ⟨t46, H450, H⟩ := ydy.mp H
 have H45 := Aside0.mk H450
 clear H450
 obtain ⟨t49, H480, H⟩ := ydy.mp H
 obtain rfl : t49 = true := by cases t49 with | true => rfl | false => exact absurd H (by simp)
 replace H := H
 have H48 := Aside0.mk H480
 clear H480
 rw [if_pos rfl] at H
 obtain ⟨⟨m51, y52⟩, H500, H⟩ := ydy.mp H
 have H50 := Aside0.mk H500
 clear H500
 dsimp only at H
 obtain ⟨⟨m54, y55⟩, H530, H⟩ := ydy.mp H
 have H53 := Aside0.mk H530
 clear H530
 dsimp only at H
 obtain ⟨⟨m57, y58⟩, H560, H⟩ := ydy.mp H
 have H56 := Aside0.mk H560
 clear H560
 dsimp only at H
 have cC59 : ¬ (m57 < 0) := fun c_ => by rw [if_pos c_] at H; cases H
 rw [if_neg cC59] at H
 have dC59 : decide (m57 < 0) = false := yhy cC59
 clear cC59
 obtain ⟨t61, H600, H⟩ := ydy.mp H
 obtain rfl : t61 = true := by cases t61 with | true => rfl | false => exact absurd H (by simp)
 replace H := H
 have H60 := Aside0.mk H600
 clear H600
 rw [if_pos rfl] at H
 have cC62 : t31 = t18 := by by_cases c_ : t31 = t18; exact c_; rw [if_neg c_] at H; cases H
 rw [if_pos cC62] at H
 have dC62 : (t31 != t18) = false := by rw [cC62]; exact bne_self_eq_false _
 clear cC62
 obtain ⟨⟨m64, y65⟩, H630, H⟩ := ydy.mp H
 have H63 := Aside0.mk H630
 clear H630
 dsimp only at H
 obtain ⟨t67, H660, H⟩ := ydy.mp H
 have H66 := Aside0.mk H660
 clear H660
 have cC68 : ¬ (t67 < 0) := fun c_ => by rw [if_pos c_] at H; cases H
 rw [if_neg cC68] at H
 have dC68 : decide (t67 < 0) = false := yhy cC68
 clear cC68
 have cC69 : t67 = m64 := by by_cases c_ : t67 = m64; exact c_; rw [if_neg c_] at H; cases H
 rw [if_pos cC69] at H
 have dC69 : (t67 != m64) = false := by rw [cC69]; exact bne_self_eq_false _
 clear cC69
 obtain ⟨t71, H700, H⟩ := ydy.mp H
 have H70 := Aside0.mk H700
 clear H700
 obtain ⟨t74, H730, H⟩ := ydy.mp H
 have H73 := Aside0.mk H730
 clear H730
 obtain ⟨t77, H760, H⟩ := ydy.mp H
 have H76 := Aside0.mk H760
 clear H760
 obtain ⟨⟨t80, t82⟩, H790, H⟩ := ydy.mp H
 have H79 := Aside0.mk H790
 clear H790
 obtain ⟨t84, H830, H⟩ := ydy.mp H
 obtain rfl : t84 = true := by cases t84 with | true => rfl | false => exact absurd H (by simp)
 replace H := H
 have H83 := Aside0.mk H830
 clear H830
 rw [if_pos rfl] at H
 have cC85 : t82 = t18 := by by_cases c_ : t82 = t18; exact c_; rw [if_neg c_] at H; cases H
 rw [if_pos cC85] at H
 have dC85 : (t82 != t18) = false := by rw [cC85]; exact bne_self_eq_false _
 clear cC85
 obtain ⟨t87, H860, H⟩ := ydy.mp H
 have H86 := Aside0.mk H860
 clear H860
 have cC88 : ¬ (t87 < 0) := fun c_ => by rw [if_pos c_] at H; cases H
 rw [if_neg cC88] at H
 have dC88 : decide (t87 < 0) = false := yhy cC88
 clear cC88
 have cC89 : t87 = m64 := by by_cases c_ : t87 = m64; exact c_; rw [if_neg c_] at H; cases H
 rw [if_pos cC89] at H
 have dC89 : (t87 != m64) = false := by rw [cC89]; exact bne_self_eq_false _
 clear cC89
 clear H
 go_enter Try.func8, Try.ntmps8
 try go_wp2_with (first | ((with_reducible refine gate_dst (N := 3) rfl ?_); refine box_event ?hg (N := 3) ?hd (cs := #[.slice A0 l0.length c0]) (t := 24) ?hr ?_; (case hd => rfl); (case hg => rfl); (case hr => first | (go_simp; done) | (go_simp; rfl)); intro g3 hg w1 hbox hb; have HNg3 := Aside0.mk (by rw [hg]; exact HT.out : w.heap.size ≤ g3); have HXg3 := Aside0.mk (show g3 + 1 ≤ w1.heap.size from blk_lt hbox); have nHB := Aside0.mk (below_step HB.out hb); have nHT := Aside0.mk (top_below HT.out hb); clear HB HT  ; have HB := nHB; have HT := nHT; clear nHB nHT  ; clear HT; have HT := HXg3; clear HXg3; have BKg3 := Aside0.mk hbox; clear hg hbox hb; have hczg3 : w1.cell? ⟨g3, 0, none⟩ = some (.slice A0 l0.length c0) := (blk_cell BKg3.out 0).trans rfl; have hfzg3 := blk_frozen BKg3.out 0) | ((with_reducible refine gate_callee (f := 15) rfl ?_); refine goesL_ (some 28) rfl rfl Try.func15 (by kernel_rfl) rfl #[.agg #[.slice A0 l0.length c0], .int .i64 1048576] rfl (by (try simp only [yiy, yjy, yky]); first | done | rfl | (simp only [yly, ymy]; rfl)) ?_; (with_reducible refine (laws_szTriangulation.calls k _ _ l0 1048576 t4 _ ?side1 ?side2 H3.out).mono ?_); (case side1 => exact Kd.C_below HR0.out HB.out); (case side2 => exact HC0.out); rintro e w2 ⟨rfl, hb⟩; refine ⟨_, rfl, ?_⟩; (try clear hczg3 hfzg3); have nBg3 := Aside0.mk (blk_below (g := g3) (o := .cells #[.slice A0 l0.length c0] 24 (0, 0)) BKg3.out hb); have nHB := Aside0.mk (below_step HB.out hb); have nHT := Aside0.mk (top_below HT.out hb); clear HB HT  BKg3; have BKg3 := nBg3; have HB := nHB; have HT := nHT; clear nHB nHT  nBg3; (try clear hb); (try clear hnd); have hczg3 : w2.cell? ⟨g3, 0, none⟩ = some (.slice A0 l0.length c0) := (blk_cell BKg3.out 0).trans rfl; have hfzg3 := blk_frozen BKg3.out 0) | ((with_reducible refine gate_callee (f := 17) rfl ?_); refine goesL_ (some 33) rfl rfl Try.func17 (by kernel_rfl) rfl #[.agg #[.slice A0 l0.length c0]] rfl (by (try simp only [yiy, yjy, yky]); first | done | rfl | (simp only [yly, ymy]; rfl)) ?_; (with_reducible refine (laws_toTriangulation.calls k _ _ l0 t7 _ ?side1 ?side2 H6.out).mono ?_); (case side1 => exact Kd.C_below HR0.out HB.out); (case side2 => exact HC0.out); rintro e w3 ⟨vo8, rfl, ho0, hb⟩; refine ⟨_, rfl, ?_⟩; (try clear hczg3 hfzg3); obtain ⟨loo8, hio8, hno8⟩ := ObS.made ho0 hb HT.out (below_size HB.out); have nBg3 := Aside0.mk (blk_below (g := g3) (o := .cells #[.slice A0 l0.length c0] 24 (0, 0)) BKg3.out hb); have nHB := Aside0.mk (below_step HB.out hb); have nHT := Aside0.mk (top_below HT.out hb); clear HB HT  BKg3; have BKg3 := nBg3; have HB := nHB; have HT := nHT; clear nHB nHT  nBg3; have HNo8 := Aside0.mk hno8.1; clear HT; have HT := Aside0.mk hno8.2.1; have HOo8 := Aside0.mk hno8.2.2; clear hno8 ho0; obtain ⟨Ao8, co8, eeo8⟩ := HOo8.out.slice; subst eeo8; (try clear hb); (try clear hnd); have hczg3 : w3.cell? ⟨g3, 0, none⟩ = some (.slice A0 l0.length c0) := (blk_cell BKg3.out 0).trans rfl; have hfzg3 := blk_frozen BKg3.out 0) | ((with_reducible refine gate_callee (f := 31) rfl ?_); refine goesL_ (some 35) rfl rfl Try.func31 (by kernel_rfl) rfl #[.slice A1 l1.length c1] rfl (by (try simp only [yiy, yjy, yky]); first | done | rfl | (simp only [yly, ymy]; rfl)) ?_; (with_reducible refine (laws_toInt64S.calls k _ _ l1 t10 _ ?side1 ?side2 H9.out).mono ?_); (case side1 => exact Kd.C_below HR1.out HB.out); (case side2 => exact HC1.out); rintro e w4 ⟨vo11, rfl, ho0, hb⟩; refine ⟨_, rfl, ?_⟩; (try clear hczg3 hfzg3); obtain ⟨loo11, hio11, hno11⟩ := ObR.made ho0 hb HT.out (below_size HB.out); have nOo8 := Aside0.mk (ObS.below HOo8.out hb); have nBg3 := Aside0.mk (blk_below (g := g3) (o := .cells #[.slice A0 l0.length c0] 24 (0, 0)) BKg3.out hb); have nHB := Aside0.mk (below_step HB.out hb); have nHT := Aside0.mk (top_below HT.out hb); clear HB HT HOo8 BKg3; have HOo8 := nOo8; have BKg3 := nBg3; have HB := nHB; have HT := nHT; clear nHB nHT nOo8 nBg3; have HNo11 := Aside0.mk hno11.1; clear HT; have HT := Aside0.mk hno11.2.1; have HOo11 := Aside0.mk hno11.2.2; clear hno11 ho0; obtain ⟨Ao11, co11, eeo11⟩ := HOo11.out.slice; subst eeo11; (try clear hb); (try clear hnd); have hczg3 : w4.cell? ⟨g3, 0, none⟩ = some (.slice A0 l0.length c0) := (blk_cell BKg3.out 0).trans rfl; have hfzg3 := blk_frozen BKg3.out 0) | ((with_reducible refine gate_callee (f := 31) rfl ?_); refine goesL_ (some 37) rfl rfl Try.func31 (by kernel_rfl) rfl #[.slice A2 l2.length c2] rfl (by (try simp only [yiy, yjy, yky]); first | done | rfl | (simp only [yly, ymy]; rfl)) ?_; (with_reducible refine (laws_toInt64S.calls k _ _ l2 t13 _ ?side1 ?side2 H12.out).mono ?_); (case side1 => exact Kd.C_below HR2.out HB.out); (case side2 => exact HC2.out); rintro e w5 ⟨vo14, rfl, ho0, hb⟩; refine ⟨_, rfl, ?_⟩; (try clear hczg3 hfzg3); obtain ⟨loo14, hio14, hno14⟩ := ObR.made ho0 hb HT.out (below_size HB.out); have nOo8 := Aside0.mk (ObS.below HOo8.out hb); have nOo11 := Aside0.mk (ObR.below HOo11.out hb); have nBg3 := Aside0.mk (blk_below (g := g3) (o := .cells #[.slice A0 l0.length c0] 24 (0, 0)) BKg3.out hb); have nHB := Aside0.mk (below_step HB.out hb); have nHT := Aside0.mk (top_below HT.out hb); clear HB HT HOo8 HOo11 BKg3; have HOo8 := nOo8; have HOo11 := nOo11; have BKg3 := nBg3; have HB := nHB; have HT := nHT; clear nHB nHT nOo8 nOo11 nBg3; have HNo14 := Aside0.mk hno14.1; clear HT; have HT := Aside0.mk hno14.2.1; have HOo14 := Aside0.mk hno14.2.2; clear hno14 ho0; obtain ⟨Ao14, co14, eeo14⟩ := HOo14.out.slice; subst eeo14; (try clear hb); (try clear hnd); have hczg3 : w5.cell? ⟨g3, 0, none⟩ = some (.slice A0 l0.length c0) := (blk_cell BKg3.out 0).trans rfl; have hfzg3 := blk_frozen BKg3.out 0) | ((with_reducible refine gate_callee (f := 30) rfl ?_); refine goesL_ (some 38) rfl rfl Try.func30 (by kernel_rfl) rfl #[.agg #[.slice Ao8 t7.length co8], .slice Ao11 t10.length co11, .slice Ao14 t13.length co14] rfl (by (try simp only [yiy, yjy, yky]); first | done | rfl | (simp only [yly, ymy]; rfl)) ?_; (with_reducible refine (spec_RelabelTriangulation.calls k _ _ t7 _ _ t10 _ _ t13 t16 t18 _ ?side1 ?side2 ?side3 ?side4 ?side5 ?side6 H15.out).mono ?_); (case side1 => exact (ObS.reads HOo8.out).2.2); (case side2 => exact ObS.room HOo8.out); (case side3 => exact (ObR.reads HOo11.out).2.2); (case side4 => exact ObR.room HOo11.out); (case side5 => exact (ObR.reads HOo14.out).2.2); (case side6 => exact ObR.room HOo14.out); rintro e w6 ⟨vo17, rfl, ho0, hb⟩; refine ⟨_, rfl, ?_⟩; (try clear hczg3 hfzg3); obtain ⟨loo17, hio17, hno17⟩ := ObS.made ho0 hb HT.out (below_size HB.out); have nOo8 := Aside0.mk (ObS.below HOo8.out hb); have nOo11 := Aside0.mk (ObR.below HOo11.out hb); have nOo14 := Aside0.mk (ObR.below HOo14.out hb); have nBg3 := Aside0.mk (blk_below (g := g3) (o := .cells #[.slice A0 l0.length c0] 24 (0, 0)) BKg3.out hb); have nHB := Aside0.mk (below_step HB.out hb); have nHT := Aside0.mk (top_below HT.out hb); clear HB HT HOo8 HOo11 HOo14 BKg3; have HOo8 := nOo8; have HOo11 := nOo11; have HOo14 := nOo14; have BKg3 := nBg3; have HB := nHB; have HT := nHT; clear nHB nHT nOo8 nOo11 nOo14 nBg3; have HNo17 := Aside0.mk hno17.1; clear HT; have HT := Aside0.mk hno17.2.1; have HOo17 := Aside0.mk hno17.2.2; clear hno17 ho0; obtain ⟨Ao17, co17, eeo17⟩ := HOo17.out.slice; subst eeo17; (try clear hb); (try clear hnd); have hczg3 : w6.cell? ⟨g3, 0, none⟩ = some (.slice A0 l0.length c0) := (blk_cell BKg3.out 0).trans rfl; have hfzg3 := blk_frozen BKg3.out 0) | ((with_reducible refine gate_dst (N := 8) rfl ?_); refine box_event ?hg (N := 8) ?hd (cs := #[.slice none 0 0]) (t := 28) ?hr ?_; (case hd => rfl); (case hg => rfl); (case hr => first | (go_simp; done) | (go_simp; rfl)); intro g8 hg w7 hbox hb; (try clear hczg3 hfzg3); have HNg8 := Aside0.mk (by rw [hg]; exact HT.out : hio17 ≤ g8); have HXg8 := Aside0.mk (show g8 + 1 ≤ w7.heap.size from blk_lt hbox); have nOo8 := Aside0.mk (ObS.below HOo8.out hb); have nOo11 := Aside0.mk (ObR.below HOo11.out hb); have nOo14 := Aside0.mk (ObR.below HOo14.out hb); have nOo17 := Aside0.mk (ObS.below HOo17.out hb); have nBg3 := Aside0.mk (blk_below (g := g3) (o := .cells #[.slice A0 l0.length c0] 24 (0, 0)) BKg3.out hb); have nHB := Aside0.mk (below_step HB.out hb); have nHT := Aside0.mk (top_below HT.out hb); clear HB HT HOo8 HOo11 HOo14 HOo17 BKg3; have HOo8 := nOo8; have HOo11 := nOo11; have HOo14 := nOo14; have HOo17 := nOo17; have BKg3 := nBg3; have HB := nHB; have HT := nHT; clear nHB nHT nOo8 nOo11 nOo14 nOo17 nBg3; clear HT; have HT := HXg8; clear HXg8; have BKg8 := Aside0.mk hbox; clear hg hbox hb; have hnbg8_g3 : g8 ≠ g3 := (by have := HNg3.out; have := HNo8.out; have := HNo11.out; have := HNo14.out; have := HNo17.out; have := HNg8.out; omega); have hnbg3_g8 : g3 ≠ g8 := (by have := HNg3.out; have := HNo8.out; have := HNo11.out; have := HNo14.out; have := HNo17.out; have := HNg8.out; omega); have hczg3 : w7.cell? ⟨g3, 0, none⟩ = some (.slice A0 l0.length c0) := (blk_cell BKg3.out 0).trans rfl; have hfzg3 := blk_frozen BKg3.out 0; have hczg8 : w7.cell? ⟨g8, 0, none⟩ = some (.slice none 0 0) := (blk_cell BKg8.out 0).trans rfl; have hfzg8 := blk_frozen BKg8.out 0) | ((with_reducible refine gate_callee (f := 17) rfl ?_); refine goesL_ (some 42) rfl rfl Try.func17 (by kernel_rfl) rfl #[.agg #[.slice A0 l0.length c0]] rfl (by (try simp only [yiy, yjy, yky]); first | done | rfl | (simp only [yly, ymy]; rfl)) ?_; (with_reducible refine (laws_toTriangulation.calls k _ _ l0 t20 _ ?side1 ?side2 H19.out).mono ?_); (case side1 => exact Kd.C_below HR0.out (below_set HB.out (show w.heap.size ≤ g8 from (by have := HNg3.out; have := HNo8.out; have := HNo11.out; have := HNo14.out; have := HNo17.out; have := HNg8.out; omega)))); (case side2 => exact HC0.out); rintro e w8 ⟨vo21, rfl, ho0, hb⟩; refine ⟨_, rfl, ?_⟩; (try clear hczg3 hfzg3 hczg8 hfzg8); obtain ⟨loo21, hio21, hno21⟩ := ObS.made ho0 hb (top_far HT.out) (below_size (below_set HB.out (show w.heap.size ≤ g8 from (by have := HNg3.out; have := HNo8.out; have := HNo11.out; have := HNo14.out; have := HNo17.out; have := HNg8.out; omega)))); have nOo8 := Aside0.mk (ObS.below (ObS.far (g := g8) (i := 0) HOo8.out (by have := HNg3.out; have := HNo8.out; have := HNo11.out; have := HNo14.out; have := HNo17.out; have := HNg8.out; omega) _) hb); have nOo11 := Aside0.mk (ObR.below (ObR.far (g := g8) (i := 0) HOo11.out (by have := HNg3.out; have := HNo8.out; have := HNo11.out; have := HNo14.out; have := HNo17.out; have := HNg8.out; omega) _) hb); have nOo14 := Aside0.mk (ObR.below (ObR.far (g := g8) (i := 0) HOo14.out (by have := HNg3.out; have := HNo8.out; have := HNo11.out; have := HNo14.out; have := HNo17.out; have := HNg8.out; omega) _) hb); have nOo17 := Aside0.mk (ObS.below (ObS.far (g := g8) (i := 0) HOo17.out (by have := HNg3.out; have := HNo8.out; have := HNo11.out; have := HNo14.out; have := HNo17.out; have := HNg8.out; omega) _) hb); have nBg3 := Aside0.mk (blk_below (g := g3) (o := .cells #[.slice A0 l0.length c0] 24 (0, 0)) (blk_far (p := ⟨g8, 0, none⟩) BKg3.out (show g3 ≠ g8 from (by have := HNg3.out; have := HNo8.out; have := HNo11.out; have := HNo14.out; have := HNo17.out; have := HNg8.out; omega)) _) hb); have nBg8 := Aside0.mk (blk_below (g := g8) (o := .cells #[.slice Ao17 t16.length co17] 28 (0, 0)) (blk_put (cs := #[.slice none 0 0]) BKg8.out 0 _ rfl) hb); have nHB := Aside0.mk (below_step (below_set HB.out (show w.heap.size ≤ g8 from (by have := HNg3.out; have := HNo8.out; have := HNo11.out; have := HNo14.out; have := HNo17.out; have := HNg8.out; omega))) hb); have nHT := Aside0.mk (top_below (top_far HT.out) hb); clear HB HT HOo8 HOo11 HOo14 HOo17 BKg3 BKg8; have HOo8 := nOo8; have HOo11 := nOo11; have HOo14 := nOo14; have HOo17 := nOo17; have BKg3 := nBg3; have BKg8 := nBg8; have HB := nHB; have HT := nHT; clear nHB nHT nOo8 nOo11 nOo14 nOo17 nBg3 nBg8; have HNo21 := Aside0.mk hno21.1; clear HT; have HT := Aside0.mk hno21.2.1; have HOo21 := Aside0.mk hno21.2.2; clear hno21 ho0; obtain ⟨Ao21, co21, eeo21⟩ := HOo21.out.slice; subst eeo21; (try clear hb); (try clear hnd); have hczg3 : w8.cell? ⟨g3, 0, none⟩ = some (.slice A0 l0.length c0) := (blk_cell BKg3.out 0).trans rfl; have hfzg3 := blk_frozen BKg3.out 0; have hczg8 : w8.cell? ⟨g8, 0, none⟩ = some (.slice Ao17 t16.length co17) := (blk_cell BKg8.out 0).trans rfl; have hfzg8 := blk_frozen BKg8.out 0) | ((with_reducible refine gate_dst (N := 10) rfl ?_); refine box_event ?hg (N := 10) ?hd (cs := #[.slice none 0 0]) (t := 28) ?hr ?_; (case hd => rfl); (case hg => rfl); (case hr => first | (go_simp; done) | (go_simp; rfl)); intro g10 hg w9 hbox hb; (try clear hczg3 hfzg3 hczg8 hfzg8); have HNg10 := Aside0.mk (by rw [hg]; exact HT.out : hio21 ≤ g10); have HXg10 := Aside0.mk (show g10 + 1 ≤ w9.heap.size from blk_lt hbox); have nOo8 := Aside0.mk (ObS.below HOo8.out hb); have nOo11 := Aside0.mk (ObR.below HOo11.out hb); have nOo14 := Aside0.mk (ObR.below HOo14.out hb); have nOo17 := Aside0.mk (ObS.below HOo17.out hb); have nOo21 := Aside0.mk (ObS.below HOo21.out hb); have nBg3 := Aside0.mk (blk_below (g := g3) (o := .cells #[.slice A0 l0.length c0] 24 (0, 0)) BKg3.out hb); have nBg8 := Aside0.mk (blk_below (g := g8) (o := .cells #[.slice Ao17 t16.length co17] 28 (0, 0)) BKg8.out hb); have nHB := Aside0.mk (below_step HB.out hb); have nHT := Aside0.mk (top_below HT.out hb); clear HB HT HOo8 HOo11 HOo14 HOo17 HOo21 BKg3 BKg8; have HOo8 := nOo8; have HOo11 := nOo11; have HOo14 := nOo14; have HOo17 := nOo17; have HOo21 := nOo21; have BKg3 := nBg3; have BKg8 := nBg8; have HB := nHB; have HT := nHT; clear nHB nHT nOo8 nOo11 nOo14 nOo17 nOo21 nBg3 nBg8; clear HT; have HT := HXg10; clear HXg10; have BKg10 := Aside0.mk hbox; clear hg hbox hb; have hnbg10_g3 : g10 ≠ g3 := (by have := HNg3.out; have := HNo8.out; have := HNo11.out; have := HNo14.out; have := HNo17.out; have := HNg8.out; have := HNo21.out; have := HNg10.out; omega); have hnbg3_g10 : g3 ≠ g10 := (by have := HNg3.out; have := HNo8.out; have := HNo11.out; have := HNo14.out; have := HNo17.out; have := HNg8.out; have := HNo21.out; have := HNg10.out; omega); have hnbg10_g8 : g10 ≠ g8 := (by have := HNg3.out; have := HNo8.out; have := HNo11.out; have := HNo14.out; have := HNo17.out; have := HNg8.out; have := HNo21.out; have := HNg10.out; omega); have hnbg8_g10 : g8 ≠ g10 := (by have := HNg3.out; have := HNo8.out; have := HNo11.out; have := HNo14.out; have := HNo17.out; have := HNg8.out; have := HNo21.out; have := HNg10.out; omega); have hczg3 : w9.cell? ⟨g3, 0, none⟩ = some (.slice A0 l0.length c0) := (blk_cell BKg3.out 0).trans rfl; have hfzg3 := blk_frozen BKg3.out 0; have hczg8 : w9.cell? ⟨g8, 0, none⟩ = some (.slice Ao17 t16.length co17) := (blk_cell BKg8.out 0).trans rfl; have hfzg8 := blk_frozen BKg8.out 0; have hczg10 : w9.cell? ⟨g10, 0, none⟩ = some (.slice none 0 0) := (blk_cell BKg10.out 0).trans rfl; have hfzg10 := blk_frozen BKg10.out 0) | ((with_reducible refine gate_callee (f := 31) rfl ?_); refine goesL_ (some 44) rfl rfl Try.func31 (by kernel_rfl) rfl #[.slice A1 l1.length c1] rfl (by (try simp only [yiy, yjy, yky]); first | done | rfl | (simp only [yly, ymy]; rfl)) ?_; (with_reducible refine (laws_toInt64S.calls k _ _ l1 t23 _ ?side1 ?side2 H22.out).mono ?_); (case side1 => exact Kd.C_below HR1.out (below_set HB.out (show w.heap.size ≤ g10 from (by have := HNg3.out; have := HNo8.out; have := HNo11.out; have := HNo14.out; have := HNo17.out; have := HNg8.out; have := HNo21.out; have := HNg10.out; omega)))); (case side2 => exact HC1.out); rintro e w10 ⟨vo24, rfl, ho0, hb⟩; refine ⟨_, rfl, ?_⟩; (try clear hczg3 hfzg3 hczg8 hfzg8 hczg10 hfzg10); obtain ⟨loo24, hio24, hno24⟩ := ObR.made ho0 hb (top_far HT.out) (below_size (below_set HB.out (show w.heap.size ≤ g10 from (by have := HNg3.out; have := HNo8.out; have := HNo11.out; have := HNo14.out; have := HNo17.out; have := HNg8.out; have := HNo21.out; have := HNg10.out; omega)))); have nOo8 := Aside0.mk (ObS.below (ObS.far (g := g10) (i := 0) HOo8.out (by have := HNg3.out; have := HNo8.out; have := HNo11.out; have := HNo14.out; have := HNo17.out; have := HNg8.out; have := HNo21.out; have := HNg10.out; omega) _) hb); have nOo11 := Aside0.mk (ObR.below (ObR.far (g := g10) (i := 0) HOo11.out (by have := HNg3.out; have := HNo8.out; have := HNo11.out; have := HNo14.out; have := HNo17.out; have := HNg8.out; have := HNo21.out; have := HNg10.out; omega) _) hb); have nOo14 := Aside0.mk (ObR.below (ObR.far (g := g10) (i := 0) HOo14.out (by have := HNg3.out; have := HNo8.out; have := HNo11.out; have := HNo14.out; have := HNo17.out; have := HNg8.out; have := HNo21.out; have := HNg10.out; omega) _) hb); have nOo17 := Aside0.mk (ObS.below (ObS.far (g := g10) (i := 0) HOo17.out (by have := HNg3.out; have := HNo8.out; have := HNo11.out; have := HNo14.out; have := HNo17.out; have := HNg8.out; have := HNo21.out; have := HNg10.out; omega) _) hb); have nOo21 := Aside0.mk (ObS.below (ObS.far (g := g10) (i := 0) HOo21.out (by have := HNg3.out; have := HNo8.out; have := HNo11.out; have := HNo14.out; have := HNo17.out; have := HNg8.out; have := HNo21.out; have := HNg10.out; omega) _) hb); have nBg3 := Aside0.mk (blk_below (g := g3) (o := .cells #[.slice A0 l0.length c0] 24 (0, 0)) (blk_far (p := ⟨g10, 0, none⟩) BKg3.out (show g3 ≠ g10 from (by have := HNg3.out; have := HNo8.out; have := HNo11.out; have := HNo14.out; have := HNo17.out; have := HNg8.out; have := HNo21.out; have := HNg10.out; omega)) _) hb); have nBg8 := Aside0.mk (blk_below (g := g8) (o := .cells #[.slice Ao17 t16.length co17] 28 (0, 0)) (blk_far (p := ⟨g10, 0, none⟩) BKg8.out (show g8 ≠ g10 from (by have := HNg3.out; have := HNo8.out; have := HNo11.out; have := HNo14.out; have := HNo17.out; have := HNg8.out; have := HNo21.out; have := HNg10.out; omega)) _) hb); have nBg10 := Aside0.mk (blk_below (g := g10) (o := .cells #[.slice Ao21 t20.length co21] 28 (0, 0)) (blk_put (cs := #[.slice none 0 0]) BKg10.out 0 _ rfl) hb); have nHB := Aside0.mk (below_step (below_set HB.out (show w.heap.size ≤ g10 from (by have := HNg3.out; have := HNo8.out; have := HNo11.out; have := HNo14.out; have := HNo17.out; have := HNg8.out; have := HNo21.out; have := HNg10.out; omega))) hb); have nHT := Aside0.mk (top_below (top_far HT.out) hb); clear HB HT HOo8 HOo11 HOo14 HOo17 HOo21 BKg3 BKg8 BKg10; have HOo8 := nOo8; have HOo11 := nOo11; have HOo14 := nOo14; have HOo17 := nOo17; have HOo21 := nOo21; have BKg3 := nBg3; have BKg8 := nBg8; have BKg10 := nBg10; have HB := nHB; have HT := nHT; clear nHB nHT nOo8 nOo11 nOo14 nOo17 nOo21 nBg3 nBg8 nBg10; have HNo24 := Aside0.mk hno24.1; clear HT; have HT := Aside0.mk hno24.2.1; have HOo24 := Aside0.mk hno24.2.2; clear hno24 ho0; obtain ⟨Ao24, co24, eeo24⟩ := HOo24.out.slice; subst eeo24; (try clear hb); (try clear hnd); have hczg3 : w10.cell? ⟨g3, 0, none⟩ = some (.slice A0 l0.length c0) := (blk_cell BKg3.out 0).trans rfl; have hfzg3 := blk_frozen BKg3.out 0; have hczg8 : w10.cell? ⟨g8, 0, none⟩ = some (.slice Ao17 t16.length co17) := (blk_cell BKg8.out 0).trans rfl; have hfzg8 := blk_frozen BKg8.out 0; have hczg10 : w10.cell? ⟨g10, 0, none⟩ = some (.slice Ao21 t20.length co21) := (blk_cell BKg10.out 0).trans rfl; have hfzg10 := blk_frozen BKg10.out 0) | ((with_reducible refine gate_callee (f := 31) rfl ?_); refine goesL_ (some 46) rfl rfl Try.func31 (by kernel_rfl) rfl #[.slice A2 l2.length c2] rfl (by (try simp only [yiy, yjy, yky]); first | done | rfl | (simp only [yly, ymy]; rfl)) ?_; (with_reducible refine (laws_toInt64S.calls k _ _ l2 t26 _ ?side1 ?side2 H25.out).mono ?_); (case side1 => exact Kd.C_below HR2.out HB.out); (case side2 => exact HC2.out); rintro e w11 ⟨vo27, rfl, ho0, hb⟩; refine ⟨_, rfl, ?_⟩; (try clear hczg3 hfzg3 hczg8 hfzg8 hczg10 hfzg10); obtain ⟨loo27, hio27, hno27⟩ := ObR.made ho0 hb HT.out (below_size HB.out); have nOo8 := Aside0.mk (ObS.below HOo8.out hb); have nOo11 := Aside0.mk (ObR.below HOo11.out hb); have nOo14 := Aside0.mk (ObR.below HOo14.out hb); have nOo17 := Aside0.mk (ObS.below HOo17.out hb); have nOo21 := Aside0.mk (ObS.below HOo21.out hb); have nOo24 := Aside0.mk (ObR.below HOo24.out hb); have nBg3 := Aside0.mk (blk_below (g := g3) (o := .cells #[.slice A0 l0.length c0] 24 (0, 0)) BKg3.out hb); have nBg8 := Aside0.mk (blk_below (g := g8) (o := .cells #[.slice Ao17 t16.length co17] 28 (0, 0)) BKg8.out hb); have nBg10 := Aside0.mk (blk_below (g := g10) (o := .cells #[.slice Ao21 t20.length co21] 28 (0, 0)) BKg10.out hb); have nHB := Aside0.mk (below_step HB.out hb); have nHT := Aside0.mk (top_below HT.out hb); clear HB HT HOo8 HOo11 HOo14 HOo17 HOo21 HOo24 BKg3 BKg8 BKg10; have HOo8 := nOo8; have HOo11 := nOo11; have HOo14 := nOo14; have HOo17 := nOo17; have HOo21 := nOo21; have HOo24 := nOo24; have BKg3 := nBg3; have BKg8 := nBg8; have BKg10 := nBg10; have HB := nHB; have HT := nHT; clear nHB nHT nOo8 nOo11 nOo14 nOo17 nOo21 nOo24 nBg3 nBg8 nBg10; have HNo27 := Aside0.mk hno27.1; clear HT; have HT := Aside0.mk hno27.2.1; have HOo27 := Aside0.mk hno27.2.2; clear hno27 ho0; obtain ⟨Ao27, co27, eeo27⟩ := HOo27.out.slice; subst eeo27; (try clear hb); (try clear hnd); have hczg3 : w11.cell? ⟨g3, 0, none⟩ = some (.slice A0 l0.length c0) := (blk_cell BKg3.out 0).trans rfl; have hfzg3 := blk_frozen BKg3.out 0; have hczg8 : w11.cell? ⟨g8, 0, none⟩ = some (.slice Ao17 t16.length co17) := (blk_cell BKg8.out 0).trans rfl; have hfzg8 := blk_frozen BKg8.out 0; have hczg10 : w11.cell? ⟨g10, 0, none⟩ = some (.slice Ao21 t20.length co21) := (blk_cell BKg10.out 0).trans rfl; have hfzg10 := blk_frozen BKg10.out 0) | ((with_reducible refine gate_callee (f := 32) rfl ?_); refine goesL_ (some 51) rfl rfl Try.func32 (by kernel_rfl) rfl #[.agg #[.slice Ao21 t20.length co21], .slice Ao24 t23.length co24, .slice Ao27 t26.length co27] rfl (by (try simp only [yiy, yjy, yky]); first | done | rfl | (simp only [yly, ymy]; rfl)) ?_; (with_reducible refine (impl_RelabelTriangulation.calls k _ _ t20 _ _ t23 _ _ t26 t29 t31 _ ?side1 ?side2 ?side3 ?side4 ?side5 ?side6 H28.out).mono ?_); (case side1 => exact (ObS.reads HOo21.out).2.2); (case side2 => exact ObS.room HOo21.out); (case side3 => exact (ObR.reads HOo24.out).2.2); (case side4 => exact ObR.room HOo24.out); (case side5 => exact (ObR.reads HOo27.out).2.2); (case side6 => exact ObR.room HOo27.out); rintro e w12 ⟨vo30, rfl, ho0, hb⟩; refine ⟨_, rfl, ?_⟩; (try clear hczg3 hfzg3 hczg8 hfzg8 hczg10 hfzg10); obtain ⟨loo30, hio30, hno30⟩ := ObS.made ho0 hb HT.out (below_size HB.out); have nOo8 := Aside0.mk (ObS.below HOo8.out hb); have nOo11 := Aside0.mk (ObR.below HOo11.out hb); have nOo14 := Aside0.mk (ObR.below HOo14.out hb); have nOo17 := Aside0.mk (ObS.below HOo17.out hb); have nOo21 := Aside0.mk (ObS.below HOo21.out hb); have nOo24 := Aside0.mk (ObR.below HOo24.out hb); have nOo27 := Aside0.mk (ObR.below HOo27.out hb); have nBg3 := Aside0.mk (blk_below (g := g3) (o := .cells #[.slice A0 l0.length c0] 24 (0, 0)) BKg3.out hb); have nBg8 := Aside0.mk (blk_below (g := g8) (o := .cells #[.slice Ao17 t16.length co17] 28 (0, 0)) BKg8.out hb); have nBg10 := Aside0.mk (blk_below (g := g10) (o := .cells #[.slice Ao21 t20.length co21] 28 (0, 0)) BKg10.out hb); have nHB := Aside0.mk (below_step HB.out hb); have nHT := Aside0.mk (top_below HT.out hb); clear HB HT HOo8 HOo11 HOo14 HOo17 HOo21 HOo24 HOo27 BKg3 BKg8 BKg10; have HOo8 := nOo8; have HOo11 := nOo11; have HOo14 := nOo14; have HOo17 := nOo17; have HOo21 := nOo21; have HOo24 := nOo24; have HOo27 := nOo27; have BKg3 := nBg3; have BKg8 := nBg8; have BKg10 := nBg10; have HB := nHB; have HT := nHT; clear nHB nHT nOo8 nOo11 nOo14 nOo17 nOo21 nOo24 nOo27 nBg3 nBg8 nBg10; have HNo30 := Aside0.mk hno30.1; clear HT; have HT := Aside0.mk hno30.2.1; have HOo30 := Aside0.mk hno30.2.2; clear hno30 ho0; obtain ⟨Ao30, co30, eeo30⟩ := HOo30.out.slice; subst eeo30; (try clear hb); (try clear hnd); have hczg3 : w12.cell? ⟨g3, 0, none⟩ = some (.slice A0 l0.length c0) := (blk_cell BKg3.out 0).trans rfl; have hfzg3 := blk_frozen BKg3.out 0; have hczg8 : w12.cell? ⟨g8, 0, none⟩ = some (.slice Ao17 t16.length co17) := (blk_cell BKg8.out 0).trans rfl; have hfzg8 := blk_frozen BKg8.out 0; have hczg10 : w12.cell? ⟨g10, 0, none⟩ = some (.slice Ao21 t20.length co21) := (blk_cell BKg10.out 0).trans rfl; have hfzg10 := blk_frozen BKg10.out 0) | ((with_reducible refine gate_dst (N := 13) rfl ?_); refine box_event ?hg (N := 13) ?hd (cs := #[.slice none 0 0]) (t := 28) ?hr ?_; (case hd => rfl); (case hg => rfl); (case hr => first | (go_simp; done) | (go_simp; rfl)); intro g13 hg w13 hbox hb; (try clear hczg3 hfzg3 hczg8 hfzg8 hczg10 hfzg10); have HNg13 := Aside0.mk (by rw [hg]; exact HT.out : hio30 ≤ g13); have HXg13 := Aside0.mk (show g13 + 1 ≤ w13.heap.size from blk_lt hbox); have nOo8 := Aside0.mk (ObS.below HOo8.out hb); have nOo11 := Aside0.mk (ObR.below HOo11.out hb); have nOo14 := Aside0.mk (ObR.below HOo14.out hb); have nOo17 := Aside0.mk (ObS.below HOo17.out hb); have nOo21 := Aside0.mk (ObS.below HOo21.out hb); have nOo24 := Aside0.mk (ObR.below HOo24.out hb); have nOo27 := Aside0.mk (ObR.below HOo27.out hb); have nOo30 := Aside0.mk (ObS.below HOo30.out hb); have nBg3 := Aside0.mk (blk_below (g := g3) (o := .cells #[.slice A0 l0.length c0] 24 (0, 0)) BKg3.out hb); have nBg8 := Aside0.mk (blk_below (g := g8) (o := .cells #[.slice Ao17 t16.length co17] 28 (0, 0)) BKg8.out hb); have nBg10 := Aside0.mk (blk_below (g := g10) (o := .cells #[.slice Ao21 t20.length co21] 28 (0, 0)) BKg10.out hb); have nHB := Aside0.mk (below_step HB.out hb); have nHT := Aside0.mk (top_below HT.out hb); clear HB HT HOo8 HOo11 HOo14 HOo17 HOo21 HOo24 HOo27 HOo30 BKg3 BKg8 BKg10; have HOo8 := nOo8; have HOo11 := nOo11; have HOo14 := nOo14; have HOo17 := nOo17; have HOo21 := nOo21; have HOo24 := nOo24; have HOo27 := nOo27; have HOo30 := nOo30; have BKg3 := nBg3; have BKg8 := nBg8; have BKg10 := nBg10; have HB := nHB; have HT := nHT; clear nHB nHT nOo8 nOo11 nOo14 nOo17 nOo21 nOo24 nOo27 nOo30 nBg3 nBg8 nBg10; clear HT; have HT := HXg13; clear HXg13; have BKg13 := Aside0.mk hbox; clear hg hbox hb; have hnbg13_g3 : g13 ≠ g3 := (by have := HNg3.out; have := HNo8.out; have := HNo11.out; have := HNo14.out; have := HNo17.out; have := HNg8.out; have := HNo21.out; have := HNg10.out; have := HNo24.out; have := HNo27.out; have := HNo30.out; have := HNg13.out; omega); have hnbg3_g13 : g3 ≠ g13 := (by have := HNg3.out; have := HNo8.out; have := HNo11.out; have := HNo14.out; have := HNo17.out; have := HNg8.out; have := HNo21.out; have := HNg10.out; have := HNo24.out; have := HNo27.out; have := HNo30.out; have := HNg13.out; omega); have hnbg13_g8 : g13 ≠ g8 := (by have := HNg3.out; have := HNo8.out; have := HNo11.out; have := HNo14.out; have := HNo17.out; have := HNg8.out; have := HNo21.out; have := HNg10.out; have := HNo24.out; have := HNo27.out; have := HNo30.out; have := HNg13.out; omega); have hnbg8_g13 : g8 ≠ g13 := (by have := HNg3.out; have := HNo8.out; have := HNo11.out; have := HNo14.out; have := HNo17.out; have := HNg8.out; have := HNo21.out; have := HNg10.out; have := HNo24.out; have := HNo27.out; have := HNo30.out; have := HNg13.out; omega); have hnbg13_g10 : g13 ≠ g10 := (by have := HNg3.out; have := HNo8.out; have := HNo11.out; have := HNo14.out; have := HNo17.out; have := HNg8.out; have := HNo21.out; have := HNg10.out; have := HNo24.out; have := HNo27.out; have := HNo30.out; have := HNg13.out; omega); have hnbg10_g13 : g10 ≠ g13 := (by have := HNg3.out; have := HNo8.out; have := HNo11.out; have := HNo14.out; have := HNo17.out; have := HNg8.out; have := HNo21.out; have := HNg10.out; have := HNo24.out; have := HNo27.out; have := HNo30.out; have := HNg13.out; omega); have hczg3 : w13.cell? ⟨g3, 0, none⟩ = some (.slice A0 l0.length c0) := (blk_cell BKg3.out 0).trans rfl; have hfzg3 := blk_frozen BKg3.out 0; have hczg8 : w13.cell? ⟨g8, 0, none⟩ = some (.slice Ao17 t16.length co17) := (blk_cell BKg8.out 0).trans rfl; have hfzg8 := blk_frozen BKg8.out 0; have hczg10 : w13.cell? ⟨g10, 0, none⟩ = some (.slice Ao21 t20.length co21) := (blk_cell BKg10.out 0).trans rfl; have hfzg10 := blk_frozen BKg10.out 0; have hczg13 : w13.cell? ⟨g13, 0, none⟩ = some (.slice none 0 0) := (blk_cell BKg13.out 0).trans rfl; have hfzg13 := blk_frozen BKg13.out 0) | ((with_reducible refine gate_callee (f := 19) rfl ?_); refine goesL_ (some 56) rfl rfl Try.func19 (by kernel_rfl) rfl #[.agg #[.slice Ao30 t29.length co30], .agg #[.slice Ao17 t16.length co17]] rfl (by (try simp only [yiy, yjy, yky]); first | done | rfl | (simp only [yly, ymy]; rfl)) ?_; (with_reducible refine (laws_eqTriangulation.calls k _ _ t29 _ _ t16 true _ ?side1 ?side2 ?side3 ?side4 H32.out).mono ?_); (case side1 => exact (ObS.reads (ObS.far (g := g13) (i := 0) HOo30.out (by have := HNg3.out; have := HNo8.out; have := HNo11.out; have := HNo14.out; have := HNo17.out; have := HNg8.out; have := HNo21.out; have := HNg10.out; have := HNo24.out; have := HNo27.out; have := HNo30.out; have := HNg13.out; omega) _)).2.2); (case side2 => exact ObS.room HOo30.out); (case side3 => exact (ObS.reads (ObS.far (g := g13) (i := 0) HOo17.out (by have := HNg3.out; have := HNo8.out; have := HNo11.out; have := HNo14.out; have := HNo17.out; have := HNg8.out; have := HNo21.out; have := HNg10.out; have := HNo24.out; have := HNo27.out; have := HNo30.out; have := HNg13.out; omega) _)).2.2); (case side4 => exact ObS.room HOo17.out); rintro e w14 ⟨rfl, hb⟩; refine ⟨_, rfl, ?_⟩; (try clear hczg3 hfzg3 hczg8 hfzg8 hczg10 hfzg10 hczg13 hfzg13); have nOo8 := Aside0.mk (ObS.below (ObS.far (g := g13) (i := 0) HOo8.out (by have := HNg3.out; have := HNo8.out; have := HNo11.out; have := HNo14.out; have := HNo17.out; have := HNg8.out; have := HNo21.out; have := HNg10.out; have := HNo24.out; have := HNo27.out; have := HNo30.out; have := HNg13.out; omega) _) hb); have nOo11 := Aside0.mk (ObR.below (ObR.far (g := g13) (i := 0) HOo11.out (by have := HNg3.out; have := HNo8.out; have := HNo11.out; have := HNo14.out; have := HNo17.out; have := HNg8.out; have := HNo21.out; have := HNg10.out; have := HNo24.out; have := HNo27.out; have := HNo30.out; have := HNg13.out; omega) _) hb); have nOo14 := Aside0.mk (ObR.below (ObR.far (g := g13) (i := 0) HOo14.out (by have := HNg3.out; have := HNo8.out; have := HNo11.out; have := HNo14.out; have := HNo17.out; have := HNg8.out; have := HNo21.out; have := HNg10.out; have := HNo24.out; have := HNo27.out; have := HNo30.out; have := HNg13.out; omega) _) hb); have nOo17 := Aside0.mk (ObS.below (ObS.far (g := g13) (i := 0) HOo17.out (by have := HNg3.out; have := HNo8.out; have := HNo11.out; have := HNo14.out; have := HNo17.out; have := HNg8.out; have := HNo21.out; have := HNg10.out; have := HNo24.out; have := HNo27.out; have := HNo30.out; have := HNg13.out; omega) _) hb); have nOo21 := Aside0.mk (ObS.below (ObS.far (g := g13) (i := 0) HOo21.out (by have := HNg3.out; have := HNo8.out; have := HNo11.out; have := HNo14.out; have := HNo17.out; have := HNg8.out; have := HNo21.out; have := HNg10.out; have := HNo24.out; have := HNo27.out; have := HNo30.out; have := HNg13.out; omega) _) hb); have nOo24 := Aside0.mk (ObR.below (ObR.far (g := g13) (i := 0) HOo24.out (by have := HNg3.out; have := HNo8.out; have := HNo11.out; have := HNo14.out; have := HNo17.out; have := HNg8.out; have := HNo21.out; have := HNg10.out; have := HNo24.out; have := HNo27.out; have := HNo30.out; have := HNg13.out; omega) _) hb); have nOo27 := Aside0.mk (ObR.below (ObR.far (g := g13) (i := 0) HOo27.out (by have := HNg3.out; have := HNo8.out; have := HNo11.out; have := HNo14.out; have := HNo17.out; have := HNg8.out; have := HNo21.out; have := HNg10.out; have := HNo24.out; have := HNo27.out; have := HNo30.out; have := HNg13.out; omega) _) hb); have nOo30 := Aside0.mk (ObS.below (ObS.far (g := g13) (i := 0) HOo30.out (by have := HNg3.out; have := HNo8.out; have := HNo11.out; have := HNo14.out; have := HNo17.out; have := HNg8.out; have := HNo21.out; have := HNg10.out; have := HNo24.out; have := HNo27.out; have := HNo30.out; have := HNg13.out; omega) _) hb); have nBg3 := Aside0.mk (blk_below (g := g3) (o := .cells #[.slice A0 l0.length c0] 24 (0, 0)) (blk_far (p := ⟨g13, 0, none⟩) BKg3.out (show g3 ≠ g13 from (by have := HNg3.out; have := HNo8.out; have := HNo11.out; have := HNo14.out; have := HNo17.out; have := HNg8.out; have := HNo21.out; have := HNg10.out; have := HNo24.out; have := HNo27.out; have := HNo30.out; have := HNg13.out; omega)) _) hb); have nBg8 := Aside0.mk (blk_below (g := g8) (o := .cells #[.slice Ao17 t16.length co17] 28 (0, 0)) (blk_far (p := ⟨g13, 0, none⟩) BKg8.out (show g8 ≠ g13 from (by have := HNg3.out; have := HNo8.out; have := HNo11.out; have := HNo14.out; have := HNo17.out; have := HNg8.out; have := HNo21.out; have := HNg10.out; have := HNo24.out; have := HNo27.out; have := HNo30.out; have := HNg13.out; omega)) _) hb); have nBg10 := Aside0.mk (blk_below (g := g10) (o := .cells #[.slice Ao21 t20.length co21] 28 (0, 0)) (blk_far (p := ⟨g13, 0, none⟩) BKg10.out (show g10 ≠ g13 from (by have := HNg3.out; have := HNo8.out; have := HNo11.out; have := HNo14.out; have := HNo17.out; have := HNg8.out; have := HNo21.out; have := HNg10.out; have := HNo24.out; have := HNo27.out; have := HNo30.out; have := HNg13.out; omega)) _) hb); have nBg13 := Aside0.mk (blk_below (g := g13) (o := .cells #[.slice Ao30 t29.length co30] 28 (0, 0)) (blk_put (cs := #[.slice none 0 0]) BKg13.out 0 _ rfl) hb); have nHB := Aside0.mk (below_step (below_set HB.out (show w.heap.size ≤ g13 from (by have := HNg3.out; have := HNo8.out; have := HNo11.out; have := HNo14.out; have := HNo17.out; have := HNg8.out; have := HNo21.out; have := HNg10.out; have := HNo24.out; have := HNo27.out; have := HNo30.out; have := HNg13.out; omega))) hb); have nHT := Aside0.mk (top_below (top_far HT.out) hb); clear HB HT HOo8 HOo11 HOo14 HOo17 HOo21 HOo24 HOo27 HOo30 BKg3 BKg8 BKg10 BKg13; have HOo8 := nOo8; have HOo11 := nOo11; have HOo14 := nOo14; have HOo17 := nOo17; have HOo21 := nOo21; have HOo24 := nOo24; have HOo27 := nOo27; have HOo30 := nOo30; have BKg3 := nBg3; have BKg8 := nBg8; have BKg10 := nBg10; have BKg13 := nBg13; have HB := nHB; have HT := nHT; clear nHB nHT nOo8 nOo11 nOo14 nOo17 nOo21 nOo24 nOo27 nOo30 nBg3 nBg8 nBg10 nBg13; (try clear hb); (try clear hnd); have hczg3 : w14.cell? ⟨g3, 0, none⟩ = some (.slice A0 l0.length c0) := (blk_cell BKg3.out 0).trans rfl; have hfzg3 := blk_frozen BKg3.out 0; have hczg8 : w14.cell? ⟨g8, 0, none⟩ = some (.slice Ao17 t16.length co17) := (blk_cell BKg8.out 0).trans rfl; have hfzg8 := blk_frozen BKg8.out 0; have hczg10 : w14.cell? ⟨g10, 0, none⟩ = some (.slice Ao21 t20.length co21) := (blk_cell BKg10.out 0).trans rfl; have hfzg10 := blk_frozen BKg10.out 0; have hczg13 : w14.cell? ⟨g13, 0, none⟩ = some (.slice Ao30 t29.length co30) := (blk_cell BKg13.out 0).trans rfl; have hfzg13 := blk_frozen BKg13.out 0))
 (try clear hczg3 hfzg3 hczg8 hfzg8 hczg10 hfzg10 hczg13 hfzg13)
 have nOo8 := Aside0.mk (ObS.drew HOo8.out)
 have nOo11 := Aside0.mk (ObR.drew HOo11.out)
 have nOo14 := Aside0.mk (ObR.drew HOo14.out)
 have nOo17 := Aside0.mk (ObS.drew HOo17.out)
 have nOo21 := Aside0.mk (ObS.drew HOo21.out)
 have nOo24 := Aside0.mk (ObR.drew HOo24.out)
 have nOo27 := Aside0.mk (ObR.drew HOo27.out)
 have nOo30 := Aside0.mk (ObS.drew HOo30.out)
 have nBg3 := Aside0.mk (blk_drew BKg3.out)
 have nBg8 := Aside0.mk (blk_drew BKg8.out)
 have nBg10 := Aside0.mk (blk_drew BKg10.out)
 have nBg13 := Aside0.mk (blk_drew BKg13.out)
 have nHB := Aside0.mk (below_drew1 HB.out)
 have nHT := Aside0.mk (top_drew HT.out)
 clear HB HT HOo8 HOo11 HOo14 HOo17 HOo21 HOo24 HOo27 HOo30 BKg3 BKg8 BKg10 BKg13
 have HOo8 := nOo8
 have HOo11 := nOo11
 have HOo14 := nOo14
 have HOo17 := nOo17
 have HOo21 := nOo21
 have HOo24 := nOo24
 have HOo27 := nOo27
 have HOo30 := nOo30
 have BKg3 := nBg3
 have BKg8 := nBg8
 have BKg10 := nBg10
 have BKg13 := nBg13
 have HB := nHB
 have HT := nHT
 clear nHB nHT nOo8 nOo11 nOo14 nOo17 nOo21 nOo24 nOo27 nOo30 nBg3 nBg8 nBg10 nBg13
 refine start_ (n := 5) (S := fun w' => w'.cell? ⟨g10, 0, none⟩ = some (.slice Ao21 t20.length co21) ∧ w'.cell? ⟨g3, 0, none⟩ = some (.slice A0 l0.length c0)) (ds := []) #[false, false, false, false, false] (by kernel_rfl) rfl rfl ⟨(blk_cell BKg10.out 0).trans rfl, (blk_cell BKg3.out 0).trans rfl⟩ (fun hHeld => ?_)
 generalize hdr_ : World.drew _ = w15 at HOo8 HOo11 HOo14 HOo17 HOo21 HOo24 HOo27 HOo30 BKg3 BKg8 BKg10 BKg13 HB HT hHeld ⊢
 (try clear hdr_)
 refine take_ (i := 0) (N := some 63) (v := ?_) (a' := ?_) #[true, false, false, false, false] rfl rfl (by kernel_rfl) (fun _ _ _ h => h) (Or.inl ⟨by rfl, ?_⟩) hHeld ?_ ?_
 rotate_left
 next =>
  rintro w' ⟨s0, s1⟩
  go_simp
  with_reducible rfl
 rotate_left
 next =>
  simp only [Act.put, yay, yby, ycy, i64_w, i32_w]
  rfl
 refine take_ (i := 1) (N := some 64) (v := ?_) (a' := ?_) #[true, true, false, false, false] rfl rfl (by kernel_rfl) (fun _ _ _ h => h) (Or.inl ⟨by rfl, ?_⟩) hHeld ?_ ?_
 rotate_left
 next =>
  rintro w' ⟨s0, s1⟩
  go_simp
  with_reducible rfl
 rotate_left
 next =>
  simp only [Act.put, yay, yby, ycy, i64_w, i32_w]
  rfl
 refine one_ (i := 2) (N := some 65) #[true, true, true, false, false] rfl rfl (by kernel_rfl) (by decide) (fun K hK => ?_)
 refine goes_ Try.func17 (by kernel_rfl) rfl #[.agg #[.slice A0 l0.length c0]] (by rfl) rfl rfl (by (try simp only [yiy, yjy, yky]); first | done | rfl | (simp only [yly, ymy]; rfl)) ?_
 with_reducible refine (laws_toTriangulation.calls k _ _ l0 t36 _ ?side1 ?side2 H35.out).mono ?_
 (case side1 => exact Kd.C_below HR0.out HB.out)
 (case side2 => exact HC0.out)
 rintro e w16 ⟨vo37, rfl, ho0, hb⟩
 refine ⟨_, rfl, ?_⟩
 (try clear hczg3 hfzg3 hczg8 hfzg8 hczg10 hfzg10 hczg13 hfzg13)
 obtain ⟨loo37, hio37, hno37⟩ := ObS.made ho0 hb HT.out (below_size HB.out)
 have nOo8 := Aside0.mk (ObS.below HOo8.out hb)
 have nOo11 := Aside0.mk (ObR.below HOo11.out hb)
 have nOo14 := Aside0.mk (ObR.below HOo14.out hb)
 have nOo17 := Aside0.mk (ObS.below HOo17.out hb)
 have nOo21 := Aside0.mk (ObS.below HOo21.out hb)
 have nOo24 := Aside0.mk (ObR.below HOo24.out hb)
 have nOo27 := Aside0.mk (ObR.below HOo27.out hb)
 have nOo30 := Aside0.mk (ObS.below HOo30.out hb)
 have nBg3 := Aside0.mk (blk_below (g := g3) (o := .cells #[.slice A0 l0.length c0] 24 (0, 0)) BKg3.out hb)
 have nBg8 := Aside0.mk (blk_below (g := g8) (o := .cells #[.slice Ao17 t16.length co17] 28 (0, 0)) BKg8.out hb)
 have nBg10 := Aside0.mk (blk_below (g := g10) (o := .cells #[.slice Ao21 t20.length co21] 28 (0, 0)) BKg10.out hb)
 have nBg13 := Aside0.mk (blk_below (g := g13) (o := .cells #[.slice Ao30 t29.length co30] 28 (0, 0)) BKg13.out hb)
 have nHB := Aside0.mk (below_step HB.out hb)
 have nHT := Aside0.mk (top_below HT.out hb)
 clear HB HT HOo8 HOo11 HOo14 HOo17 HOo21 HOo24 HOo27 HOo30 BKg3 BKg8 BKg10 BKg13
 have HOo8 := nOo8
 have HOo11 := nOo11
 have HOo14 := nOo14
 have HOo17 := nOo17
 have HOo21 := nOo21
 have HOo24 := nOo24
 have HOo27 := nOo27
 have HOo30 := nOo30
 have BKg3 := nBg3
 have BKg8 := nBg8
 have BKg10 := nBg10
 have BKg13 := nBg13
 have HB := nHB
 have HT := nHT
 clear nHB nHT nOo8 nOo11 nOo14 nOo17 nOo21 nOo24 nOo27 nOo30 nBg3 nBg8 nBg10 nBg13
 have HNo37 := Aside0.mk hno37.1
 clear HT
 have HT := Aside0.mk hno37.2.1
 have HOo37 := Aside0.mk hno37.2.2
 clear hno37 ho0
 obtain ⟨Ao37, co37, eeo37⟩ := HOo37.out.slice
 subst eeo37
 (try clear hb)
 (try clear hnd)
 refine hK.out _ _ ⟨(blk_cell BKg10.out 0).trans rfl, (blk_cell BKg3.out 0).trans rfl⟩ (fun hHeld => ?_)
 clear hK K
 refine norm_ (a' := ?_) ?_ ?_
 rotate_left
 next =>
  show Act.put _ (some 65) _ = _
  simp only [Act.put, yay, yby, ycy, i64_w, i32_w]
  rfl
 refine one_ (i := 3) (N := some 66) #[true, true, true, true, false] rfl rfl (by kernel_rfl) (by decide) (fun K hK => ?_)
 refine goes_ Try.func19 (by kernel_rfl) rfl #[.agg #[.slice Ao21 t20.length co21], .agg #[.slice Ao37 t36.length co37]] (by rfl) rfl rfl (by (try simp only [yiy, yjy, yky]); first | done | rfl | (simp only [yly, ymy]; rfl)) ?_
 with_reducible refine (laws_eqTriangulation.calls k _ _ t20 _ _ t36 true _ ?side1 ?side2 ?side3 ?side4 H38.out).mono ?_
 (case side1 => exact (ObS.reads HOo21.out).2.2)
 (case side2 => exact ObS.room HOo21.out)
 (case side3 => exact (ObS.reads HOo37.out).2.2)
 (case side4 => exact ObS.room HOo37.out)
 rintro e w17 ⟨rfl, hb⟩
 refine ⟨_, rfl, ?_⟩
 (try clear hczg3 hfzg3 hczg8 hfzg8 hczg10 hfzg10 hczg13 hfzg13)
 have nOo8 := Aside0.mk (ObS.below HOo8.out hb)
 have nOo11 := Aside0.mk (ObR.below HOo11.out hb)
 have nOo14 := Aside0.mk (ObR.below HOo14.out hb)
 have nOo17 := Aside0.mk (ObS.below HOo17.out hb)
 have nOo21 := Aside0.mk (ObS.below HOo21.out hb)
 have nOo24 := Aside0.mk (ObR.below HOo24.out hb)
 have nOo27 := Aside0.mk (ObR.below HOo27.out hb)
 have nOo30 := Aside0.mk (ObS.below HOo30.out hb)
 have nOo37 := Aside0.mk (ObS.below HOo37.out hb)
 have nBg3 := Aside0.mk (blk_below (g := g3) (o := .cells #[.slice A0 l0.length c0] 24 (0, 0)) BKg3.out hb)
 have nBg8 := Aside0.mk (blk_below (g := g8) (o := .cells #[.slice Ao17 t16.length co17] 28 (0, 0)) BKg8.out hb)
 have nBg10 := Aside0.mk (blk_below (g := g10) (o := .cells #[.slice Ao21 t20.length co21] 28 (0, 0)) BKg10.out hb)
 have nBg13 := Aside0.mk (blk_below (g := g13) (o := .cells #[.slice Ao30 t29.length co30] 28 (0, 0)) BKg13.out hb)
 have nHB := Aside0.mk (below_step HB.out hb)
 have nHT := Aside0.mk (top_below HT.out hb)
 clear HB HT HOo8 HOo11 HOo14 HOo17 HOo21 HOo24 HOo27 HOo30 HOo37 BKg3 BKg8 BKg10 BKg13
 have HOo8 := nOo8
 have HOo11 := nOo11
 have HOo14 := nOo14
 have HOo17 := nOo17
 have HOo21 := nOo21
 have HOo24 := nOo24
 have HOo27 := nOo27
 have HOo30 := nOo30
 have HOo37 := nOo37
 have BKg3 := nBg3
 have BKg8 := nBg8
 have BKg10 := nBg10
 have BKg13 := nBg13
 have HB := nHB
 have HT := nHT
 clear nHB nHT nOo8 nOo11 nOo14 nOo17 nOo21 nOo24 nOo27 nOo30 nOo37 nBg3 nBg8 nBg10 nBg13
 (try clear hb)
 (try clear hnd)
 refine hK.out _ _ ⟨(blk_cell BKg10.out 0).trans rfl, (blk_cell BKg3.out 0).trans rfl⟩ (fun hHeld => ?_)
 clear hK K
 refine norm_ (a' := ?_) ?_ ?_
 rotate_left
 next =>
  show Act.put _ (some 66) _ = _
  simp only [Act.put, yay, yby, ycy, i64_w, i32_w]
  rfl
 refine pure_ (i := 4) (N := some 67) (v := ?_) (a' := ?_) #[true, true, true, true, true] rfl rfl (by kernel_rfl) (fun _ _ _ h => h) (Or.inl ⟨by rfl, ?_⟩) ?_ ?_
 rotate_left
 next =>
  intro w'
  go_simp
  with_reducible rfl
 rotate_left
 next =>
  simp only [Act.put, yay, yby, ycy, i64_w, i32_w]
  rfl
 refine done_ (by kernel_rfl) ?_
 have hczg3 : w17.cell? ⟨g3, 0, none⟩ = some (.slice A0 l0.length c0) := (blk_cell BKg3.out 0).trans rfl
 have hfzg3 := blk_frozen BKg3.out 0
 have hczg8 : w17.cell? ⟨g8, 0, none⟩ = some (.slice Ao17 t16.length co17) := (blk_cell BKg8.out 0).trans rfl
 have hfzg8 := blk_frozen BKg8.out 0
 have hczg10 : w17.cell? ⟨g10, 0, none⟩ = some (.slice Ao21 t20.length co21) := (blk_cell BKg10.out 0).trans rfl
 have hfzg10 := blk_frozen BKg10.out 0
 have hczg13 : w17.cell? ⟨g13, 0, none⟩ = some (.slice Ao30 t29.length co30) := (blk_cell BKg13.out 0).trans rfl
 have hfzg13 := blk_frozen BKg13.out 0
 try go_wp2_with (first | ((with_reducible refine gate_callee (f := 31) rfl ?_); refine goesL_ (some 70) rfl rfl Try.func31 (by kernel_rfl) rfl #[.slice A1 l1.length c1] rfl (by (try simp only [yiy, yjy, yky]); first | done | rfl | (simp only [yly, ymy]; rfl)) ?_; (with_reducible refine (laws_toInt64S.calls k _ _ l1 t41 _ ?side1 ?side2 H40.out).mono ?_); (case side1 => exact Kd.C_below HR1.out HB.out); (case side2 => exact HC1.out); rintro e w18 ⟨vo42, rfl, ho0, hb⟩; refine ⟨_, rfl, ?_⟩; (try clear hczg3 hfzg3 hczg8 hfzg8 hczg10 hfzg10 hczg13 hfzg13); obtain ⟨loo42, hio42, hno42⟩ := ObR.made ho0 hb HT.out (below_size HB.out); have nOo8 := Aside0.mk (ObS.below HOo8.out hb); have nOo11 := Aside0.mk (ObR.below HOo11.out hb); have nOo14 := Aside0.mk (ObR.below HOo14.out hb); have nOo17 := Aside0.mk (ObS.below HOo17.out hb); have nOo21 := Aside0.mk (ObS.below HOo21.out hb); have nOo24 := Aside0.mk (ObR.below HOo24.out hb); have nOo27 := Aside0.mk (ObR.below HOo27.out hb); have nOo30 := Aside0.mk (ObS.below HOo30.out hb); have nOo37 := Aside0.mk (ObS.below HOo37.out hb); have nBg3 := Aside0.mk (blk_below (g := g3) (o := .cells #[.slice A0 l0.length c0] 24 (0, 0)) BKg3.out hb); have nBg8 := Aside0.mk (blk_below (g := g8) (o := .cells #[.slice Ao17 t16.length co17] 28 (0, 0)) BKg8.out hb); have nBg10 := Aside0.mk (blk_below (g := g10) (o := .cells #[.slice Ao21 t20.length co21] 28 (0, 0)) BKg10.out hb); have nBg13 := Aside0.mk (blk_below (g := g13) (o := .cells #[.slice Ao30 t29.length co30] 28 (0, 0)) BKg13.out hb); have nHB := Aside0.mk (below_step HB.out hb); have nHT := Aside0.mk (top_below HT.out hb); clear HB HT HOo8 HOo11 HOo14 HOo17 HOo21 HOo24 HOo27 HOo30 HOo37 BKg3 BKg8 BKg10 BKg13; have HOo8 := nOo8; have HOo11 := nOo11; have HOo14 := nOo14; have HOo17 := nOo17; have HOo21 := nOo21; have HOo24 := nOo24; have HOo27 := nOo27; have HOo30 := nOo30; have HOo37 := nOo37; have BKg3 := nBg3; have BKg8 := nBg8; have BKg10 := nBg10; have BKg13 := nBg13; have HB := nHB; have HT := nHT; clear nHB nHT nOo8 nOo11 nOo14 nOo17 nOo21 nOo24 nOo27 nOo30 nOo37 nBg3 nBg8 nBg10 nBg13; have HNo42 := Aside0.mk hno42.1; clear HT; have HT := Aside0.mk hno42.2.1; have HOo42 := Aside0.mk hno42.2.2; clear hno42 ho0; obtain ⟨Ao42, co42, eeo42⟩ := HOo42.out.slice; subst eeo42; (try clear hb); (try clear hnd); have hczg3 : w18.cell? ⟨g3, 0, none⟩ = some (.slice A0 l0.length c0) := (blk_cell BKg3.out 0).trans rfl; have hfzg3 := blk_frozen BKg3.out 0; have hczg8 : w18.cell? ⟨g8, 0, none⟩ = some (.slice Ao17 t16.length co17) := (blk_cell BKg8.out 0).trans rfl; have hfzg8 := blk_frozen BKg8.out 0; have hczg10 : w18.cell? ⟨g10, 0, none⟩ = some (.slice Ao21 t20.length co21) := (blk_cell BKg10.out 0).trans rfl; have hfzg10 := blk_frozen BKg10.out 0; have hczg13 : w18.cell? ⟨g13, 0, none⟩ = some (.slice Ao30 t29.length co30) := (blk_cell BKg13.out 0).trans rfl; have hfzg13 := blk_frozen BKg13.out 0) | ((with_reducible refine gate_callee (f := 33) rfl ?_); refine goesL_ (some 71) rfl rfl Try.func33 (by kernel_rfl) rfl #[.slice Ao24 t23.length co24, .slice Ao42 t41.length co42] rfl (by (try simp only [yiy, yjy, yky]); first | done | rfl | (simp only [yly, ymy]; rfl)) ?_; (with_reducible refine (laws_eqInt64S.calls k _ _ t23 _ _ t41 true _ ?side1 ?side2 ?side3 ?side4 H43.out).mono ?_); (case side1 => exact (ObR.reads HOo24.out).2.2); (case side2 => exact ObR.room HOo24.out); (case side3 => exact (ObR.reads HOo42.out).2.2); (case side4 => exact ObR.room HOo42.out); rintro e w19 ⟨rfl, ⟨nd, hnd⟩⟩; refine ⟨_, rfl, ?_⟩; have hb := below_of_drewN hnd; (try clear hczg3 hfzg3 hczg8 hfzg8 hczg10 hfzg10 hczg13 hfzg13); have nOo8 := Aside0.mk (ObS.below HOo8.out hb); have nOo11 := Aside0.mk (ObR.below HOo11.out hb); have nOo14 := Aside0.mk (ObR.below HOo14.out hb); have nOo17 := Aside0.mk (ObS.below HOo17.out hb); have nOo21 := Aside0.mk (ObS.below HOo21.out hb); have nOo24 := Aside0.mk (ObR.below HOo24.out hb); have nOo27 := Aside0.mk (ObR.below HOo27.out hb); have nOo30 := Aside0.mk (ObS.below HOo30.out hb); have nOo37 := Aside0.mk (ObS.below HOo37.out hb); have nOo42 := Aside0.mk (ObR.below HOo42.out hb); have nBg3 := Aside0.mk (blk_below (g := g3) (o := .cells #[.slice A0 l0.length c0] 24 (0, 0)) BKg3.out hb); have nBg8 := Aside0.mk (blk_below (g := g8) (o := .cells #[.slice Ao17 t16.length co17] 28 (0, 0)) BKg8.out hb); have nBg10 := Aside0.mk (blk_below (g := g10) (o := .cells #[.slice Ao21 t20.length co21] 28 (0, 0)) BKg10.out hb); have nBg13 := Aside0.mk (blk_below (g := g13) (o := .cells #[.slice Ao30 t29.length co30] 28 (0, 0)) BKg13.out hb); have nHB := Aside0.mk (below_step HB.out hb); have nHT := Aside0.mk (top_below HT.out hb); clear HB HT HOo8 HOo11 HOo14 HOo17 HOo21 HOo24 HOo27 HOo30 HOo37 HOo42 BKg3 BKg8 BKg10 BKg13; have HOo8 := nOo8; have HOo11 := nOo11; have HOo14 := nOo14; have HOo17 := nOo17; have HOo21 := nOo21; have HOo24 := nOo24; have HOo27 := nOo27; have HOo30 := nOo30; have HOo37 := nOo37; have HOo42 := nOo42; have BKg3 := nBg3; have BKg8 := nBg8; have BKg10 := nBg10; have BKg13 := nBg13; have HB := nHB; have HT := nHT; clear nHB nHT nOo8 nOo11 nOo14 nOo17 nOo21 nOo24 nOo27 nOo30 nOo37 nOo42 nBg3 nBg8 nBg10 nBg13; (try clear hb); (try clear hnd); have hczg3 : w19.cell? ⟨g3, 0, none⟩ = some (.slice A0 l0.length c0) := (blk_cell BKg3.out 0).trans rfl; have hfzg3 := blk_frozen BKg3.out 0; have hczg8 : w19.cell? ⟨g8, 0, none⟩ = some (.slice Ao17 t16.length co17) := (blk_cell BKg8.out 0).trans rfl; have hfzg8 := blk_frozen BKg8.out 0; have hczg10 : w19.cell? ⟨g10, 0, none⟩ = some (.slice Ao21 t20.length co21) := (blk_cell BKg10.out 0).trans rfl; have hfzg10 := blk_frozen BKg10.out 0; have hczg13 : w19.cell? ⟨g13, 0, none⟩ = some (.slice Ao30 t29.length co30) := (blk_cell BKg13.out 0).trans rfl; have hfzg13 := blk_frozen BKg13.out 0) | ((with_reducible refine gate_callee (f := 31) rfl ?_); refine goesL_ (some 75) rfl rfl Try.func31 (by kernel_rfl) rfl #[.slice A2 l2.length c2] rfl (by (try simp only [yiy, yjy, yky]); first | done | rfl | (simp only [yly, ymy]; rfl)) ?_; (with_reducible refine (laws_toInt64S.calls k _ _ l2 t46 _ ?side1 ?side2 H45.out).mono ?_); (case side1 => exact Kd.C_below HR2.out HB.out); (case side2 => exact HC2.out); rintro e w20 ⟨vo47, rfl, ho0, hb⟩; refine ⟨_, rfl, ?_⟩; (try clear hczg3 hfzg3 hczg8 hfzg8 hczg10 hfzg10 hczg13 hfzg13); obtain ⟨loo47, hio47, hno47⟩ := ObR.made ho0 hb HT.out (below_size HB.out); have nOo8 := Aside0.mk (ObS.below HOo8.out hb); have nOo11 := Aside0.mk (ObR.below HOo11.out hb); have nOo14 := Aside0.mk (ObR.below HOo14.out hb); have nOo17 := Aside0.mk (ObS.below HOo17.out hb); have nOo21 := Aside0.mk (ObS.below HOo21.out hb); have nOo24 := Aside0.mk (ObR.below HOo24.out hb); have nOo27 := Aside0.mk (ObR.below HOo27.out hb); have nOo30 := Aside0.mk (ObS.below HOo30.out hb); have nOo37 := Aside0.mk (ObS.below HOo37.out hb); have nOo42 := Aside0.mk (ObR.below HOo42.out hb); have nBg3 := Aside0.mk (blk_below (g := g3) (o := .cells #[.slice A0 l0.length c0] 24 (0, 0)) BKg3.out hb); have nBg8 := Aside0.mk (blk_below (g := g8) (o := .cells #[.slice Ao17 t16.length co17] 28 (0, 0)) BKg8.out hb); have nBg10 := Aside0.mk (blk_below (g := g10) (o := .cells #[.slice Ao21 t20.length co21] 28 (0, 0)) BKg10.out hb); have nBg13 := Aside0.mk (blk_below (g := g13) (o := .cells #[.slice Ao30 t29.length co30] 28 (0, 0)) BKg13.out hb); have nHB := Aside0.mk (below_step HB.out hb); have nHT := Aside0.mk (top_below HT.out hb); clear HB HT HOo8 HOo11 HOo14 HOo17 HOo21 HOo24 HOo27 HOo30 HOo37 HOo42 BKg3 BKg8 BKg10 BKg13; have HOo8 := nOo8; have HOo11 := nOo11; have HOo14 := nOo14; have HOo17 := nOo17; have HOo21 := nOo21; have HOo24 := nOo24; have HOo27 := nOo27; have HOo30 := nOo30; have HOo37 := nOo37; have HOo42 := nOo42; have BKg3 := nBg3; have BKg8 := nBg8; have BKg10 := nBg10; have BKg13 := nBg13; have HB := nHB; have HT := nHT; clear nHB nHT nOo8 nOo11 nOo14 nOo17 nOo21 nOo24 nOo27 nOo30 nOo37 nOo42 nBg3 nBg8 nBg10 nBg13; have HNo47 := Aside0.mk hno47.1; clear HT; have HT := Aside0.mk hno47.2.1; have HOo47 := Aside0.mk hno47.2.2; clear hno47 ho0; obtain ⟨Ao47, co47, eeo47⟩ := HOo47.out.slice; subst eeo47; (try clear hb); (try clear hnd); have hczg3 : w20.cell? ⟨g3, 0, none⟩ = some (.slice A0 l0.length c0) := (blk_cell BKg3.out 0).trans rfl; have hfzg3 := blk_frozen BKg3.out 0; have hczg8 : w20.cell? ⟨g8, 0, none⟩ = some (.slice Ao17 t16.length co17) := (blk_cell BKg8.out 0).trans rfl; have hfzg8 := blk_frozen BKg8.out 0; have hczg10 : w20.cell? ⟨g10, 0, none⟩ = some (.slice Ao21 t20.length co21) := (blk_cell BKg10.out 0).trans rfl; have hfzg10 := blk_frozen BKg10.out 0; have hczg13 : w20.cell? ⟨g13, 0, none⟩ = some (.slice Ao30 t29.length co30) := (blk_cell BKg13.out 0).trans rfl; have hfzg13 := blk_frozen BKg13.out 0) | ((with_reducible refine gate_callee (f := 33) rfl ?_); refine goesL_ (some 76) rfl rfl Try.func33 (by kernel_rfl) rfl #[.slice Ao27 t26.length co27, .slice Ao47 t46.length co47] rfl (by (try simp only [yiy, yjy, yky]); first | done | rfl | (simp only [yly, ymy]; rfl)) ?_; (with_reducible refine (laws_eqInt64S.calls k _ _ t26 _ _ t46 true _ ?side1 ?side2 ?side3 ?side4 H48.out).mono ?_); (case side1 => exact (ObR.reads HOo27.out).2.2); (case side2 => exact ObR.room HOo27.out); (case side3 => exact (ObR.reads HOo47.out).2.2); (case side4 => exact ObR.room HOo47.out); rintro e w21 ⟨rfl, ⟨nd, hnd⟩⟩; refine ⟨_, rfl, ?_⟩; have hb := below_of_drewN hnd; (try clear hczg3 hfzg3 hczg8 hfzg8 hczg10 hfzg10 hczg13 hfzg13); have nOo8 := Aside0.mk (ObS.below HOo8.out hb); have nOo11 := Aside0.mk (ObR.below HOo11.out hb); have nOo14 := Aside0.mk (ObR.below HOo14.out hb); have nOo17 := Aside0.mk (ObS.below HOo17.out hb); have nOo21 := Aside0.mk (ObS.below HOo21.out hb); have nOo24 := Aside0.mk (ObR.below HOo24.out hb); have nOo27 := Aside0.mk (ObR.below HOo27.out hb); have nOo30 := Aside0.mk (ObS.below HOo30.out hb); have nOo37 := Aside0.mk (ObS.below HOo37.out hb); have nOo42 := Aside0.mk (ObR.below HOo42.out hb); have nOo47 := Aside0.mk (ObR.below HOo47.out hb); have nBg3 := Aside0.mk (blk_below (g := g3) (o := .cells #[.slice A0 l0.length c0] 24 (0, 0)) BKg3.out hb); have nBg8 := Aside0.mk (blk_below (g := g8) (o := .cells #[.slice Ao17 t16.length co17] 28 (0, 0)) BKg8.out hb); have nBg10 := Aside0.mk (blk_below (g := g10) (o := .cells #[.slice Ao21 t20.length co21] 28 (0, 0)) BKg10.out hb); have nBg13 := Aside0.mk (blk_below (g := g13) (o := .cells #[.slice Ao30 t29.length co30] 28 (0, 0)) BKg13.out hb); have nHB := Aside0.mk (below_step HB.out hb); have nHT := Aside0.mk (top_below HT.out hb); clear HB HT HOo8 HOo11 HOo14 HOo17 HOo21 HOo24 HOo27 HOo30 HOo37 HOo42 HOo47 BKg3 BKg8 BKg10 BKg13; have HOo8 := nOo8; have HOo11 := nOo11; have HOo14 := nOo14; have HOo17 := nOo17; have HOo21 := nOo21; have HOo24 := nOo24; have HOo27 := nOo27; have HOo30 := nOo30; have HOo37 := nOo37; have HOo42 := nOo42; have HOo47 := nOo47; have BKg3 := nBg3; have BKg8 := nBg8; have BKg10 := nBg10; have BKg13 := nBg13; have HB := nHB; have HT := nHT; clear nHB nHT nOo8 nOo11 nOo14 nOo17 nOo21 nOo24 nOo27 nOo30 nOo37 nOo42 nOo47 nBg3 nBg8 nBg10 nBg13; (try clear hb); (try clear hnd); have hczg3 : w21.cell? ⟨g3, 0, none⟩ = some (.slice A0 l0.length c0) := (blk_cell BKg3.out 0).trans rfl; have hfzg3 := blk_frozen BKg3.out 0; have hczg8 : w21.cell? ⟨g8, 0, none⟩ = some (.slice Ao17 t16.length co17) := (blk_cell BKg8.out 0).trans rfl; have hfzg8 := blk_frozen BKg8.out 0; have hczg10 : w21.cell? ⟨g10, 0, none⟩ = some (.slice Ao21 t20.length co21) := (blk_cell BKg10.out 0).trans rfl; have hfzg10 := blk_frozen BKg10.out 0; have hczg13 : w21.cell? ⟨g13, 0, none⟩ = some (.slice Ao30 t29.length co30) := (blk_cell BKg13.out 0).trans rfl; have hfzg13 := blk_frozen BKg13.out 0) | ((with_reducible refine gate_callee (f := 20) rfl ?_); refine goesL_ (some 80) rfl rfl Try.func20 (by kernel_rfl) rfl #[.agg #[.slice Ao21 t20.length co21], .int .i64 1] rfl (by (try simp only [yiy, yjy, yky]); first | done | rfl | (simp only [yly, ymy]; rfl)) ?_; (with_reducible refine (laws_markTriangulation.calls k (fun k_ => loo21 ≤ k_ ∧ k_ < hio21) (.slice Ao21 t20.length co21) t20 1 m51 y52 w _ HB.out (ObS.row HOo21.out) H50.out).mono ?_); rintro e w22 ⟨rfl, hy, hb, hk0⟩; refine ⟨_, rfl, ?_⟩; have hk := hk0; have nM := Aside0.mk (ObS.marked HOo21.out hy hk.1); (try clear hczg3 hfzg3 hczg8 hfzg8 hczg10 hfzg10 hczg13 hfzg13); have nOo8 := Aside0.mk (ObS.kept HOo8.out hk (by have := HNg3.out; have := HNo8.out; have := HNo11.out; have := HNo14.out; have := HNo17.out; have := HNg8.out; have := HNo21.out; have := HNg10.out; have := HNo24.out; have := HNo27.out; have := HNo30.out; have := HNg13.out; have := HNo37.out; have := HNo42.out; have := HNo47.out; omega)); have nOo11 := Aside0.mk (ObR.kept HOo11.out hk (by have := HNg3.out; have := HNo8.out; have := HNo11.out; have := HNo14.out; have := HNo17.out; have := HNg8.out; have := HNo21.out; have := HNg10.out; have := HNo24.out; have := HNo27.out; have := HNo30.out; have := HNg13.out; have := HNo37.out; have := HNo42.out; have := HNo47.out; omega)); have nOo14 := Aside0.mk (ObR.kept HOo14.out hk (by have := HNg3.out; have := HNo8.out; have := HNo11.out; have := HNo14.out; have := HNo17.out; have := HNg8.out; have := HNo21.out; have := HNg10.out; have := HNo24.out; have := HNo27.out; have := HNo30.out; have := HNg13.out; have := HNo37.out; have := HNo42.out; have := HNo47.out; omega)); have nOo17 := Aside0.mk (ObS.kept HOo17.out hk (by have := HNg3.out; have := HNo8.out; have := HNo11.out; have := HNo14.out; have := HNo17.out; have := HNg8.out; have := HNo21.out; have := HNg10.out; have := HNo24.out; have := HNo27.out; have := HNo30.out; have := HNg13.out; have := HNo37.out; have := HNo42.out; have := HNo47.out; omega)); have nOo24 := Aside0.mk (ObR.kept HOo24.out hk (by have := HNg3.out; have := HNo8.out; have := HNo11.out; have := HNo14.out; have := HNo17.out; have := HNg8.out; have := HNo21.out; have := HNg10.out; have := HNo24.out; have := HNo27.out; have := HNo30.out; have := HNg13.out; have := HNo37.out; have := HNo42.out; have := HNo47.out; omega)); have nOo27 := Aside0.mk (ObR.kept HOo27.out hk (by have := HNg3.out; have := HNo8.out; have := HNo11.out; have := HNo14.out; have := HNo17.out; have := HNg8.out; have := HNo21.out; have := HNg10.out; have := HNo24.out; have := HNo27.out; have := HNo30.out; have := HNg13.out; have := HNo37.out; have := HNo42.out; have := HNo47.out; omega)); have nOo30 := Aside0.mk (ObS.kept HOo30.out hk (by have := HNg3.out; have := HNo8.out; have := HNo11.out; have := HNo14.out; have := HNo17.out; have := HNg8.out; have := HNo21.out; have := HNg10.out; have := HNo24.out; have := HNo27.out; have := HNo30.out; have := HNg13.out; have := HNo37.out; have := HNo42.out; have := HNo47.out; omega)); have nOo37 := Aside0.mk (ObS.kept HOo37.out hk (by have := HNg3.out; have := HNo8.out; have := HNo11.out; have := HNo14.out; have := HNo17.out; have := HNg8.out; have := HNo21.out; have := HNg10.out; have := HNo24.out; have := HNo27.out; have := HNo30.out; have := HNg13.out; have := HNo37.out; have := HNo42.out; have := HNo47.out; omega)); have nOo42 := Aside0.mk (ObR.kept HOo42.out hk (by have := HNg3.out; have := HNo8.out; have := HNo11.out; have := HNo14.out; have := HNo17.out; have := HNg8.out; have := HNo21.out; have := HNg10.out; have := HNo24.out; have := HNo27.out; have := HNo30.out; have := HNg13.out; have := HNo37.out; have := HNo42.out; have := HNo47.out; omega)); have nOo47 := Aside0.mk (ObR.kept HOo47.out hk (by have := HNg3.out; have := HNo8.out; have := HNo11.out; have := HNo14.out; have := HNo17.out; have := HNg8.out; have := HNo21.out; have := HNg10.out; have := HNo24.out; have := HNo27.out; have := HNo30.out; have := HNg13.out; have := HNo37.out; have := HNo42.out; have := HNo47.out; omega)); have nBg3 := Aside0.mk (blk_kept (g := g3) (o := .cells #[.slice A0 l0.length c0] 24 (0, 0)) BKg3.out hk (fun h_ => by have h1_ := h_.1; have h2_ := h_.2; have := HNg3.out; have := HNo8.out; have := HNo11.out; have := HNo14.out; have := HNo17.out; have := HNg8.out; have := HNo21.out; have := HNg10.out; have := HNo24.out; have := HNo27.out; have := HNo30.out; have := HNg13.out; have := HNo37.out; have := HNo42.out; have := HNo47.out; omega)); have nBg8 := Aside0.mk (blk_kept (g := g8) (o := .cells #[.slice Ao17 t16.length co17] 28 (0, 0)) BKg8.out hk (fun h_ => by have h1_ := h_.1; have h2_ := h_.2; have := HNg3.out; have := HNo8.out; have := HNo11.out; have := HNo14.out; have := HNo17.out; have := HNg8.out; have := HNo21.out; have := HNg10.out; have := HNo24.out; have := HNo27.out; have := HNo30.out; have := HNg13.out; have := HNo37.out; have := HNo42.out; have := HNo47.out; omega)); have nBg10 := Aside0.mk (blk_kept (g := g10) (o := .cells #[.slice Ao21 t20.length co21] 28 (0, 0)) BKg10.out hk (fun h_ => by have h1_ := h_.1; have h2_ := h_.2; have := HNg3.out; have := HNo8.out; have := HNo11.out; have := HNo14.out; have := HNo17.out; have := HNg8.out; have := HNo21.out; have := HNg10.out; have := HNo24.out; have := HNo27.out; have := HNo30.out; have := HNg13.out; have := HNo37.out; have := HNo42.out; have := HNo47.out; omega)); have nBg13 := Aside0.mk (blk_kept (g := g13) (o := .cells #[.slice Ao30 t29.length co30] 28 (0, 0)) BKg13.out hk (fun h_ => by have h1_ := h_.1; have h2_ := h_.2; have := HNg3.out; have := HNo8.out; have := HNo11.out; have := HNo14.out; have := HNo17.out; have := HNg8.out; have := HNo21.out; have := HNg10.out; have := HNo24.out; have := HNo27.out; have := HNo30.out; have := HNg13.out; have := HNo37.out; have := HNo42.out; have := HNo47.out; omega)); have nHT := Aside0.mk (Nat.le_trans HT.out hk.1); clear HB HT HOo8 HOo11 HOo14 HOo17 HOo21 HOo24 HOo27 HOo30 HOo37 HOo42 HOo47 BKg3 BKg8 BKg10 BKg13; have HOo8 := nOo8; have HOo11 := nOo11; have HOo14 := nOo14; have HOo17 := nOo17; have HOo21 := nM; have HOo24 := nOo24; have HOo27 := nOo27; have HOo30 := nOo30; have HOo37 := nOo37; have HOo42 := nOo42; have HOo47 := nOo47; have BKg3 := nBg3; have BKg8 := nBg8; have BKg10 := nBg10; have BKg13 := nBg13; have HB := Aside0.mk hb; have HT := nHT; (try clear hy); clear hb hk0 hk nM nHT nOo8 nOo11 nOo14 nOo17 nOo24 nOo27 nOo30 nOo37 nOo42 nOo47 nBg3 nBg8 nBg10 nBg13; have hczg3 : w22.cell? ⟨g3, 0, none⟩ = some (.slice A0 l0.length c0) := (blk_cell BKg3.out 0).trans rfl; have hfzg3 := blk_frozen BKg3.out 0; have hczg8 : w22.cell? ⟨g8, 0, none⟩ = some (.slice Ao17 t16.length co17) := (blk_cell BKg8.out 0).trans rfl; have hfzg8 := blk_frozen BKg8.out 0; have hczg10 : w22.cell? ⟨g10, 0, none⟩ = some (.slice Ao21 t20.length co21) := (blk_cell BKg10.out 0).trans rfl; have hfzg10 := blk_frozen BKg10.out 0; have hczg13 : w22.cell? ⟨g13, 0, none⟩ = some (.slice Ao30 t29.length co30) := (blk_cell BKg13.out 0).trans rfl; have hfzg13 := blk_frozen BKg13.out 0) | ((with_reducible refine gate_callee (f := 34) rfl ?_); refine goesL_ (some 83) rfl rfl Try.func34 (by kernel_rfl) rfl #[.slice Ao24 t23.length co24, .int .i64 m51] rfl (by (try simp only [yiy, yjy, yky]); first | done | rfl | (simp only [yly, ymy]; rfl)) ?_; (with_reducible refine (laws_markInt64S.calls k (fun k_ => some k_ = (.slice Ao24 t23.length co24 : Value).ownBlock) (.slice Ao24 t23.length co24) t23 m51 m54 y55 w _ HB.out (Kd.R_tight rfl (ObR.row HOo24.out)) H53.out).mono ?_); rintro e w23 ⟨rfl, hy, hb, hk0⟩; refine ⟨_, rfl, ?_⟩; have hk := ObR.range HOo24.out hk0; have nM := Aside0.mk (ObR.marked HOo24.out rfl hy hk.1); (try clear hczg3 hfzg3 hczg8 hfzg8 hczg10 hfzg10 hczg13 hfzg13); have nOo8 := Aside0.mk (ObS.kept HOo8.out hk (by have := HNg3.out; have := HNo8.out; have := HNo11.out; have := HNo14.out; have := HNo17.out; have := HNg8.out; have := HNo21.out; have := HNg10.out; have := HNo24.out; have := HNo27.out; have := HNo30.out; have := HNg13.out; have := HNo37.out; have := HNo42.out; have := HNo47.out; omega)); have nOo11 := Aside0.mk (ObR.kept HOo11.out hk (by have := HNg3.out; have := HNo8.out; have := HNo11.out; have := HNo14.out; have := HNo17.out; have := HNg8.out; have := HNo21.out; have := HNg10.out; have := HNo24.out; have := HNo27.out; have := HNo30.out; have := HNg13.out; have := HNo37.out; have := HNo42.out; have := HNo47.out; omega)); have nOo14 := Aside0.mk (ObR.kept HOo14.out hk (by have := HNg3.out; have := HNo8.out; have := HNo11.out; have := HNo14.out; have := HNo17.out; have := HNg8.out; have := HNo21.out; have := HNg10.out; have := HNo24.out; have := HNo27.out; have := HNo30.out; have := HNg13.out; have := HNo37.out; have := HNo42.out; have := HNo47.out; omega)); have nOo17 := Aside0.mk (ObS.kept HOo17.out hk (by have := HNg3.out; have := HNo8.out; have := HNo11.out; have := HNo14.out; have := HNo17.out; have := HNg8.out; have := HNo21.out; have := HNg10.out; have := HNo24.out; have := HNo27.out; have := HNo30.out; have := HNg13.out; have := HNo37.out; have := HNo42.out; have := HNo47.out; omega)); have nOo21 := Aside0.mk (ObS.kept HOo21.out hk (by have := HNg3.out; have := HNo8.out; have := HNo11.out; have := HNo14.out; have := HNo17.out; have := HNg8.out; have := HNo21.out; have := HNg10.out; have := HNo24.out; have := HNo27.out; have := HNo30.out; have := HNg13.out; have := HNo37.out; have := HNo42.out; have := HNo47.out; omega)); have nOo27 := Aside0.mk (ObR.kept HOo27.out hk (by have := HNg3.out; have := HNo8.out; have := HNo11.out; have := HNo14.out; have := HNo17.out; have := HNg8.out; have := HNo21.out; have := HNg10.out; have := HNo24.out; have := HNo27.out; have := HNo30.out; have := HNg13.out; have := HNo37.out; have := HNo42.out; have := HNo47.out; omega)); have nOo30 := Aside0.mk (ObS.kept HOo30.out hk (by have := HNg3.out; have := HNo8.out; have := HNo11.out; have := HNo14.out; have := HNo17.out; have := HNg8.out; have := HNo21.out; have := HNg10.out; have := HNo24.out; have := HNo27.out; have := HNo30.out; have := HNg13.out; have := HNo37.out; have := HNo42.out; have := HNo47.out; omega)); have nOo37 := Aside0.mk (ObS.kept HOo37.out hk (by have := HNg3.out; have := HNo8.out; have := HNo11.out; have := HNo14.out; have := HNo17.out; have := HNg8.out; have := HNo21.out; have := HNg10.out; have := HNo24.out; have := HNo27.out; have := HNo30.out; have := HNg13.out; have := HNo37.out; have := HNo42.out; have := HNo47.out; omega)); have nOo42 := Aside0.mk (ObR.kept HOo42.out hk (by have := HNg3.out; have := HNo8.out; have := HNo11.out; have := HNo14.out; have := HNo17.out; have := HNg8.out; have := HNo21.out; have := HNg10.out; have := HNo24.out; have := HNo27.out; have := HNo30.out; have := HNg13.out; have := HNo37.out; have := HNo42.out; have := HNo47.out; omega)); have nOo47 := Aside0.mk (ObR.kept HOo47.out hk (by have := HNg3.out; have := HNo8.out; have := HNo11.out; have := HNo14.out; have := HNo17.out; have := HNg8.out; have := HNo21.out; have := HNg10.out; have := HNo24.out; have := HNo27.out; have := HNo30.out; have := HNg13.out; have := HNo37.out; have := HNo42.out; have := HNo47.out; omega)); have nBg3 := Aside0.mk (blk_kept (g := g3) (o := .cells #[.slice A0 l0.length c0] 24 (0, 0)) BKg3.out hk (fun h_ => by have h1_ := h_.1; have h2_ := h_.2; have := HNg3.out; have := HNo8.out; have := HNo11.out; have := HNo14.out; have := HNo17.out; have := HNg8.out; have := HNo21.out; have := HNg10.out; have := HNo24.out; have := HNo27.out; have := HNo30.out; have := HNg13.out; have := HNo37.out; have := HNo42.out; have := HNo47.out; omega)); have nBg8 := Aside0.mk (blk_kept (g := g8) (o := .cells #[.slice Ao17 t16.length co17] 28 (0, 0)) BKg8.out hk (fun h_ => by have h1_ := h_.1; have h2_ := h_.2; have := HNg3.out; have := HNo8.out; have := HNo11.out; have := HNo14.out; have := HNo17.out; have := HNg8.out; have := HNo21.out; have := HNg10.out; have := HNo24.out; have := HNo27.out; have := HNo30.out; have := HNg13.out; have := HNo37.out; have := HNo42.out; have := HNo47.out; omega)); have nBg10 := Aside0.mk (blk_kept (g := g10) (o := .cells #[.slice Ao21 t20.length co21] 28 (0, 0)) BKg10.out hk (fun h_ => by have h1_ := h_.1; have h2_ := h_.2; have := HNg3.out; have := HNo8.out; have := HNo11.out; have := HNo14.out; have := HNo17.out; have := HNg8.out; have := HNo21.out; have := HNg10.out; have := HNo24.out; have := HNo27.out; have := HNo30.out; have := HNg13.out; have := HNo37.out; have := HNo42.out; have := HNo47.out; omega)); have nBg13 := Aside0.mk (blk_kept (g := g13) (o := .cells #[.slice Ao30 t29.length co30] 28 (0, 0)) BKg13.out hk (fun h_ => by have h1_ := h_.1; have h2_ := h_.2; have := HNg3.out; have := HNo8.out; have := HNo11.out; have := HNo14.out; have := HNo17.out; have := HNg8.out; have := HNo21.out; have := HNg10.out; have := HNo24.out; have := HNo27.out; have := HNo30.out; have := HNg13.out; have := HNo37.out; have := HNo42.out; have := HNo47.out; omega)); have nHT := Aside0.mk (Nat.le_trans HT.out hk.1); clear HB HT HOo8 HOo11 HOo14 HOo17 HOo21 HOo24 HOo27 HOo30 HOo37 HOo42 HOo47 BKg3 BKg8 BKg10 BKg13; have HOo8 := nOo8; have HOo11 := nOo11; have HOo14 := nOo14; have HOo17 := nOo17; have HOo21 := nOo21; have HOo24 := nM; have HOo27 := nOo27; have HOo30 := nOo30; have HOo37 := nOo37; have HOo42 := nOo42; have HOo47 := nOo47; have BKg3 := nBg3; have BKg8 := nBg8; have BKg10 := nBg10; have BKg13 := nBg13; have HB := Aside0.mk hb; have HT := nHT; (try clear hy); clear hb hk0 hk nM nHT nOo8 nOo11 nOo14 nOo17 nOo21 nOo27 nOo30 nOo37 nOo42 nOo47 nBg3 nBg8 nBg10 nBg13; have hczg3 : w23.cell? ⟨g3, 0, none⟩ = some (.slice A0 l0.length c0) := (blk_cell BKg3.out 0).trans rfl; have hfzg3 := blk_frozen BKg3.out 0; have hczg8 : w23.cell? ⟨g8, 0, none⟩ = some (.slice Ao17 t16.length co17) := (blk_cell BKg8.out 0).trans rfl; have hfzg8 := blk_frozen BKg8.out 0; have hczg10 : w23.cell? ⟨g10, 0, none⟩ = some (.slice Ao21 t20.length co21) := (blk_cell BKg10.out 0).trans rfl; have hfzg10 := blk_frozen BKg10.out 0; have hczg13 : w23.cell? ⟨g13, 0, none⟩ = some (.slice Ao30 t29.length co30) := (blk_cell BKg13.out 0).trans rfl; have hfzg13 := blk_frozen BKg13.out 0) | ((with_reducible refine gate_callee (f := 34) rfl ?_); refine goesL_ (some 86) rfl rfl Try.func34 (by kernel_rfl) rfl #[.slice Ao27 t26.length co27, .int .i64 m54] rfl (by (try simp only [yiy, yjy, yky]); first | done | rfl | (simp only [yly, ymy]; rfl)) ?_; (with_reducible refine (laws_markInt64S.calls k (fun k_ => some k_ = (.slice Ao27 t26.length co27 : Value).ownBlock) (.slice Ao27 t26.length co27) t26 m54 m57 y58 w _ HB.out (Kd.R_tight rfl (ObR.row HOo27.out)) H56.out).mono ?_); rintro e w24 ⟨rfl, hy, hb, hk0⟩; refine ⟨_, rfl, ?_⟩; have hk := ObR.range HOo27.out hk0; have nM := Aside0.mk (ObR.marked HOo27.out rfl hy hk.1); (try clear hczg3 hfzg3 hczg8 hfzg8 hczg10 hfzg10 hczg13 hfzg13); have nOo8 := Aside0.mk (ObS.kept HOo8.out hk (by have := HNg3.out; have := HNo8.out; have := HNo11.out; have := HNo14.out; have := HNo17.out; have := HNg8.out; have := HNo21.out; have := HNg10.out; have := HNo24.out; have := HNo27.out; have := HNo30.out; have := HNg13.out; have := HNo37.out; have := HNo42.out; have := HNo47.out; omega)); have nOo11 := Aside0.mk (ObR.kept HOo11.out hk (by have := HNg3.out; have := HNo8.out; have := HNo11.out; have := HNo14.out; have := HNo17.out; have := HNg8.out; have := HNo21.out; have := HNg10.out; have := HNo24.out; have := HNo27.out; have := HNo30.out; have := HNg13.out; have := HNo37.out; have := HNo42.out; have := HNo47.out; omega)); have nOo14 := Aside0.mk (ObR.kept HOo14.out hk (by have := HNg3.out; have := HNo8.out; have := HNo11.out; have := HNo14.out; have := HNo17.out; have := HNg8.out; have := HNo21.out; have := HNg10.out; have := HNo24.out; have := HNo27.out; have := HNo30.out; have := HNg13.out; have := HNo37.out; have := HNo42.out; have := HNo47.out; omega)); have nOo17 := Aside0.mk (ObS.kept HOo17.out hk (by have := HNg3.out; have := HNo8.out; have := HNo11.out; have := HNo14.out; have := HNo17.out; have := HNg8.out; have := HNo21.out; have := HNg10.out; have := HNo24.out; have := HNo27.out; have := HNo30.out; have := HNg13.out; have := HNo37.out; have := HNo42.out; have := HNo47.out; omega)); have nOo21 := Aside0.mk (ObS.kept HOo21.out hk (by have := HNg3.out; have := HNo8.out; have := HNo11.out; have := HNo14.out; have := HNo17.out; have := HNg8.out; have := HNo21.out; have := HNg10.out; have := HNo24.out; have := HNo27.out; have := HNo30.out; have := HNg13.out; have := HNo37.out; have := HNo42.out; have := HNo47.out; omega)); have nOo24 := Aside0.mk (ObR.kept HOo24.out hk (by have := HNg3.out; have := HNo8.out; have := HNo11.out; have := HNo14.out; have := HNo17.out; have := HNg8.out; have := HNo21.out; have := HNg10.out; have := HNo24.out; have := HNo27.out; have := HNo30.out; have := HNg13.out; have := HNo37.out; have := HNo42.out; have := HNo47.out; omega)); have nOo30 := Aside0.mk (ObS.kept HOo30.out hk (by have := HNg3.out; have := HNo8.out; have := HNo11.out; have := HNo14.out; have := HNo17.out; have := HNg8.out; have := HNo21.out; have := HNg10.out; have := HNo24.out; have := HNo27.out; have := HNo30.out; have := HNg13.out; have := HNo37.out; have := HNo42.out; have := HNo47.out; omega)); have nOo37 := Aside0.mk (ObS.kept HOo37.out hk (by have := HNg3.out; have := HNo8.out; have := HNo11.out; have := HNo14.out; have := HNo17.out; have := HNg8.out; have := HNo21.out; have := HNg10.out; have := HNo24.out; have := HNo27.out; have := HNo30.out; have := HNg13.out; have := HNo37.out; have := HNo42.out; have := HNo47.out; omega)); have nOo42 := Aside0.mk (ObR.kept HOo42.out hk (by have := HNg3.out; have := HNo8.out; have := HNo11.out; have := HNo14.out; have := HNo17.out; have := HNg8.out; have := HNo21.out; have := HNg10.out; have := HNo24.out; have := HNo27.out; have := HNo30.out; have := HNg13.out; have := HNo37.out; have := HNo42.out; have := HNo47.out; omega)); have nOo47 := Aside0.mk (ObR.kept HOo47.out hk (by have := HNg3.out; have := HNo8.out; have := HNo11.out; have := HNo14.out; have := HNo17.out; have := HNg8.out; have := HNo21.out; have := HNg10.out; have := HNo24.out; have := HNo27.out; have := HNo30.out; have := HNg13.out; have := HNo37.out; have := HNo42.out; have := HNo47.out; omega)); have nBg3 := Aside0.mk (blk_kept (g := g3) (o := .cells #[.slice A0 l0.length c0] 24 (0, 0)) BKg3.out hk (fun h_ => by have h1_ := h_.1; have h2_ := h_.2; have := HNg3.out; have := HNo8.out; have := HNo11.out; have := HNo14.out; have := HNo17.out; have := HNg8.out; have := HNo21.out; have := HNg10.out; have := HNo24.out; have := HNo27.out; have := HNo30.out; have := HNg13.out; have := HNo37.out; have := HNo42.out; have := HNo47.out; omega)); have nBg8 := Aside0.mk (blk_kept (g := g8) (o := .cells #[.slice Ao17 t16.length co17] 28 (0, 0)) BKg8.out hk (fun h_ => by have h1_ := h_.1; have h2_ := h_.2; have := HNg3.out; have := HNo8.out; have := HNo11.out; have := HNo14.out; have := HNo17.out; have := HNg8.out; have := HNo21.out; have := HNg10.out; have := HNo24.out; have := HNo27.out; have := HNo30.out; have := HNg13.out; have := HNo37.out; have := HNo42.out; have := HNo47.out; omega)); have nBg10 := Aside0.mk (blk_kept (g := g10) (o := .cells #[.slice Ao21 t20.length co21] 28 (0, 0)) BKg10.out hk (fun h_ => by have h1_ := h_.1; have h2_ := h_.2; have := HNg3.out; have := HNo8.out; have := HNo11.out; have := HNo14.out; have := HNo17.out; have := HNg8.out; have := HNo21.out; have := HNg10.out; have := HNo24.out; have := HNo27.out; have := HNo30.out; have := HNg13.out; have := HNo37.out; have := HNo42.out; have := HNo47.out; omega)); have nBg13 := Aside0.mk (blk_kept (g := g13) (o := .cells #[.slice Ao30 t29.length co30] 28 (0, 0)) BKg13.out hk (fun h_ => by have h1_ := h_.1; have h2_ := h_.2; have := HNg3.out; have := HNo8.out; have := HNo11.out; have := HNo14.out; have := HNo17.out; have := HNg8.out; have := HNo21.out; have := HNg10.out; have := HNo24.out; have := HNo27.out; have := HNo30.out; have := HNg13.out; have := HNo37.out; have := HNo42.out; have := HNo47.out; omega)); have nHT := Aside0.mk (Nat.le_trans HT.out hk.1); clear HB HT HOo8 HOo11 HOo14 HOo17 HOo21 HOo24 HOo27 HOo30 HOo37 HOo42 HOo47 BKg3 BKg8 BKg10 BKg13; have HOo8 := nOo8; have HOo11 := nOo11; have HOo14 := nOo14; have HOo17 := nOo17; have HOo21 := nOo21; have HOo24 := nOo24; have HOo27 := nM; have HOo30 := nOo30; have HOo37 := nOo37; have HOo42 := nOo42; have HOo47 := nOo47; have BKg3 := nBg3; have BKg8 := nBg8; have BKg10 := nBg10; have BKg13 := nBg13; have HB := Aside0.mk hb; have HT := nHT; (try clear hy); clear hb hk0 hk nM nHT nOo8 nOo11 nOo14 nOo17 nOo21 nOo24 nOo30 nOo37 nOo42 nOo47 nBg3 nBg8 nBg10 nBg13; have hczg3 : w24.cell? ⟨g3, 0, none⟩ = some (.slice A0 l0.length c0) := (blk_cell BKg3.out 0).trans rfl; have hfzg3 := blk_frozen BKg3.out 0; have hczg8 : w24.cell? ⟨g8, 0, none⟩ = some (.slice Ao17 t16.length co17) := (blk_cell BKg8.out 0).trans rfl; have hfzg8 := blk_frozen BKg8.out 0; have hczg10 : w24.cell? ⟨g10, 0, none⟩ = some (.slice Ao21 t20.length co21) := (blk_cell BKg10.out 0).trans rfl; have hfzg10 := blk_frozen BKg10.out 0; have hczg13 : w24.cell? ⟨g13, 0, none⟩ = some (.slice Ao30 t29.length co30) := (blk_cell BKg13.out 0).trans rfl; have hfzg13 := blk_frozen BKg13.out 0))
 try go_wp2_with (first | (go_at_call 19; (with_reducible refine (laws_eqTriangulation.calls k _ _ t29 _ _ t16 true _ ?side1 ?side2 ?side3 ?side4 H60.out).mono ?_); (case side1 => exact (ObS.reads HOo30.out).2.2); (case side2 => exact ObS.room HOo30.out); (case side3 => exact (ObS.reads HOo17.out).2.2); (case side4 => exact ObS.room HOo17.out); rintro e w25 ⟨rfl, hb⟩; (try clear hczg3 hfzg3 hczg8 hfzg8 hczg10 hfzg10 hczg13 hfzg13); have nOo8 := Aside0.mk (ObS.below HOo8.out hb); have nOo11 := Aside0.mk (ObR.below HOo11.out hb); have nOo14 := Aside0.mk (ObR.below HOo14.out hb); have nOo17 := Aside0.mk (ObS.below HOo17.out hb); have nOo21 := Aside0.mk (ObS.below HOo21.out hb); have nOo24 := Aside0.mk (ObR.below HOo24.out hb); have nOo27 := Aside0.mk (ObR.below HOo27.out hb); have nOo30 := Aside0.mk (ObS.below HOo30.out hb); have nOo37 := Aside0.mk (ObS.below HOo37.out hb); have nOo42 := Aside0.mk (ObR.below HOo42.out hb); have nOo47 := Aside0.mk (ObR.below HOo47.out hb); have nBg3 := Aside0.mk (blk_below (g := g3) (o := .cells #[.slice A0 l0.length c0] 24 (0, 0)) BKg3.out hb); have nBg8 := Aside0.mk (blk_below (g := g8) (o := .cells #[.slice Ao17 t16.length co17] 28 (0, 0)) BKg8.out hb); have nBg10 := Aside0.mk (blk_below (g := g10) (o := .cells #[.slice Ao21 t20.length co21] 28 (0, 0)) BKg10.out hb); have nBg13 := Aside0.mk (blk_below (g := g13) (o := .cells #[.slice Ao30 t29.length co30] 28 (0, 0)) BKg13.out hb); have nHB := Aside0.mk (below_step HB.out hb); have nHT := Aside0.mk (top_below HT.out hb); clear HB HT HOo8 HOo11 HOo14 HOo17 HOo21 HOo24 HOo27 HOo30 HOo37 HOo42 HOo47 BKg3 BKg8 BKg10 BKg13; have HOo8 := nOo8; have HOo11 := nOo11; have HOo14 := nOo14; have HOo17 := nOo17; have HOo21 := nOo21; have HOo24 := nOo24; have HOo27 := nOo27; have HOo30 := nOo30; have HOo37 := nOo37; have HOo42 := nOo42; have HOo47 := nOo47; have BKg3 := nBg3; have BKg8 := nBg8; have BKg10 := nBg10; have BKg13 := nBg13; have HB := nHB; have HT := nHT; clear nHB nHT nOo8 nOo11 nOo14 nOo17 nOo21 nOo24 nOo27 nOo30 nOo37 nOo42 nOo47 nBg3 nBg8 nBg10 nBg13; (try clear hb); (try clear hnd); have hczg3 : w25.cell? ⟨g3, 0, none⟩ = some (.slice A0 l0.length c0) := (blk_cell BKg3.out 0).trans rfl; have hfzg3 := blk_frozen BKg3.out 0; have hczg8 : w25.cell? ⟨g8, 0, none⟩ = some (.slice Ao17 t16.length co17) := (blk_cell BKg8.out 0).trans rfl; have hfzg8 := blk_frozen BKg8.out 0; have hczg10 : w25.cell? ⟨g10, 0, none⟩ = some (.slice Ao21 t20.length co21) := (blk_cell BKg10.out 0).trans rfl; have hfzg10 := blk_frozen BKg10.out 0; have hczg13 : w25.cell? ⟨g13, 0, none⟩ = some (.slice Ao30 t29.length co30) := (blk_cell BKg13.out 0).trans rfl; have hfzg13 := blk_frozen BKg13.out 0) | ((with_reducible refine gate_callee (f := 20) rfl ?_); refine goesL_ (some 102) rfl rfl Try.func20 (by kernel_rfl) rfl #[.agg #[.slice Ao30 t29.length co30], .int .i64 1] rfl (by (try simp only [yiy, yjy, yky]); first | done | rfl | (simp only [yly, ymy]; rfl)) ?_; (with_reducible refine (laws_markTriangulation.calls k (fun k_ => loo30 ≤ k_ ∧ k_ < hio30) (.slice Ao30 t29.length co30) t29 1 m64 y65 w _ HB.out (ObS.row HOo30.out) H63.out).mono ?_); rintro e w26 ⟨rfl, hy, hb, hk0⟩; refine ⟨_, rfl, ?_⟩; have hk := hk0; have nM := Aside0.mk (ObS.marked HOo30.out hy hk.1); (try clear hczg3 hfzg3 hczg8 hfzg8 hczg10 hfzg10 hczg13 hfzg13); have nOo8 := Aside0.mk (ObS.kept HOo8.out hk (by have := HNg3.out; have := HNo8.out; have := HNo11.out; have := HNo14.out; have := HNo17.out; have := HNg8.out; have := HNo21.out; have := HNg10.out; have := HNo24.out; have := HNo27.out; have := HNo30.out; have := HNg13.out; have := HNo37.out; have := HNo42.out; have := HNo47.out; omega)); have nOo11 := Aside0.mk (ObR.kept HOo11.out hk (by have := HNg3.out; have := HNo8.out; have := HNo11.out; have := HNo14.out; have := HNo17.out; have := HNg8.out; have := HNo21.out; have := HNg10.out; have := HNo24.out; have := HNo27.out; have := HNo30.out; have := HNg13.out; have := HNo37.out; have := HNo42.out; have := HNo47.out; omega)); have nOo14 := Aside0.mk (ObR.kept HOo14.out hk (by have := HNg3.out; have := HNo8.out; have := HNo11.out; have := HNo14.out; have := HNo17.out; have := HNg8.out; have := HNo21.out; have := HNg10.out; have := HNo24.out; have := HNo27.out; have := HNo30.out; have := HNg13.out; have := HNo37.out; have := HNo42.out; have := HNo47.out; omega)); have nOo17 := Aside0.mk (ObS.kept HOo17.out hk (by have := HNg3.out; have := HNo8.out; have := HNo11.out; have := HNo14.out; have := HNo17.out; have := HNg8.out; have := HNo21.out; have := HNg10.out; have := HNo24.out; have := HNo27.out; have := HNo30.out; have := HNg13.out; have := HNo37.out; have := HNo42.out; have := HNo47.out; omega)); have nOo21 := Aside0.mk (ObS.kept HOo21.out hk (by have := HNg3.out; have := HNo8.out; have := HNo11.out; have := HNo14.out; have := HNo17.out; have := HNg8.out; have := HNo21.out; have := HNg10.out; have := HNo24.out; have := HNo27.out; have := HNo30.out; have := HNg13.out; have := HNo37.out; have := HNo42.out; have := HNo47.out; omega)); have nOo24 := Aside0.mk (ObR.kept HOo24.out hk (by have := HNg3.out; have := HNo8.out; have := HNo11.out; have := HNo14.out; have := HNo17.out; have := HNg8.out; have := HNo21.out; have := HNg10.out; have := HNo24.out; have := HNo27.out; have := HNo30.out; have := HNg13.out; have := HNo37.out; have := HNo42.out; have := HNo47.out; omega)); have nOo27 := Aside0.mk (ObR.kept HOo27.out hk (by have := HNg3.out; have := HNo8.out; have := HNo11.out; have := HNo14.out; have := HNo17.out; have := HNg8.out; have := HNo21.out; have := HNg10.out; have := HNo24.out; have := HNo27.out; have := HNo30.out; have := HNg13.out; have := HNo37.out; have := HNo42.out; have := HNo47.out; omega)); have nOo37 := Aside0.mk (ObS.kept HOo37.out hk (by have := HNg3.out; have := HNo8.out; have := HNo11.out; have := HNo14.out; have := HNo17.out; have := HNg8.out; have := HNo21.out; have := HNg10.out; have := HNo24.out; have := HNo27.out; have := HNo30.out; have := HNg13.out; have := HNo37.out; have := HNo42.out; have := HNo47.out; omega)); have nOo42 := Aside0.mk (ObR.kept HOo42.out hk (by have := HNg3.out; have := HNo8.out; have := HNo11.out; have := HNo14.out; have := HNo17.out; have := HNg8.out; have := HNo21.out; have := HNg10.out; have := HNo24.out; have := HNo27.out; have := HNo30.out; have := HNg13.out; have := HNo37.out; have := HNo42.out; have := HNo47.out; omega)); have nOo47 := Aside0.mk (ObR.kept HOo47.out hk (by have := HNg3.out; have := HNo8.out; have := HNo11.out; have := HNo14.out; have := HNo17.out; have := HNg8.out; have := HNo21.out; have := HNg10.out; have := HNo24.out; have := HNo27.out; have := HNo30.out; have := HNg13.out; have := HNo37.out; have := HNo42.out; have := HNo47.out; omega)); have nBg3 := Aside0.mk (blk_kept (g := g3) (o := .cells #[.slice A0 l0.length c0] 24 (0, 0)) BKg3.out hk (fun h_ => by have h1_ := h_.1; have h2_ := h_.2; have := HNg3.out; have := HNo8.out; have := HNo11.out; have := HNo14.out; have := HNo17.out; have := HNg8.out; have := HNo21.out; have := HNg10.out; have := HNo24.out; have := HNo27.out; have := HNo30.out; have := HNg13.out; have := HNo37.out; have := HNo42.out; have := HNo47.out; omega)); have nBg8 := Aside0.mk (blk_kept (g := g8) (o := .cells #[.slice Ao17 t16.length co17] 28 (0, 0)) BKg8.out hk (fun h_ => by have h1_ := h_.1; have h2_ := h_.2; have := HNg3.out; have := HNo8.out; have := HNo11.out; have := HNo14.out; have := HNo17.out; have := HNg8.out; have := HNo21.out; have := HNg10.out; have := HNo24.out; have := HNo27.out; have := HNo30.out; have := HNg13.out; have := HNo37.out; have := HNo42.out; have := HNo47.out; omega)); have nBg10 := Aside0.mk (blk_kept (g := g10) (o := .cells #[.slice Ao21 t20.length co21] 28 (0, 0)) BKg10.out hk (fun h_ => by have h1_ := h_.1; have h2_ := h_.2; have := HNg3.out; have := HNo8.out; have := HNo11.out; have := HNo14.out; have := HNo17.out; have := HNg8.out; have := HNo21.out; have := HNg10.out; have := HNo24.out; have := HNo27.out; have := HNo30.out; have := HNg13.out; have := HNo37.out; have := HNo42.out; have := HNo47.out; omega)); have nBg13 := Aside0.mk (blk_kept (g := g13) (o := .cells #[.slice Ao30 t29.length co30] 28 (0, 0)) BKg13.out hk (fun h_ => by have h1_ := h_.1; have h2_ := h_.2; have := HNg3.out; have := HNo8.out; have := HNo11.out; have := HNo14.out; have := HNo17.out; have := HNg8.out; have := HNo21.out; have := HNg10.out; have := HNo24.out; have := HNo27.out; have := HNo30.out; have := HNg13.out; have := HNo37.out; have := HNo42.out; have := HNo47.out; omega)); have nHT := Aside0.mk (Nat.le_trans HT.out hk.1); clear HB HT HOo8 HOo11 HOo14 HOo17 HOo21 HOo24 HOo27 HOo30 HOo37 HOo42 HOo47 BKg3 BKg8 BKg10 BKg13; have HOo8 := nOo8; have HOo11 := nOo11; have HOo14 := nOo14; have HOo17 := nOo17; have HOo21 := nOo21; have HOo24 := nOo24; have HOo27 := nOo27; have HOo30 := nM; have HOo37 := nOo37; have HOo42 := nOo42; have HOo47 := nOo47; have BKg3 := nBg3; have BKg8 := nBg8; have BKg10 := nBg10; have BKg13 := nBg13; have HB := Aside0.mk hb; have HT := nHT; (try clear hy); clear hb hk0 hk nM nHT nOo8 nOo11 nOo14 nOo17 nOo21 nOo24 nOo27 nOo37 nOo42 nOo47 nBg3 nBg8 nBg10 nBg13; have hczg3 : w26.cell? ⟨g3, 0, none⟩ = some (.slice A0 l0.length c0) := (blk_cell BKg3.out 0).trans rfl; have hfzg3 := blk_frozen BKg3.out 0; have hczg8 : w26.cell? ⟨g8, 0, none⟩ = some (.slice Ao17 t16.length co17) := (blk_cell BKg8.out 0).trans rfl; have hfzg8 := blk_frozen BKg8.out 0; have hczg10 : w26.cell? ⟨g10, 0, none⟩ = some (.slice Ao21 t20.length co21) := (blk_cell BKg10.out 0).trans rfl; have hfzg10 := blk_frozen BKg10.out 0; have hczg13 : w26.cell? ⟨g13, 0, none⟩ = some (.slice Ao30 t29.length co30) := (blk_cell BKg13.out 0).trans rfl; have hfzg13 := blk_frozen BKg13.out 0) | ((with_reducible refine gate_callee (f := 21) rfl ?_); refine goesL_ (some 105) rfl rfl Try.func21 (by kernel_rfl) rfl #[.agg #[.slice Ao30 y65.length co30], .int .i64 1] rfl (by (try simp only [yiy, yjy, yky]); first | done | (rw [show y65.length = t29.length from (ObS.reads HOo30.out).1.symm] <;> rfl) | rfl | (simp only [yly, ymy]; rfl)) ?_; (with_reducible refine (laws_heldTriangulation.calls k _ _ y65 1 t67 _ ?side1 ?side2 H66.out).mono ?_); (case side1 => exact (ObS.reads HOo30.out).2.2); (case side2 => exact ObS.room HOo30.out); rintro e w27 ⟨rfl, hb⟩; refine ⟨_, rfl, ?_⟩; (try clear hczg3 hfzg3 hczg8 hfzg8 hczg10 hfzg10 hczg13 hfzg13); have nOo8 := Aside0.mk (ObS.below HOo8.out hb); have nOo11 := Aside0.mk (ObR.below HOo11.out hb); have nOo14 := Aside0.mk (ObR.below HOo14.out hb); have nOo17 := Aside0.mk (ObS.below HOo17.out hb); have nOo21 := Aside0.mk (ObS.below HOo21.out hb); have nOo24 := Aside0.mk (ObR.below HOo24.out hb); have nOo27 := Aside0.mk (ObR.below HOo27.out hb); have nOo30 := Aside0.mk (ObS.below HOo30.out hb); have nOo37 := Aside0.mk (ObS.below HOo37.out hb); have nOo42 := Aside0.mk (ObR.below HOo42.out hb); have nOo47 := Aside0.mk (ObR.below HOo47.out hb); have nBg3 := Aside0.mk (blk_below (g := g3) (o := .cells #[.slice A0 l0.length c0] 24 (0, 0)) BKg3.out hb); have nBg8 := Aside0.mk (blk_below (g := g8) (o := .cells #[.slice Ao17 t16.length co17] 28 (0, 0)) BKg8.out hb); have nBg10 := Aside0.mk (blk_below (g := g10) (o := .cells #[.slice Ao21 t20.length co21] 28 (0, 0)) BKg10.out hb); have nBg13 := Aside0.mk (blk_below (g := g13) (o := .cells #[.slice Ao30 t29.length co30] 28 (0, 0)) BKg13.out hb); have nHB := Aside0.mk (below_step HB.out hb); have nHT := Aside0.mk (top_below HT.out hb); clear HB HT HOo8 HOo11 HOo14 HOo17 HOo21 HOo24 HOo27 HOo30 HOo37 HOo42 HOo47 BKg3 BKg8 BKg10 BKg13; have HOo8 := nOo8; have HOo11 := nOo11; have HOo14 := nOo14; have HOo17 := nOo17; have HOo21 := nOo21; have HOo24 := nOo24; have HOo27 := nOo27; have HOo30 := nOo30; have HOo37 := nOo37; have HOo42 := nOo42; have HOo47 := nOo47; have BKg3 := nBg3; have BKg8 := nBg8; have BKg10 := nBg10; have BKg13 := nBg13; have HB := nHB; have HT := nHT; clear nHB nHT nOo8 nOo11 nOo14 nOo17 nOo21 nOo24 nOo27 nOo30 nOo37 nOo42 nOo47 nBg3 nBg8 nBg10 nBg13; (try clear hb); (try clear hnd); have hczg3 : w27.cell? ⟨g3, 0, none⟩ = some (.slice A0 l0.length c0) := (blk_cell BKg3.out 0).trans rfl; have hfzg3 := blk_frozen BKg3.out 0; have hczg8 : w27.cell? ⟨g8, 0, none⟩ = some (.slice Ao17 t16.length co17) := (blk_cell BKg8.out 0).trans rfl; have hfzg8 := blk_frozen BKg8.out 0; have hczg10 : w27.cell? ⟨g10, 0, none⟩ = some (.slice Ao21 t20.length co21) := (blk_cell BKg10.out 0).trans rfl; have hfzg10 := blk_frozen BKg10.out 0; have hczg13 : w27.cell? ⟨g13, 0, none⟩ = some (.slice Ao30 t29.length co30) := (blk_cell BKg13.out 0).trans rfl; have hfzg13 := blk_frozen BKg13.out 0) | ((with_reducible refine gate_callee (f := 17) rfl ?_); refine goesL_ (some 113) rfl rfl Try.func17 (by kernel_rfl) rfl #[.agg #[.slice A0 l0.length c0]] rfl (by (try simp only [yiy, yjy, yky]); first | done | rfl | (simp only [yly, ymy]; rfl)) ?_; (with_reducible refine (laws_toTriangulation.calls k _ _ l0 t71 _ ?side1 ?side2 H70.out).mono ?_); (case side1 => exact Kd.C_below HR0.out HB.out); (case side2 => exact HC0.out); rintro e w28 ⟨vo72, rfl, ho0, hb⟩; refine ⟨_, rfl, ?_⟩; (try clear hczg3 hfzg3 hczg8 hfzg8 hczg10 hfzg10 hczg13 hfzg13); obtain ⟨loo72, hio72, hno72⟩ := ObS.made ho0 hb HT.out (below_size HB.out); have nOo8 := Aside0.mk (ObS.below HOo8.out hb); have nOo11 := Aside0.mk (ObR.below HOo11.out hb); have nOo14 := Aside0.mk (ObR.below HOo14.out hb); have nOo17 := Aside0.mk (ObS.below HOo17.out hb); have nOo21 := Aside0.mk (ObS.below HOo21.out hb); have nOo24 := Aside0.mk (ObR.below HOo24.out hb); have nOo27 := Aside0.mk (ObR.below HOo27.out hb); have nOo30 := Aside0.mk (ObS.below HOo30.out hb); have nOo37 := Aside0.mk (ObS.below HOo37.out hb); have nOo42 := Aside0.mk (ObR.below HOo42.out hb); have nOo47 := Aside0.mk (ObR.below HOo47.out hb); have nBg3 := Aside0.mk (blk_below (g := g3) (o := .cells #[.slice A0 l0.length c0] 24 (0, 0)) BKg3.out hb); have nBg8 := Aside0.mk (blk_below (g := g8) (o := .cells #[.slice Ao17 t16.length co17] 28 (0, 0)) BKg8.out hb); have nBg10 := Aside0.mk (blk_below (g := g10) (o := .cells #[.slice Ao21 t20.length co21] 28 (0, 0)) BKg10.out hb); have nBg13 := Aside0.mk (blk_below (g := g13) (o := .cells #[.slice Ao30 t29.length co30] 28 (0, 0)) BKg13.out hb); have nHB := Aside0.mk (below_step HB.out hb); have nHT := Aside0.mk (top_below HT.out hb); clear HB HT HOo8 HOo11 HOo14 HOo17 HOo21 HOo24 HOo27 HOo30 HOo37 HOo42 HOo47 BKg3 BKg8 BKg10 BKg13; have HOo8 := nOo8; have HOo11 := nOo11; have HOo14 := nOo14; have HOo17 := nOo17; have HOo21 := nOo21; have HOo24 := nOo24; have HOo27 := nOo27; have HOo30 := nOo30; have HOo37 := nOo37; have HOo42 := nOo42; have HOo47 := nOo47; have BKg3 := nBg3; have BKg8 := nBg8; have BKg10 := nBg10; have BKg13 := nBg13; have HB := nHB; have HT := nHT; clear nHB nHT nOo8 nOo11 nOo14 nOo17 nOo21 nOo24 nOo27 nOo30 nOo37 nOo42 nOo47 nBg3 nBg8 nBg10 nBg13; have HNo72 := Aside0.mk hno72.1; clear HT; have HT := Aside0.mk hno72.2.1; have HOo72 := Aside0.mk hno72.2.2; clear hno72 ho0; obtain ⟨Ao72, co72, eeo72⟩ := HOo72.out.slice; subst eeo72; (try clear hb); (try clear hnd); have hczg3 : w28.cell? ⟨g3, 0, none⟩ = some (.slice A0 l0.length c0) := (blk_cell BKg3.out 0).trans rfl; have hfzg3 := blk_frozen BKg3.out 0; have hczg8 : w28.cell? ⟨g8, 0, none⟩ = some (.slice Ao17 t16.length co17) := (blk_cell BKg8.out 0).trans rfl; have hfzg8 := blk_frozen BKg8.out 0; have hczg10 : w28.cell? ⟨g10, 0, none⟩ = some (.slice Ao21 t20.length co21) := (blk_cell BKg10.out 0).trans rfl; have hfzg10 := blk_frozen BKg10.out 0; have hczg13 : w28.cell? ⟨g13, 0, none⟩ = some (.slice Ao30 t29.length co30) := (blk_cell BKg13.out 0).trans rfl; have hfzg13 := blk_frozen BKg13.out 0) | ((with_reducible refine gate_callee (f := 31) rfl ?_); refine goesL_ (some 115) rfl rfl Try.func31 (by kernel_rfl) rfl #[.slice A1 l1.length c1] rfl (by (try simp only [yiy, yjy, yky]); first | done | rfl | (simp only [yly, ymy]; rfl)) ?_; (with_reducible refine (laws_toInt64S.calls k _ _ l1 t74 _ ?side1 ?side2 H73.out).mono ?_); (case side1 => exact Kd.C_below HR1.out HB.out); (case side2 => exact HC1.out); rintro e w29 ⟨vo75, rfl, ho0, hb⟩; refine ⟨_, rfl, ?_⟩; (try clear hczg3 hfzg3 hczg8 hfzg8 hczg10 hfzg10 hczg13 hfzg13); obtain ⟨loo75, hio75, hno75⟩ := ObR.made ho0 hb HT.out (below_size HB.out); have nOo8 := Aside0.mk (ObS.below HOo8.out hb); have nOo11 := Aside0.mk (ObR.below HOo11.out hb); have nOo14 := Aside0.mk (ObR.below HOo14.out hb); have nOo17 := Aside0.mk (ObS.below HOo17.out hb); have nOo21 := Aside0.mk (ObS.below HOo21.out hb); have nOo24 := Aside0.mk (ObR.below HOo24.out hb); have nOo27 := Aside0.mk (ObR.below HOo27.out hb); have nOo30 := Aside0.mk (ObS.below HOo30.out hb); have nOo37 := Aside0.mk (ObS.below HOo37.out hb); have nOo42 := Aside0.mk (ObR.below HOo42.out hb); have nOo47 := Aside0.mk (ObR.below HOo47.out hb); have nOo72 := Aside0.mk (ObS.below HOo72.out hb); have nBg3 := Aside0.mk (blk_below (g := g3) (o := .cells #[.slice A0 l0.length c0] 24 (0, 0)) BKg3.out hb); have nBg8 := Aside0.mk (blk_below (g := g8) (o := .cells #[.slice Ao17 t16.length co17] 28 (0, 0)) BKg8.out hb); have nBg10 := Aside0.mk (blk_below (g := g10) (o := .cells #[.slice Ao21 t20.length co21] 28 (0, 0)) BKg10.out hb); have nBg13 := Aside0.mk (blk_below (g := g13) (o := .cells #[.slice Ao30 t29.length co30] 28 (0, 0)) BKg13.out hb); have nHB := Aside0.mk (below_step HB.out hb); have nHT := Aside0.mk (top_below HT.out hb); clear HB HT HOo8 HOo11 HOo14 HOo17 HOo21 HOo24 HOo27 HOo30 HOo37 HOo42 HOo47 HOo72 BKg3 BKg8 BKg10 BKg13; have HOo8 := nOo8; have HOo11 := nOo11; have HOo14 := nOo14; have HOo17 := nOo17; have HOo21 := nOo21; have HOo24 := nOo24; have HOo27 := nOo27; have HOo30 := nOo30; have HOo37 := nOo37; have HOo42 := nOo42; have HOo47 := nOo47; have HOo72 := nOo72; have BKg3 := nBg3; have BKg8 := nBg8; have BKg10 := nBg10; have BKg13 := nBg13; have HB := nHB; have HT := nHT; clear nHB nHT nOo8 nOo11 nOo14 nOo17 nOo21 nOo24 nOo27 nOo30 nOo37 nOo42 nOo47 nOo72 nBg3 nBg8 nBg10 nBg13; have HNo75 := Aside0.mk hno75.1; clear HT; have HT := Aside0.mk hno75.2.1; have HOo75 := Aside0.mk hno75.2.2; clear hno75 ho0; obtain ⟨Ao75, co75, eeo75⟩ := HOo75.out.slice; subst eeo75; (try clear hb); (try clear hnd); have hczg3 : w29.cell? ⟨g3, 0, none⟩ = some (.slice A0 l0.length c0) := (blk_cell BKg3.out 0).trans rfl; have hfzg3 := blk_frozen BKg3.out 0; have hczg8 : w29.cell? ⟨g8, 0, none⟩ = some (.slice Ao17 t16.length co17) := (blk_cell BKg8.out 0).trans rfl; have hfzg8 := blk_frozen BKg8.out 0; have hczg10 : w29.cell? ⟨g10, 0, none⟩ = some (.slice Ao21 t20.length co21) := (blk_cell BKg10.out 0).trans rfl; have hfzg10 := blk_frozen BKg10.out 0; have hczg13 : w29.cell? ⟨g13, 0, none⟩ = some (.slice Ao30 t29.length co30) := (blk_cell BKg13.out 0).trans rfl; have hfzg13 := blk_frozen BKg13.out 0) | ((with_reducible refine gate_callee (f := 31) rfl ?_); refine goesL_ (some 117) rfl rfl Try.func31 (by kernel_rfl) rfl #[.slice A2 l2.length c2] rfl (by (try simp only [yiy, yjy, yky]); first | done | rfl | (simp only [yly, ymy]; rfl)) ?_; (with_reducible refine (laws_toInt64S.calls k _ _ l2 t77 _ ?side1 ?side2 H76.out).mono ?_); (case side1 => exact Kd.C_below HR2.out HB.out); (case side2 => exact HC2.out); rintro e w30 ⟨vo78, rfl, ho0, hb⟩; refine ⟨_, rfl, ?_⟩; (try clear hczg3 hfzg3 hczg8 hfzg8 hczg10 hfzg10 hczg13 hfzg13); obtain ⟨loo78, hio78, hno78⟩ := ObR.made ho0 hb HT.out (below_size HB.out); have nOo8 := Aside0.mk (ObS.below HOo8.out hb); have nOo11 := Aside0.mk (ObR.below HOo11.out hb); have nOo14 := Aside0.mk (ObR.below HOo14.out hb); have nOo17 := Aside0.mk (ObS.below HOo17.out hb); have nOo21 := Aside0.mk (ObS.below HOo21.out hb); have nOo24 := Aside0.mk (ObR.below HOo24.out hb); have nOo27 := Aside0.mk (ObR.below HOo27.out hb); have nOo30 := Aside0.mk (ObS.below HOo30.out hb); have nOo37 := Aside0.mk (ObS.below HOo37.out hb); have nOo42 := Aside0.mk (ObR.below HOo42.out hb); have nOo47 := Aside0.mk (ObR.below HOo47.out hb); have nOo72 := Aside0.mk (ObS.below HOo72.out hb); have nOo75 := Aside0.mk (ObR.below HOo75.out hb); have nBg3 := Aside0.mk (blk_below (g := g3) (o := .cells #[.slice A0 l0.length c0] 24 (0, 0)) BKg3.out hb); have nBg8 := Aside0.mk (blk_below (g := g8) (o := .cells #[.slice Ao17 t16.length co17] 28 (0, 0)) BKg8.out hb); have nBg10 := Aside0.mk (blk_below (g := g10) (o := .cells #[.slice Ao21 t20.length co21] 28 (0, 0)) BKg10.out hb); have nBg13 := Aside0.mk (blk_below (g := g13) (o := .cells #[.slice Ao30 t29.length co30] 28 (0, 0)) BKg13.out hb); have nHB := Aside0.mk (below_step HB.out hb); have nHT := Aside0.mk (top_below HT.out hb); clear HB HT HOo8 HOo11 HOo14 HOo17 HOo21 HOo24 HOo27 HOo30 HOo37 HOo42 HOo47 HOo72 HOo75 BKg3 BKg8 BKg10 BKg13; have HOo8 := nOo8; have HOo11 := nOo11; have HOo14 := nOo14; have HOo17 := nOo17; have HOo21 := nOo21; have HOo24 := nOo24; have HOo27 := nOo27; have HOo30 := nOo30; have HOo37 := nOo37; have HOo42 := nOo42; have HOo47 := nOo47; have HOo72 := nOo72; have HOo75 := nOo75; have BKg3 := nBg3; have BKg8 := nBg8; have BKg10 := nBg10; have BKg13 := nBg13; have HB := nHB; have HT := nHT; clear nHB nHT nOo8 nOo11 nOo14 nOo17 nOo21 nOo24 nOo27 nOo30 nOo37 nOo42 nOo47 nOo72 nOo75 nBg3 nBg8 nBg10 nBg13; have HNo78 := Aside0.mk hno78.1; clear HT; have HT := Aside0.mk hno78.2.1; have HOo78 := Aside0.mk hno78.2.2; clear hno78 ho0; obtain ⟨Ao78, co78, eeo78⟩ := HOo78.out.slice; subst eeo78; (try clear hb); (try clear hnd); have hczg3 : w30.cell? ⟨g3, 0, none⟩ = some (.slice A0 l0.length c0) := (blk_cell BKg3.out 0).trans rfl; have hfzg3 := blk_frozen BKg3.out 0; have hczg8 : w30.cell? ⟨g8, 0, none⟩ = some (.slice Ao17 t16.length co17) := (blk_cell BKg8.out 0).trans rfl; have hfzg8 := blk_frozen BKg8.out 0; have hczg10 : w30.cell? ⟨g10, 0, none⟩ = some (.slice Ao21 t20.length co21) := (blk_cell BKg10.out 0).trans rfl; have hfzg10 := blk_frozen BKg10.out 0; have hczg13 : w30.cell? ⟨g13, 0, none⟩ = some (.slice Ao30 t29.length co30) := (blk_cell BKg13.out 0).trans rfl; have hfzg13 := blk_frozen BKg13.out 0) | ((with_reducible refine gate_callee (f := 32) rfl ?_); refine goesL_ (some 118) rfl rfl Try.func32 (by kernel_rfl) rfl #[.agg #[.slice Ao72 t71.length co72], .slice Ao75 t74.length co75, .slice Ao78 t77.length co78] rfl (by (try simp only [yiy, yjy, yky]); first | done | rfl | (simp only [yly, ymy]; rfl)) ?_; (with_reducible refine (impl_RelabelTriangulation.calls k _ _ t71 _ _ t74 _ _ t77 t80 t82 _ ?side1 ?side2 ?side3 ?side4 ?side5 ?side6 H79.out).mono ?_); (case side1 => exact (ObS.reads HOo72.out).2.2); (case side2 => exact ObS.room HOo72.out); (case side3 => exact (ObR.reads HOo75.out).2.2); (case side4 => exact ObR.room HOo75.out); (case side5 => exact (ObR.reads HOo78.out).2.2); (case side6 => exact ObR.room HOo78.out); rintro e w31 ⟨vo81, rfl, ho0, hb⟩; refine ⟨_, rfl, ?_⟩; (try clear hczg3 hfzg3 hczg8 hfzg8 hczg10 hfzg10 hczg13 hfzg13); obtain ⟨loo81, hio81, hno81⟩ := ObS.made ho0 hb HT.out (below_size HB.out); have nOo8 := Aside0.mk (ObS.below HOo8.out hb); have nOo11 := Aside0.mk (ObR.below HOo11.out hb); have nOo14 := Aside0.mk (ObR.below HOo14.out hb); have nOo17 := Aside0.mk (ObS.below HOo17.out hb); have nOo21 := Aside0.mk (ObS.below HOo21.out hb); have nOo24 := Aside0.mk (ObR.below HOo24.out hb); have nOo27 := Aside0.mk (ObR.below HOo27.out hb); have nOo30 := Aside0.mk (ObS.below HOo30.out hb); have nOo37 := Aside0.mk (ObS.below HOo37.out hb); have nOo42 := Aside0.mk (ObR.below HOo42.out hb); have nOo47 := Aside0.mk (ObR.below HOo47.out hb); have nOo72 := Aside0.mk (ObS.below HOo72.out hb); have nOo75 := Aside0.mk (ObR.below HOo75.out hb); have nOo78 := Aside0.mk (ObR.below HOo78.out hb); have nBg3 := Aside0.mk (blk_below (g := g3) (o := .cells #[.slice A0 l0.length c0] 24 (0, 0)) BKg3.out hb); have nBg8 := Aside0.mk (blk_below (g := g8) (o := .cells #[.slice Ao17 t16.length co17] 28 (0, 0)) BKg8.out hb); have nBg10 := Aside0.mk (blk_below (g := g10) (o := .cells #[.slice Ao21 t20.length co21] 28 (0, 0)) BKg10.out hb); have nBg13 := Aside0.mk (blk_below (g := g13) (o := .cells #[.slice Ao30 t29.length co30] 28 (0, 0)) BKg13.out hb); have nHB := Aside0.mk (below_step HB.out hb); have nHT := Aside0.mk (top_below HT.out hb); clear HB HT HOo8 HOo11 HOo14 HOo17 HOo21 HOo24 HOo27 HOo30 HOo37 HOo42 HOo47 HOo72 HOo75 HOo78 BKg3 BKg8 BKg10 BKg13; have HOo8 := nOo8; have HOo11 := nOo11; have HOo14 := nOo14; have HOo17 := nOo17; have HOo21 := nOo21; have HOo24 := nOo24; have HOo27 := nOo27; have HOo30 := nOo30; have HOo37 := nOo37; have HOo42 := nOo42; have HOo47 := nOo47; have HOo72 := nOo72; have HOo75 := nOo75; have HOo78 := nOo78; have BKg3 := nBg3; have BKg8 := nBg8; have BKg10 := nBg10; have BKg13 := nBg13; have HB := nHB; have HT := nHT; clear nHB nHT nOo8 nOo11 nOo14 nOo17 nOo21 nOo24 nOo27 nOo30 nOo37 nOo42 nOo47 nOo72 nOo75 nOo78 nBg3 nBg8 nBg10 nBg13; have HNo81 := Aside0.mk hno81.1; clear HT; have HT := Aside0.mk hno81.2.1; have HOo81 := Aside0.mk hno81.2.2; clear hno81 ho0; obtain ⟨Ao81, co81, eeo81⟩ := HOo81.out.slice; subst eeo81; (try clear hb); (try clear hnd); have hczg3 : w31.cell? ⟨g3, 0, none⟩ = some (.slice A0 l0.length c0) := (blk_cell BKg3.out 0).trans rfl; have hfzg3 := blk_frozen BKg3.out 0; have hczg8 : w31.cell? ⟨g8, 0, none⟩ = some (.slice Ao17 t16.length co17) := (blk_cell BKg8.out 0).trans rfl; have hfzg8 := blk_frozen BKg8.out 0; have hczg10 : w31.cell? ⟨g10, 0, none⟩ = some (.slice Ao21 t20.length co21) := (blk_cell BKg10.out 0).trans rfl; have hfzg10 := blk_frozen BKg10.out 0; have hczg13 : w31.cell? ⟨g13, 0, none⟩ = some (.slice Ao30 t29.length co30) := (blk_cell BKg13.out 0).trans rfl; have hfzg13 := blk_frozen BKg13.out 0) | ((with_reducible refine gate_dst (N := 18) rfl ?_); refine box_event ?hg (N := 18) ?hd (cs := #[.slice none 0 0]) (t := 28) ?hr ?_; (case hd => rfl); (case hg => rfl); (case hr => first | (go_simp; done) | (go_simp; rfl)); intro g18 hg w32 hbox hb; (try clear hczg3 hfzg3 hczg8 hfzg8 hczg10 hfzg10 hczg13 hfzg13); have HNg18 := Aside0.mk (by rw [hg]; exact HT.out : hio81 ≤ g18); have HXg18 := Aside0.mk (show g18 + 1 ≤ w32.heap.size from blk_lt hbox); have nOo8 := Aside0.mk (ObS.below HOo8.out hb); have nOo11 := Aside0.mk (ObR.below HOo11.out hb); have nOo14 := Aside0.mk (ObR.below HOo14.out hb); have nOo17 := Aside0.mk (ObS.below HOo17.out hb); have nOo21 := Aside0.mk (ObS.below HOo21.out hb); have nOo24 := Aside0.mk (ObR.below HOo24.out hb); have nOo27 := Aside0.mk (ObR.below HOo27.out hb); have nOo30 := Aside0.mk (ObS.below HOo30.out hb); have nOo37 := Aside0.mk (ObS.below HOo37.out hb); have nOo42 := Aside0.mk (ObR.below HOo42.out hb); have nOo47 := Aside0.mk (ObR.below HOo47.out hb); have nOo72 := Aside0.mk (ObS.below HOo72.out hb); have nOo75 := Aside0.mk (ObR.below HOo75.out hb); have nOo78 := Aside0.mk (ObR.below HOo78.out hb); have nOo81 := Aside0.mk (ObS.below HOo81.out hb); have nBg3 := Aside0.mk (blk_below (g := g3) (o := .cells #[.slice A0 l0.length c0] 24 (0, 0)) BKg3.out hb); have nBg8 := Aside0.mk (blk_below (g := g8) (o := .cells #[.slice Ao17 t16.length co17] 28 (0, 0)) BKg8.out hb); have nBg10 := Aside0.mk (blk_below (g := g10) (o := .cells #[.slice Ao21 t20.length co21] 28 (0, 0)) BKg10.out hb); have nBg13 := Aside0.mk (blk_below (g := g13) (o := .cells #[.slice Ao30 t29.length co30] 28 (0, 0)) BKg13.out hb); have nHB := Aside0.mk (below_step HB.out hb); have nHT := Aside0.mk (top_below HT.out hb); clear HB HT HOo8 HOo11 HOo14 HOo17 HOo21 HOo24 HOo27 HOo30 HOo37 HOo42 HOo47 HOo72 HOo75 HOo78 HOo81 BKg3 BKg8 BKg10 BKg13; have HOo8 := nOo8; have HOo11 := nOo11; have HOo14 := nOo14; have HOo17 := nOo17; have HOo21 := nOo21; have HOo24 := nOo24; have HOo27 := nOo27; have HOo30 := nOo30; have HOo37 := nOo37; have HOo42 := nOo42; have HOo47 := nOo47; have HOo72 := nOo72; have HOo75 := nOo75; have HOo78 := nOo78; have HOo81 := nOo81; have BKg3 := nBg3; have BKg8 := nBg8; have BKg10 := nBg10; have BKg13 := nBg13; have HB := nHB; have HT := nHT; clear nHB nHT nOo8 nOo11 nOo14 nOo17 nOo21 nOo24 nOo27 nOo30 nOo37 nOo42 nOo47 nOo72 nOo75 nOo78 nOo81 nBg3 nBg8 nBg10 nBg13; clear HT; have HT := HXg18; clear HXg18; have BKg18 := Aside0.mk hbox; clear hg hbox hb; have hnbg18_g3 : g18 ≠ g3 := (by have := HNg3.out; have := HNo8.out; have := HNo11.out; have := HNo14.out; have := HNo17.out; have := HNg8.out; have := HNo21.out; have := HNg10.out; have := HNo24.out; have := HNo27.out; have := HNo30.out; have := HNg13.out; have := HNo37.out; have := HNo42.out; have := HNo47.out; have := HNo72.out; have := HNo75.out; have := HNo78.out; have := HNo81.out; have := HNg18.out; omega); have hnbg3_g18 : g3 ≠ g18 := (by have := HNg3.out; have := HNo8.out; have := HNo11.out; have := HNo14.out; have := HNo17.out; have := HNg8.out; have := HNo21.out; have := HNg10.out; have := HNo24.out; have := HNo27.out; have := HNo30.out; have := HNg13.out; have := HNo37.out; have := HNo42.out; have := HNo47.out; have := HNo72.out; have := HNo75.out; have := HNo78.out; have := HNo81.out; have := HNg18.out; omega); have hnbg18_g8 : g18 ≠ g8 := (by have := HNg3.out; have := HNo8.out; have := HNo11.out; have := HNo14.out; have := HNo17.out; have := HNg8.out; have := HNo21.out; have := HNg10.out; have := HNo24.out; have := HNo27.out; have := HNo30.out; have := HNg13.out; have := HNo37.out; have := HNo42.out; have := HNo47.out; have := HNo72.out; have := HNo75.out; have := HNo78.out; have := HNo81.out; have := HNg18.out; omega); have hnbg8_g18 : g8 ≠ g18 := (by have := HNg3.out; have := HNo8.out; have := HNo11.out; have := HNo14.out; have := HNo17.out; have := HNg8.out; have := HNo21.out; have := HNg10.out; have := HNo24.out; have := HNo27.out; have := HNo30.out; have := HNg13.out; have := HNo37.out; have := HNo42.out; have := HNo47.out; have := HNo72.out; have := HNo75.out; have := HNo78.out; have := HNo81.out; have := HNg18.out; omega); have hnbg18_g10 : g18 ≠ g10 := (by have := HNg3.out; have := HNo8.out; have := HNo11.out; have := HNo14.out; have := HNo17.out; have := HNg8.out; have := HNo21.out; have := HNg10.out; have := HNo24.out; have := HNo27.out; have := HNo30.out; have := HNg13.out; have := HNo37.out; have := HNo42.out; have := HNo47.out; have := HNo72.out; have := HNo75.out; have := HNo78.out; have := HNo81.out; have := HNg18.out; omega); have hnbg10_g18 : g10 ≠ g18 := (by have := HNg3.out; have := HNo8.out; have := HNo11.out; have := HNo14.out; have := HNo17.out; have := HNg8.out; have := HNo21.out; have := HNg10.out; have := HNo24.out; have := HNo27.out; have := HNo30.out; have := HNg13.out; have := HNo37.out; have := HNo42.out; have := HNo47.out; have := HNo72.out; have := HNo75.out; have := HNo78.out; have := HNo81.out; have := HNg18.out; omega); have hnbg18_g13 : g18 ≠ g13 := (by have := HNg3.out; have := HNo8.out; have := HNo11.out; have := HNo14.out; have := HNo17.out; have := HNg8.out; have := HNo21.out; have := HNg10.out; have := HNo24.out; have := HNo27.out; have := HNo30.out; have := HNg13.out; have := HNo37.out; have := HNo42.out; have := HNo47.out; have := HNo72.out; have := HNo75.out; have := HNo78.out; have := HNo81.out; have := HNg18.out; omega); have hnbg13_g18 : g13 ≠ g18 := (by have := HNg3.out; have := HNo8.out; have := HNo11.out; have := HNo14.out; have := HNo17.out; have := HNg8.out; have := HNo21.out; have := HNg10.out; have := HNo24.out; have := HNo27.out; have := HNo30.out; have := HNg13.out; have := HNo37.out; have := HNo42.out; have := HNo47.out; have := HNo72.out; have := HNo75.out; have := HNo78.out; have := HNo81.out; have := HNg18.out; omega); have hczg3 : w32.cell? ⟨g3, 0, none⟩ = some (.slice A0 l0.length c0) := (blk_cell BKg3.out 0).trans rfl; have hfzg3 := blk_frozen BKg3.out 0; have hczg8 : w32.cell? ⟨g8, 0, none⟩ = some (.slice Ao17 t16.length co17) := (blk_cell BKg8.out 0).trans rfl; have hfzg8 := blk_frozen BKg8.out 0; have hczg10 : w32.cell? ⟨g10, 0, none⟩ = some (.slice Ao21 t20.length co21) := (blk_cell BKg10.out 0).trans rfl; have hfzg10 := blk_frozen BKg10.out 0; have hczg13 : w32.cell? ⟨g13, 0, none⟩ = some (.slice Ao30 t29.length co30) := (blk_cell BKg13.out 0).trans rfl; have hfzg13 := blk_frozen BKg13.out 0; have hczg18 : w32.cell? ⟨g18, 0, none⟩ = some (.slice none 0 0) := (blk_cell BKg18.out 0).trans rfl; have hfzg18 := blk_frozen BKg18.out 0) | ((with_reducible refine gate_callee (f := 19) rfl ?_); refine goesL_ (some 123) rfl rfl Try.func19 (by kernel_rfl) rfl #[.agg #[.slice Ao81 t80.length co81], .agg #[.slice Ao17 t16.length co17]] rfl (by (try simp only [yiy, yjy, yky]); first | done | rfl | (simp only [yly, ymy]; rfl)) ?_; (with_reducible refine (laws_eqTriangulation.calls k _ _ t80 _ _ t16 true _ ?side1 ?side2 ?side3 ?side4 H83.out).mono ?_); (case side1 => exact (ObS.reads (ObS.far (g := g18) (i := 0) HOo81.out (by have := HNg3.out; have := HNo8.out; have := HNo11.out; have := HNo14.out; have := HNo17.out; have := HNg8.out; have := HNo21.out; have := HNg10.out; have := HNo24.out; have := HNo27.out; have := HNo30.out; have := HNg13.out; have := HNo37.out; have := HNo42.out; have := HNo47.out; have := HNo72.out; have := HNo75.out; have := HNo78.out; have := HNo81.out; have := HNg18.out; omega) _)).2.2); (case side2 => exact ObS.room HOo81.out); (case side3 => exact (ObS.reads (ObS.far (g := g18) (i := 0) HOo17.out (by have := HNg3.out; have := HNo8.out; have := HNo11.out; have := HNo14.out; have := HNo17.out; have := HNg8.out; have := HNo21.out; have := HNg10.out; have := HNo24.out; have := HNo27.out; have := HNo30.out; have := HNg13.out; have := HNo37.out; have := HNo42.out; have := HNo47.out; have := HNo72.out; have := HNo75.out; have := HNo78.out; have := HNo81.out; have := HNg18.out; omega) _)).2.2); (case side4 => exact ObS.room HOo17.out); rintro e w33 ⟨rfl, hb⟩; refine ⟨_, rfl, ?_⟩; (try clear hczg3 hfzg3 hczg8 hfzg8 hczg10 hfzg10 hczg13 hfzg13 hczg18 hfzg18); have nOo8 := Aside0.mk (ObS.below (ObS.far (g := g18) (i := 0) HOo8.out (by have := HNg3.out; have := HNo8.out; have := HNo11.out; have := HNo14.out; have := HNo17.out; have := HNg8.out; have := HNo21.out; have := HNg10.out; have := HNo24.out; have := HNo27.out; have := HNo30.out; have := HNg13.out; have := HNo37.out; have := HNo42.out; have := HNo47.out; have := HNo72.out; have := HNo75.out; have := HNo78.out; have := HNo81.out; have := HNg18.out; omega) _) hb); have nOo11 := Aside0.mk (ObR.below (ObR.far (g := g18) (i := 0) HOo11.out (by have := HNg3.out; have := HNo8.out; have := HNo11.out; have := HNo14.out; have := HNo17.out; have := HNg8.out; have := HNo21.out; have := HNg10.out; have := HNo24.out; have := HNo27.out; have := HNo30.out; have := HNg13.out; have := HNo37.out; have := HNo42.out; have := HNo47.out; have := HNo72.out; have := HNo75.out; have := HNo78.out; have := HNo81.out; have := HNg18.out; omega) _) hb); have nOo14 := Aside0.mk (ObR.below (ObR.far (g := g18) (i := 0) HOo14.out (by have := HNg3.out; have := HNo8.out; have := HNo11.out; have := HNo14.out; have := HNo17.out; have := HNg8.out; have := HNo21.out; have := HNg10.out; have := HNo24.out; have := HNo27.out; have := HNo30.out; have := HNg13.out; have := HNo37.out; have := HNo42.out; have := HNo47.out; have := HNo72.out; have := HNo75.out; have := HNo78.out; have := HNo81.out; have := HNg18.out; omega) _) hb); have nOo17 := Aside0.mk (ObS.below (ObS.far (g := g18) (i := 0) HOo17.out (by have := HNg3.out; have := HNo8.out; have := HNo11.out; have := HNo14.out; have := HNo17.out; have := HNg8.out; have := HNo21.out; have := HNg10.out; have := HNo24.out; have := HNo27.out; have := HNo30.out; have := HNg13.out; have := HNo37.out; have := HNo42.out; have := HNo47.out; have := HNo72.out; have := HNo75.out; have := HNo78.out; have := HNo81.out; have := HNg18.out; omega) _) hb); have nOo21 := Aside0.mk (ObS.below (ObS.far (g := g18) (i := 0) HOo21.out (by have := HNg3.out; have := HNo8.out; have := HNo11.out; have := HNo14.out; have := HNo17.out; have := HNg8.out; have := HNo21.out; have := HNg10.out; have := HNo24.out; have := HNo27.out; have := HNo30.out; have := HNg13.out; have := HNo37.out; have := HNo42.out; have := HNo47.out; have := HNo72.out; have := HNo75.out; have := HNo78.out; have := HNo81.out; have := HNg18.out; omega) _) hb); have nOo24 := Aside0.mk (ObR.below (ObR.far (g := g18) (i := 0) HOo24.out (by have := HNg3.out; have := HNo8.out; have := HNo11.out; have := HNo14.out; have := HNo17.out; have := HNg8.out; have := HNo21.out; have := HNg10.out; have := HNo24.out; have := HNo27.out; have := HNo30.out; have := HNg13.out; have := HNo37.out; have := HNo42.out; have := HNo47.out; have := HNo72.out; have := HNo75.out; have := HNo78.out; have := HNo81.out; have := HNg18.out; omega) _) hb); have nOo27 := Aside0.mk (ObR.below (ObR.far (g := g18) (i := 0) HOo27.out (by have := HNg3.out; have := HNo8.out; have := HNo11.out; have := HNo14.out; have := HNo17.out; have := HNg8.out; have := HNo21.out; have := HNg10.out; have := HNo24.out; have := HNo27.out; have := HNo30.out; have := HNg13.out; have := HNo37.out; have := HNo42.out; have := HNo47.out; have := HNo72.out; have := HNo75.out; have := HNo78.out; have := HNo81.out; have := HNg18.out; omega) _) hb); have nOo30 := Aside0.mk (ObS.below (ObS.far (g := g18) (i := 0) HOo30.out (by have := HNg3.out; have := HNo8.out; have := HNo11.out; have := HNo14.out; have := HNo17.out; have := HNg8.out; have := HNo21.out; have := HNg10.out; have := HNo24.out; have := HNo27.out; have := HNo30.out; have := HNg13.out; have := HNo37.out; have := HNo42.out; have := HNo47.out; have := HNo72.out; have := HNo75.out; have := HNo78.out; have := HNo81.out; have := HNg18.out; omega) _) hb); have nOo37 := Aside0.mk (ObS.below (ObS.far (g := g18) (i := 0) HOo37.out (by have := HNg3.out; have := HNo8.out; have := HNo11.out; have := HNo14.out; have := HNo17.out; have := HNg8.out; have := HNo21.out; have := HNg10.out; have := HNo24.out; have := HNo27.out; have := HNo30.out; have := HNg13.out; have := HNo37.out; have := HNo42.out; have := HNo47.out; have := HNo72.out; have := HNo75.out; have := HNo78.out; have := HNo81.out; have := HNg18.out; omega) _) hb); have nOo42 := Aside0.mk (ObR.below (ObR.far (g := g18) (i := 0) HOo42.out (by have := HNg3.out; have := HNo8.out; have := HNo11.out; have := HNo14.out; have := HNo17.out; have := HNg8.out; have := HNo21.out; have := HNg10.out; have := HNo24.out; have := HNo27.out; have := HNo30.out; have := HNg13.out; have := HNo37.out; have := HNo42.out; have := HNo47.out; have := HNo72.out; have := HNo75.out; have := HNo78.out; have := HNo81.out; have := HNg18.out; omega) _) hb); have nOo47 := Aside0.mk (ObR.below (ObR.far (g := g18) (i := 0) HOo47.out (by have := HNg3.out; have := HNo8.out; have := HNo11.out; have := HNo14.out; have := HNo17.out; have := HNg8.out; have := HNo21.out; have := HNg10.out; have := HNo24.out; have := HNo27.out; have := HNo30.out; have := HNg13.out; have := HNo37.out; have := HNo42.out; have := HNo47.out; have := HNo72.out; have := HNo75.out; have := HNo78.out; have := HNo81.out; have := HNg18.out; omega) _) hb); have nOo72 := Aside0.mk (ObS.below (ObS.far (g := g18) (i := 0) HOo72.out (by have := HNg3.out; have := HNo8.out; have := HNo11.out; have := HNo14.out; have := HNo17.out; have := HNg8.out; have := HNo21.out; have := HNg10.out; have := HNo24.out; have := HNo27.out; have := HNo30.out; have := HNg13.out; have := HNo37.out; have := HNo42.out; have := HNo47.out; have := HNo72.out; have := HNo75.out; have := HNo78.out; have := HNo81.out; have := HNg18.out; omega) _) hb); have nOo75 := Aside0.mk (ObR.below (ObR.far (g := g18) (i := 0) HOo75.out (by have := HNg3.out; have := HNo8.out; have := HNo11.out; have := HNo14.out; have := HNo17.out; have := HNg8.out; have := HNo21.out; have := HNg10.out; have := HNo24.out; have := HNo27.out; have := HNo30.out; have := HNg13.out; have := HNo37.out; have := HNo42.out; have := HNo47.out; have := HNo72.out; have := HNo75.out; have := HNo78.out; have := HNo81.out; have := HNg18.out; omega) _) hb); have nOo78 := Aside0.mk (ObR.below (ObR.far (g := g18) (i := 0) HOo78.out (by have := HNg3.out; have := HNo8.out; have := HNo11.out; have := HNo14.out; have := HNo17.out; have := HNg8.out; have := HNo21.out; have := HNg10.out; have := HNo24.out; have := HNo27.out; have := HNo30.out; have := HNg13.out; have := HNo37.out; have := HNo42.out; have := HNo47.out; have := HNo72.out; have := HNo75.out; have := HNo78.out; have := HNo81.out; have := HNg18.out; omega) _) hb); have nOo81 := Aside0.mk (ObS.below (ObS.far (g := g18) (i := 0) HOo81.out (by have := HNg3.out; have := HNo8.out; have := HNo11.out; have := HNo14.out; have := HNo17.out; have := HNg8.out; have := HNo21.out; have := HNg10.out; have := HNo24.out; have := HNo27.out; have := HNo30.out; have := HNg13.out; have := HNo37.out; have := HNo42.out; have := HNo47.out; have := HNo72.out; have := HNo75.out; have := HNo78.out; have := HNo81.out; have := HNg18.out; omega) _) hb); have nBg3 := Aside0.mk (blk_below (g := g3) (o := .cells #[.slice A0 l0.length c0] 24 (0, 0)) (blk_far (p := ⟨g18, 0, none⟩) BKg3.out (show g3 ≠ g18 from (by have := HNg3.out; have := HNo8.out; have := HNo11.out; have := HNo14.out; have := HNo17.out; have := HNg8.out; have := HNo21.out; have := HNg10.out; have := HNo24.out; have := HNo27.out; have := HNo30.out; have := HNg13.out; have := HNo37.out; have := HNo42.out; have := HNo47.out; have := HNo72.out; have := HNo75.out; have := HNo78.out; have := HNo81.out; have := HNg18.out; omega)) _) hb); have nBg8 := Aside0.mk (blk_below (g := g8) (o := .cells #[.slice Ao17 t16.length co17] 28 (0, 0)) (blk_far (p := ⟨g18, 0, none⟩) BKg8.out (show g8 ≠ g18 from (by have := HNg3.out; have := HNo8.out; have := HNo11.out; have := HNo14.out; have := HNo17.out; have := HNg8.out; have := HNo21.out; have := HNg10.out; have := HNo24.out; have := HNo27.out; have := HNo30.out; have := HNg13.out; have := HNo37.out; have := HNo42.out; have := HNo47.out; have := HNo72.out; have := HNo75.out; have := HNo78.out; have := HNo81.out; have := HNg18.out; omega)) _) hb); have nBg10 := Aside0.mk (blk_below (g := g10) (o := .cells #[.slice Ao21 t20.length co21] 28 (0, 0)) (blk_far (p := ⟨g18, 0, none⟩) BKg10.out (show g10 ≠ g18 from (by have := HNg3.out; have := HNo8.out; have := HNo11.out; have := HNo14.out; have := HNo17.out; have := HNg8.out; have := HNo21.out; have := HNg10.out; have := HNo24.out; have := HNo27.out; have := HNo30.out; have := HNg13.out; have := HNo37.out; have := HNo42.out; have := HNo47.out; have := HNo72.out; have := HNo75.out; have := HNo78.out; have := HNo81.out; have := HNg18.out; omega)) _) hb); have nBg13 := Aside0.mk (blk_below (g := g13) (o := .cells #[.slice Ao30 t29.length co30] 28 (0, 0)) (blk_far (p := ⟨g18, 0, none⟩) BKg13.out (show g13 ≠ g18 from (by have := HNg3.out; have := HNo8.out; have := HNo11.out; have := HNo14.out; have := HNo17.out; have := HNg8.out; have := HNo21.out; have := HNg10.out; have := HNo24.out; have := HNo27.out; have := HNo30.out; have := HNg13.out; have := HNo37.out; have := HNo42.out; have := HNo47.out; have := HNo72.out; have := HNo75.out; have := HNo78.out; have := HNo81.out; have := HNg18.out; omega)) _) hb); have nBg18 := Aside0.mk (blk_below (g := g18) (o := .cells #[.slice Ao81 t80.length co81] 28 (0, 0)) (blk_put (cs := #[.slice none 0 0]) BKg18.out 0 _ rfl) hb); have nHB := Aside0.mk (below_step (below_set HB.out (show w.heap.size ≤ g18 from (by have := HNg3.out; have := HNo8.out; have := HNo11.out; have := HNo14.out; have := HNo17.out; have := HNg8.out; have := HNo21.out; have := HNg10.out; have := HNo24.out; have := HNo27.out; have := HNo30.out; have := HNg13.out; have := HNo37.out; have := HNo42.out; have := HNo47.out; have := HNo72.out; have := HNo75.out; have := HNo78.out; have := HNo81.out; have := HNg18.out; omega))) hb); have nHT := Aside0.mk (top_below (top_far HT.out) hb); clear HB HT HOo8 HOo11 HOo14 HOo17 HOo21 HOo24 HOo27 HOo30 HOo37 HOo42 HOo47 HOo72 HOo75 HOo78 HOo81 BKg3 BKg8 BKg10 BKg13 BKg18; have HOo8 := nOo8; have HOo11 := nOo11; have HOo14 := nOo14; have HOo17 := nOo17; have HOo21 := nOo21; have HOo24 := nOo24; have HOo27 := nOo27; have HOo30 := nOo30; have HOo37 := nOo37; have HOo42 := nOo42; have HOo47 := nOo47; have HOo72 := nOo72; have HOo75 := nOo75; have HOo78 := nOo78; have HOo81 := nOo81; have BKg3 := nBg3; have BKg8 := nBg8; have BKg10 := nBg10; have BKg13 := nBg13; have BKg18 := nBg18; have HB := nHB; have HT := nHT; clear nHB nHT nOo8 nOo11 nOo14 nOo17 nOo21 nOo24 nOo27 nOo30 nOo37 nOo42 nOo47 nOo72 nOo75 nOo78 nOo81 nBg3 nBg8 nBg10 nBg13 nBg18; (try clear hb); (try clear hnd); have hczg3 : w33.cell? ⟨g3, 0, none⟩ = some (.slice A0 l0.length c0) := (blk_cell BKg3.out 0).trans rfl; have hfzg3 := blk_frozen BKg3.out 0; have hczg8 : w33.cell? ⟨g8, 0, none⟩ = some (.slice Ao17 t16.length co17) := (blk_cell BKg8.out 0).trans rfl; have hfzg8 := blk_frozen BKg8.out 0; have hczg10 : w33.cell? ⟨g10, 0, none⟩ = some (.slice Ao21 t20.length co21) := (blk_cell BKg10.out 0).trans rfl; have hfzg10 := blk_frozen BKg10.out 0; have hczg13 : w33.cell? ⟨g13, 0, none⟩ = some (.slice Ao30 t29.length co30) := (blk_cell BKg13.out 0).trans rfl; have hfzg13 := blk_frozen BKg13.out 0; have hczg18 : w33.cell? ⟨g18, 0, none⟩ = some (.slice Ao81 t80.length co81) := (blk_cell BKg18.out 0).trans rfl; have hfzg18 := blk_frozen BKg18.out 0) | ((with_reducible refine gate_callee (f := 21) rfl ?_); refine goesL_ (some 132) rfl rfl Try.func21 (by kernel_rfl) rfl #[.agg #[.slice Ao30 y65.length co30], .int .i64 1] rfl (by (try simp only [yiy, yjy, yky]); first | done | (rw [show y65.length = t29.length from (ObS.reads HOo30.out).1.symm] <;> rfl) | rfl | (simp only [yly, ymy]; rfl)) ?_; (with_reducible refine (laws_heldTriangulation.calls k _ _ y65 1 t87 _ ?side1 ?side2 H86.out).mono ?_); (case side1 => exact (ObS.reads HOo30.out).2.2); (case side2 => exact ObS.room HOo30.out); rintro e w34 ⟨rfl, hb⟩; refine ⟨_, rfl, ?_⟩; (try clear hczg3 hfzg3 hczg8 hfzg8 hczg10 hfzg10 hczg13 hfzg13 hczg18 hfzg18); have nOo8 := Aside0.mk (ObS.below HOo8.out hb); have nOo11 := Aside0.mk (ObR.below HOo11.out hb); have nOo14 := Aside0.mk (ObR.below HOo14.out hb); have nOo17 := Aside0.mk (ObS.below HOo17.out hb); have nOo21 := Aside0.mk (ObS.below HOo21.out hb); have nOo24 := Aside0.mk (ObR.below HOo24.out hb); have nOo27 := Aside0.mk (ObR.below HOo27.out hb); have nOo30 := Aside0.mk (ObS.below HOo30.out hb); have nOo37 := Aside0.mk (ObS.below HOo37.out hb); have nOo42 := Aside0.mk (ObR.below HOo42.out hb); have nOo47 := Aside0.mk (ObR.below HOo47.out hb); have nOo72 := Aside0.mk (ObS.below HOo72.out hb); have nOo75 := Aside0.mk (ObR.below HOo75.out hb); have nOo78 := Aside0.mk (ObR.below HOo78.out hb); have nOo81 := Aside0.mk (ObS.below HOo81.out hb); have nBg3 := Aside0.mk (blk_below (g := g3) (o := .cells #[.slice A0 l0.length c0] 24 (0, 0)) BKg3.out hb); have nBg8 := Aside0.mk (blk_below (g := g8) (o := .cells #[.slice Ao17 t16.length co17] 28 (0, 0)) BKg8.out hb); have nBg10 := Aside0.mk (blk_below (g := g10) (o := .cells #[.slice Ao21 t20.length co21] 28 (0, 0)) BKg10.out hb); have nBg13 := Aside0.mk (blk_below (g := g13) (o := .cells #[.slice Ao30 t29.length co30] 28 (0, 0)) BKg13.out hb); have nBg18 := Aside0.mk (blk_below (g := g18) (o := .cells #[.slice Ao81 t80.length co81] 28 (0, 0)) BKg18.out hb); have nHB := Aside0.mk (below_step HB.out hb); have nHT := Aside0.mk (top_below HT.out hb); clear HB HT HOo8 HOo11 HOo14 HOo17 HOo21 HOo24 HOo27 HOo30 HOo37 HOo42 HOo47 HOo72 HOo75 HOo78 HOo81 BKg3 BKg8 BKg10 BKg13 BKg18; have HOo8 := nOo8; have HOo11 := nOo11; have HOo14 := nOo14; have HOo17 := nOo17; have HOo21 := nOo21; have HOo24 := nOo24; have HOo27 := nOo27; have HOo30 := nOo30; have HOo37 := nOo37; have HOo42 := nOo42; have HOo47 := nOo47; have HOo72 := nOo72; have HOo75 := nOo75; have HOo78 := nOo78; have HOo81 := nOo81; have BKg3 := nBg3; have BKg8 := nBg8; have BKg10 := nBg10; have BKg13 := nBg13; have BKg18 := nBg18; have HB := nHB; have HT := nHT; clear nHB nHT nOo8 nOo11 nOo14 nOo17 nOo21 nOo24 nOo27 nOo30 nOo37 nOo42 nOo47 nOo72 nOo75 nOo78 nOo81 nBg3 nBg8 nBg10 nBg13 nBg18; (try clear hb); (try clear hnd); have hczg3 : w34.cell? ⟨g3, 0, none⟩ = some (.slice A0 l0.length c0) := (blk_cell BKg3.out 0).trans rfl; have hfzg3 := blk_frozen BKg3.out 0; have hczg8 : w34.cell? ⟨g8, 0, none⟩ = some (.slice Ao17 t16.length co17) := (blk_cell BKg8.out 0).trans rfl; have hfzg8 := blk_frozen BKg8.out 0; have hczg10 : w34.cell? ⟨g10, 0, none⟩ = some (.slice Ao21 t20.length co21) := (blk_cell BKg10.out 0).trans rfl; have hfzg10 := blk_frozen BKg10.out 0; have hczg13 : w34.cell? ⟨g13, 0, none⟩ = some (.slice Ao30 t29.length co30) := (blk_cell BKg13.out 0).trans rfl; have hfzg13 := blk_frozen BKg13.out 0; have hczg18 : w34.cell? ⟨g18, 0, none⟩ = some (.slice Ao81 t80.length co81) := (blk_cell BKg18.out 0).trans rfl; have hfzg18 := blk_frozen BKg18.out 0))
 go_ret
 exact ⟨by first | rfl | (simp <;> rfl), HB.out⟩
end Go.Proofs.Ytdgdnnjigigkcaa.P
namespace Go.Proofs.Ytdgdnnjigigkcaa.Lib
set_option linter.unusedVariables false
open Go.RowKit Go.Proofs.YtdgdnnjigigkcaaW.PrintWords
/-- A loop comes to g of its first state: at each state it ends with g, or goes on at a smaller state of the same g. -/
theorem ev_loop {σ ρ : Type} (L : Nat → σ → Option ρ) (I : σ → Prop) (m : σ → Nat) (g : σ → ρ)
    (h : ∀ s, I s → (∃ K, ∀ k, K ≤ k → L (k + 1) s = some (g s)) ∨ (∃ s' K, I s' ∧ m s' < m s ∧ g s' = g s ∧ ∀ k, K ≤ k → L (k + 1) s = L k s')) :
    ∀ s, I s → Ev (fun k => L k s) (g s) := by
  have key : ∀ (n : Nat) (s : σ), m s < n → I s → Ev (fun k => L k s) (g s) := by
    intro n
    induction n with
    | zero => intro s hs; omega
    | succ n ih =>
      intro s hs hi
      rcases h s hi with ⟨K, hK⟩ | ⟨s', K, hi', hm, hg, hK⟩
      · refine ⟨K + 1, fun k hk => ?_⟩
        obtain ⟨j, rfl⟩ : ∃ j, k = j + 1 := ⟨k - 1, by omega⟩
        exact hK j (by omega)
      · obtain ⟨K', hK'⟩ := ih s' (by omega) hi'
        refine ⟨max K K' + 1, fun k hk => ?_⟩
        obtain ⟨j, rfl⟩ : ∃ j, k = j + 1 := ⟨k - 1, by omega⟩
        show L (j + 1) s = some (g s)
        rw [hK j (by omega), ← hg]
        exact hK' j (by omega)
  intro s hi
  exact key (m s + 1) s (by omega) hi
/-- The same, where a round asks for no number of rounds. -/
theorem ev_loop0 {σ ρ : Type} (L : Nat → σ → Option ρ) (I : σ → Prop) (m : σ → Nat) (g : σ → ρ)
    (h : ∀ s, I s → (∀ k, L (k + 1) s = some (g s)) ∨ (∃ s', I s' ∧ m s' < m s ∧ g s' = g s ∧ ∀ k, L (k + 1) s = L k s')) :
    ∀ s, I s → Ev (fun k => L k s) (g s) :=
  ev_loop L I m g fun s hi => by
    rcases h s hi with h1 | ⟨s', h1, h2, h3, h4⟩
    · exact .inl ⟨0, fun k _ => h1 k⟩
    · exact .inr ⟨s', 0, h1, h2, h3, fun k _ => h4 k⟩
theorem wrap_id {x : Int} (h0 : -9223372036854775808 ≤ x) (h1 : x ≤ 9223372036854775807) : wrap64 x = x := by
  unfold wrap64; omega
theorem wrap_succ {n : Nat} (h : n ≤ 4611686018427387904) : wrap64 ((n : Int) + 1) = ((n + 1 : Nat) : Int) := by
  rw [wrap_id (by omega) (by omega)]; rfl
theorem rd_lt (xs : List Int) (n : Nat) (h : n < xs.length) : rd xs (n : Int) = xs[n] := by simp [rd, h]
theorem ev_neg {α : Type} {c : Prop} [Decidable c] {f g : Nat → Option α} {r : α} (h : ¬ c) (k : Ev g r) : Ev (fun n => if c then f n else g n) r := Ev.congr (fun _ => if_neg h) k
theorem ev_pos {α : Type} {c : Prop} [Decidable c] {f g : Nat → Option α} {r : α} (h : c) (k : Ev f r) : Ev (fun n => if c then f n else g n) r := Ev.congr (fun _ => if_pos h) k
theorem ev_some {α : Type} {r r' : α} (h : r = r') : Ev (fun _ => some r) r' := h ▸ Ev.now r
theorem ev_const {α : Type} {o : Option α} {r : α} (h : o = some r) : Ev (fun _ => o) r := ⟨0, fun _ _ => h⟩
theorem ev_const' {α : Type} {g : Nat → Option α} {r : α} (h : ∀ k, g k = some r) : Ev g r := ⟨0, fun k _ => h k⟩
/-- A function whose first step takes one round. -/
theorem ev_step {α : Type} {g f : Nat → Option α} {r : α} (h : ∀ k, g (k + 1) = f k) (k : Ev f r) : Ev g r := Ev.step h k
theorem idxO_any {α : Type} {f : α → Option Bool} {p : α → Bool} : ∀ (i : Nat) (l : List α), (∀ x ∈ l, f x = some (p x)) → ∃ r, idxO f i l = some r ∧ decide (0 ≤ r) = l.any p
  | i, [], _ => ⟨-1, rfl, rfl⟩
  | i, x :: xs, h => by
    rw [idxO_cons, h x (List.mem_cons_self ..), yfy]
    cases hp : p x with
    | true => exact ⟨i, by rw [if_pos rfl], by simp [hp]⟩
    | false =>
      obtain ⟨r, h1, h2⟩ := idxO_any (i + 1) xs (fun y hy => h y (List.mem_cons_of_mem _ hy))
      exact ⟨r, by rw [if_neg (by simp)]; exact h1, by rw [h2]; simp [hp]⟩
theorem contO {α : Type} {f : α → Option Bool} {p : α → Bool} (l : List α) (h : ∀ x ∈ l, f x = some (p x)) : (idxO f 0 l).bind (fun i => some (decide (0 ≤ i))) = some (l.any p) := by
  obtain ⟨r, h1, h2⟩ := idxO_any 0 l h
  rw [h1, yfy, h2]
/-- n numbers from a on. -/
def upFrom (a : Int) : Nat → List Int
  | 0 => []
  | n + 1 => a :: upFrom (a + 1) n
theorem upFrom_length (a : Int) (n : Nat) : (upFrom a n).length = n := by
  induction n generalizing a with
  | zero => rfl
  | succ n ih => simp [upFrom, ih]
theorem upFrom_snoc (a : Int) (n : Nat) : upFrom a (n + 1) = upFrom a n ++ [a + n] := by
  induction n generalizing a with
  | zero => simp [upFrom]
  | succ n ih => rw [upFrom, ih (a + 1)]; simp [upFrom]; omega
end Go.Proofs.Ytdgdnnjigigkcaa.Lib
namespace Go.Proofs.Ytdgdnnjigigkcaa.P
open Go.RowKit Go.Proofs.YtdgdnnjigigkcaaW.PrintWords Go.Proofs.Ytdgdnnjigigkcaa.Lib
set_option linter.unusedVariables false
theorem inRange_eq (a b c : Int) : impl_inRange.f a b c = some (decide (b ≤ a) && decide (a ≤ c)) := by
  unfold impl_inRange.f
  by_cases h : b ≤ a <;> simp [h]
theorem l07In_eq (a b c : Int) : spec_l07In.f a b c = some (decide (b ≤ a) && decide (a ≤ c)) := by
  unfold spec_l07In.f
  by_cases h : b ≤ a <;> simp [h]
theorem l06Valid_eq (a : Int) : spec_l06Valid.f a = some (decide (0 ≤ a) && decide (a ≤ 23)) := by
  unfold spec_l06Valid.f
  by_cases h : 0 ≤ a
  · rw [if_pos h]; simp [h]; omega
  · rw [if_neg h]; simp [h]
theorem isPerm_eq (a : Int) : impl_isPerm.f a = some (decide (0 ≤ a) && decide (a ≤ 23)) := by
  unfold impl_isPerm.f; rw [inRange_eq]; rfl
/-- A number that is the index of a permutation. -/
theorem fin_of {p : Int} (h0 : 0 ≤ p) (h1 : p ≤ 23) : ∃ m : Fin 24, p = (m.val : Int) := ⟨⟨p.toNat, by omega⟩, by simp; omega⟩
theorem l06Images_ev {p : Int} (h0 : 0 ≤ p) (h1 : p ≤ 23) : Ev (fun k => spec_l06Images.f k p) (permL p) := by
  obtain ⟨m, rfl⟩ := fin_of h0 h1
  have key : ∀ m : Fin 24, spec_l06Images.f 5 (m.val : Int) = some (permL (m.val : Int)) := by decide +kernel
  exact Ev.of (fun k => spec_l06Images.mono _ k) (key m)
theorem permL_len (p : Int) : (permL p).length = 4 := rfl
theorem permL_sm {p f : Int} (h0 : 0 ≤ p) (h1 : p ≤ 23) (hf0 : 0 ≤ f) (hf1 : f ≤ 3) : 0 ≤ rd (permL p) f ∧ rd (permL p) f ≤ 3 := by
  obtain ⟨a, b, c, d⟩ := permAt_sm p h0 h1
  exact rd_four_sm a b c d f hf0 hf1
theorem l06At_ev {p f : Int} (h0 : 0 ≤ p) (h1 : p ≤ 23) (hf0 : 0 ≤ f) (hf1 : f ≤ 3) : Ev (fun k => spec_l06At.f k p f) (rd (permL p) f) := by
  refine Ev.bind (l06Images_ev h0 h1) ?_
  exact ev_pos hf0 (ev_pos (by rw [permL_len]; omega) (Ev.now _))
theorem l06Back_ev {p : Int} (h0 : 0 ≤ p) (h1 : p ≤ 23) : Ev (fun k => spec_l06Back.f k p) (invP p) := by
  obtain ⟨m, rfl⟩ := fin_of h0 h1
  have key : ∀ m : Fin 24, spec_l06Back.f 40 (m.val : Int) = some (invP (m.val : Int)) := by decide +kernel
  exact Ev.of (fun k => spec_l06Back.mono _ k) (key m)
theorem target_eq {q p f : Int} (h0 : 0 ≤ p) (h1 : p ≤ 23) (hf0 : 0 ≤ f) (hf1 : f ≤ 3) : impl_Face_target.f q p f = some (rd (permL p) f) := if_pos ⟨h0, h1, hf0, hf1⟩
theorem partner_eq {q p a : Int} (h0 : 0 ≤ p) (h1 : p ≤ 23) : impl_Face_partner.f q p a = some (a, invP p) := by
  unfold impl_Face_partner.f impl_invert.f
  rw [if_pos ⟨h0, h1⟩]; rfl
abbrev Tri := List (List SFace)
/-- No list of t is longer than a million. -/
def Small (t : Tri) : Prop := t.length ≤ 1048576 ∧ ∀ r ∈ t, r.length ≤ 1048576
def SmallL (t : List (List SLawFace)) : Prop := t.length ≤ 1048576 ∧ ∀ r ∈ t, r.length ≤ 1048576
def Fits (t : List (List SLawFace)) : Prop := t.length ≤ 9223372036854775807 ∧ ∀ r ∈ t, r.length ≤ 9223372036854775807
theorem rd_LLawFace_lt (t : List (List SLawFace)) (n : Nat) (h : n < t.length) : rd_LLawFace t (n : Int) = t[n] := by simp [rd_LLawFace, h]
theorem rd_LFace_lt (t : Tri) (n : Nat) (h : n < t.length) : rd_LFace t (n : Int) = t[n] := by simp [rd_LFace, h]
theorem rd_LawFace_lt (t : List SLawFace) (n : Nat) (h : n < t.length) : rd_LawFace t (n : Int) = t[n] := by simp [rd_LawFace, h]
theorem rd_Face_lt (t : List SFace) (n : Nat) (h : n < t.length) : rd_Face t (n : Int) = t[n] := by simp [rd_Face, h]
theorem szFaceS_eq (r : List SLawFace) (a : Int) (h0 : 0 ≤ a) (h1 : a ≤ 1048576) (h : r.length ≤ 9223372036854775807) : laws_szFaceS.f r a = some (if a - r.length < 0 then -1 else a - r.length) := by
  unfold laws_szFaceS.f
  rw [wrap_id (by omega) (by omega)]
  split <;> rfl
theorem szFaceSS_ev (t : List (List SLawFace)) (h : Fits t) (hl : t.length ≤ 1048576) : ∃ r, Ev (fun k => laws_szFaceSS.l0 k t (1048576 - t.length) 0) r ∧ (0 ≤ r → ∀ x ∈ t, x.length ≤ 1048576) := by
  have key : ∀ d n : Nat, ∀ a : Int, n + d = t.length → 0 ≤ a → a ≤ 1048576 → ∃ r, Ev (fun k => laws_szFaceSS.l0 k t a (n : Int)) r ∧ (0 ≤ r → ∀ x ∈ t.drop n, x.length ≤ 1048576) := by
    intro d
    induction d with
    | zero =>
      intro n a hn h0 h1
      refine ⟨a, ev_step (f := fun _ => some a) (fun k => ?_) (Ev.now a), fun _ x hx => ?_⟩
      · simp only [laws_szFaceSS.l0]; rw [if_neg (by omega)]
      · rw [List.drop_eq_nil_of_le (by omega)] at hx; cases hx
    | succ d ih =>
      intro n a hn h0 h1
      have hlt : n < t.length := by omega
      have hf := h.2 t[n] (List.getElem_mem hlt)
      by_cases hc : a - t[n].length < 0
      · refine ⟨-1, ev_step (f := fun _ => some (-1)) (fun k => ?_) (Ev.now (-1)), fun h => by omega⟩
        simp only [laws_szFaceSS.l0]
        rw [if_pos (by omega), if_pos (by omega), rd_LLawFace_lt t n hlt, szFaceS_eq _ a h0 h1 hf, yfy, if_pos hc]
        rfl
      · obtain ⟨r, hr, hr2⟩ := ih (n + 1) (a - t[n].length) (by omega) (by omega) (by omega)
        refine ⟨r, ev_step (fun k => ?_) hr, fun h x hx => ?_⟩
        · simp only [laws_szFaceSS.l0]
          rw [if_pos (by omega), if_pos (by omega), rd_LLawFace_lt t n hlt, szFaceS_eq _ a h0 h1 hf, yfy, if_neg hc, if_neg (by omega), wrap_succ (by omega)]
        · rw [List.drop_eq_getElem_cons hlt] at hx
          rcases List.mem_cons.1 hx with rfl | hx
          · omega
          · exact hr2 h x hx
  obtain ⟨r, hr, hr2⟩ := key t.length 0 (1048576 - t.length) (by omega) (by omega) (by omega)
  exact ⟨r, hr, fun h => by have := hr2 h; rwa [List.drop_zero] at this⟩
theorem szTriangulation_ev (t : List (List SLawFace)) (h : Fits t) : ∃ r, Ev (fun k => laws_szTriangulation.f k t 1048576) r ∧ (¬ r < 0 → SmallL t) := by
  by_cases hl : (1048576 - (t.length : Int)) < 0
  · refine ⟨-1, ?_, fun h => by omega⟩
    refine Ev.bind (a := -1) (ev_const' (fun k => ?_)) (ev_pos (by omega) (Ev.now _))
    unfold laws_szFaceSS.f
    have := h.1
    rw [wrap_id (by omega) (by omega), if_pos hl]
  · obtain ⟨r, hr, hr2⟩ := szFaceSS_ev t h (by omega)
    have h2 : Ev (fun k => laws_szFaceSS.f k t 1048576) r := by
      refine Ev.congr (fun k => ?_) hr
      unfold laws_szFaceSS.f
      rw [wrap_id (by omega) (by omega), if_neg hl]
    by_cases hn : r < 0
    · exact ⟨-1, Ev.bind h2 (ev_pos hn (Ev.now _)), fun h => by omega⟩
    · exact ⟨r, Ev.bind h2 (ev_neg hn (Ev.now _)), fun _ => ⟨by omega, hr2 (by omega)⟩⟩
/-- The copies of the law's values. -/
def cvF (x : SLawFace) : SFace := ⟨x.f0, x.f1⟩
def cvR (r : List SLawFace) : List SFace := r.map cvF
def cvT (t : List (List SLawFace)) : Tri := t.map cvR
theorem cvT_small {t : List (List SLawFace)} (h : SmallL t) : Small (cvT t) := by
  refine ⟨by simp [cvT]; exact h.1, fun r hr => ?_⟩
  obtain ⟨s, hs, rfl⟩ := List.mem_map.1 hr
  simp [cvR]; exact h.2 s hs
theorem map_take_set {α β : Type} (f : α → β) (l : List α) (z : β) (n : Nat) (h : n < l.length) :
    ((l.take n).map f ++ List.replicate (l.length - n) z).set n (f l[n]) = (l.take (n + 1)).map f ++ List.replicate (l.length - (n + 1)) z := by
  have e : l.length - n = (l.length - (n + 1)) + 1 := by omega
  rw [e, List.replicate_succ, List.set_append_right _ _ (by simp; omega)]
  have : n - ((l.take n).map f).length = 0 := by simp; omega
  rw [this, yby, List.take_succ_eq_append_getElem h, List.map_append, List.append_assoc]
  rfl
theorem toFaceS_ev (l : List SLawFace) (h : l.length ≤ 1048576) : Ev (fun k => laws_toFaceS.f k l) (cvR l) := by
  have hl : Ev (fun k => laws_toFaceS.l0 k l (List.replicate l.length zFace) 0) (cvR l) := by
    refine ev_loop0 (fun k (s : List SFace × Int) => laws_toFaceS.l0 k l s.1 s.2) (fun s => ∃ n : Nat, n ≤ l.length ∧ s.2 = n ∧ s.1 = (l.take n).map cvF ++ List.replicate (l.length - n) zFace) (fun s => l.length - s.2.toNat) (fun _ => cvR l) ?_ (List.replicate l.length zFace, 0) ⟨0, by omega, rfl, by simp⟩
    rintro ⟨a, i⟩ ⟨n, hn, rfl, rfl⟩
    dsimp only
    by_cases hlt : n < l.length
    · refine .inr ⟨((l.take (n + 1)).map cvF ++ List.replicate (l.length - (n + 1)) zFace, ((n + 1 : Nat) : Int)), ⟨n + 1, by omega, rfl, rfl⟩, by simp; omega, rfl, fun k => ?_⟩
      simp only [laws_toFaceS.l0, laws_toFace.f, yfy]
      rw [if_pos (by omega), if_pos (by omega), if_pos (by simp; omega), wrap_succ (by omega), Int.toNat_natCast, rd_LawFace_lt l n hlt]
      have := map_take_set cvF l zFace n hlt
      rw [← this]
      rfl
    · obtain rfl : n = l.length := by omega
      refine .inl fun k => ?_
      simp only [laws_toFaceS.l0]
      rw [if_neg (by omega)]
      simp [cvR]
  refine Ev.congr (fun k => ?_) hl
  unfold laws_toFaceS.f
  rw [if_pos (by omega), if_pos (by simp; omega), Int.toNat_natCast]
theorem toFaceSS_ev (l : List (List SLawFace)) (h : SmallL l) : Ev (fun k => laws_toFaceSS.f k l) (cvT l) := by
  have hl : Ev (fun k => laws_toFaceSS.l0 k l (List.replicate l.length []) 0) (cvT l) := by
    refine ev_loop (fun k (s : Tri × Int) => laws_toFaceSS.l0 k l s.1 s.2) (fun s => ∃ n : Nat, n ≤ l.length ∧ s.2 = n ∧ s.1 = (l.take n).map cvR ++ List.replicate (l.length - n) []) (fun s => l.length - s.2.toNat) (fun _ => cvT l) ?_ (List.replicate l.length [], 0) ⟨0, by omega, rfl, by simp⟩
    rintro ⟨a, i⟩ ⟨n, hn, rfl, rfl⟩
    dsimp only
    by_cases hlt : n < l.length
    · obtain ⟨K, hK⟩ := toFaceS_ev l[n] (h.2 _ (List.getElem_mem hlt))
      refine .inr ⟨((l.take (n + 1)).map cvR ++ List.replicate (l.length - (n + 1)) [], ((n + 1 : Nat) : Int)), K, ⟨n + 1, by omega, rfl, rfl⟩, by simp; omega, rfl, fun k hk => ?_⟩
      have e : laws_toFaceS.f k l[n] = some _ := hK k hk
      have h1 := h.1
      simp only [laws_toFaceSS.l0]
      rw [if_pos (by omega), if_pos (by omega), rd_LLawFace_lt l n hlt, e, yfy, if_pos (by simp; omega), wrap_succ (by omega), Int.toNat_natCast, map_take_set cvR l [] n hlt]
    · obtain rfl : n = l.length := by omega
      refine .inl ⟨0, fun k _ => ?_⟩
      simp only [laws_toFaceSS.l0]
      rw [if_neg (by omega)]
      simp [cvT]
  have h1 := h.1
  refine Ev.congr (fun k => ?_) hl
  unfold laws_toFaceSS.f
  rw [if_pos (by omega), if_pos (by simp; omega), Int.toNat_natCast]
theorem toTriangulation_ev (l : List (List SLawFace)) (h : SmallL l) : Ev (fun k => laws_toTriangulation.f k l) (cvT l) := Ev.bind (toFaceSS_ev l h) (Ev.now _)
theorem eqFaceS_ev (l : List SFace) (h : l.length ≤ 1048576) : Ev (fun k => laws_eqFaceS.f k l l) true := by
  have hl : Ev (fun k => laws_eqFaceS.l0 k l l 0) true := by
    refine ev_loop0 (fun k (s : Int) => laws_eqFaceS.l0 k l l s) (fun s => ∃ n : Nat, n ≤ l.length ∧ s = n) (fun s => l.length - s.toNat) (fun _ => true) ?_ 0 ⟨0, by omega, rfl⟩
    rintro i ⟨n, hn, rfl⟩
    by_cases hlt : n < l.length
    · refine .inr ⟨((n + 1 : Nat) : Int), ⟨n + 1, by omega, rfl⟩, by simp; omega, rfl, fun k => ?_⟩
      simp only [laws_eqFaceS.l0, laws_eqFace.f]
      rw [if_pos (by omega), if_pos (by omega), if_pos (by omega), if_pos trivial, if_pos trivial, yfy, if_pos rfl, wrap_succ (by omega)]
    · refine .inl fun k => ?_
      simp only [laws_eqFaceS.l0]
      rw [if_neg (by omega)]
  refine Ev.congr (fun k => ?_) hl
  unfold laws_eqFaceS.f
  rw [if_pos rfl]
theorem eqTriangulation_ev (l : Tri) (h : Small l) : Ev (fun k => laws_eqTriangulation.f k l l) true := by
  have hl : Ev (fun k => laws_eqFaceSS.l0 k l l 0) true := by
    refine ev_loop (fun k (s : Int) => laws_eqFaceSS.l0 k l l s) (fun s => ∃ n : Nat, n ≤ l.length ∧ s = n) (fun s => l.length - s.toNat) (fun _ => true) ?_ 0 ⟨0, by omega, rfl⟩
    rintro i ⟨n, hn, rfl⟩
    by_cases hlt : n < l.length
    · obtain ⟨K, hK⟩ := eqFaceS_ev l[n] (h.2 _ (List.getElem_mem hlt))
      refine .inr ⟨((n + 1 : Nat) : Int), K, ⟨n + 1, by omega, rfl⟩, by simp; omega, rfl, fun k hk => ?_⟩
      have e : laws_eqFaceS.f k l[n] l[n] = some _ := hK k hk
      have h1 := h.1
      simp only [laws_eqFaceSS.l0]
      rw [if_pos (by omega), if_pos (by omega), if_pos (by omega), rd_LFace_lt l n hlt, e, yfy, if_pos rfl, wrap_succ (by omega)]
    · refine .inl ⟨0, fun k _ => ?_⟩
      simp only [laws_eqFaceSS.l0]
      rw [if_neg (by omega)]
  have h2 : Ev (fun k => laws_eqFaceSS.f k l l) true := by
    refine Ev.congr (fun k => ?_) hl
    unfold laws_eqFaceSS.f
    rw [if_pos rfl]
  exact Ev.bind h2 (ev_pos rfl (Ev.now _))
/-- The face f of the tetrahedron a. -/
abbrev fc (t : Tri) (a f : Int) : SFace := rd_Face (rd_LFace t a) f
/-- Is a face as in a valid triangulation? -/
def goodF (t : Tri) (a f : Int) : Bool :=
  if (fc t a f).f0 = -1 then (fc t a f).f1 == 0
  else if 0 ≤ (fc t a f).f0 ∧ (fc t a f).f0 < (t.length : Int) ∧ 0 ≤ (fc t a f).f1 ∧ (fc t a f).f1 ≤ 23 then
    ((fc t (fc t a f).f0 (rd (permL (fc t a f).f1) f)).f0 == a && (fc t (fc t a f).f0 (rd (permL (fc t a f).f1) f)).f1 == invP (fc t a f).f1) && !((fc t a f).f0 == a && rd (permL (fc t a f).f1) f == f)
  else false
/-- d faces of a from f on are good. -/
def goodFs (t : Tri) (a : Int) : Int → Nat → Bool
  | _, 0 => true
  | f, d + 1 => goodF t a f && goodFs t a (f + 1) d
/-- d tetrahedra from a on are good. -/
def goodTs (t : Tri) : Int → Nat → Bool
  | _, 0 => true
  | a, d + 1 => goodFs t a 0 4 && goodTs t (a + 1) d
/-- A valid triangulation. -/
def isTri (t : Tri) : Bool := decide (t.length ≤ 8) && (t.all (fun r => decide (r.length = 4)) && goodTs t 0 t.length)
section
variable {t : Tri}
theorem row4 (h4 : ∀ r ∈ t, r.length = 4) {a : Int} (h0 : 0 ≤ a) (h1 : a < t.length) : (rd_LFace t a).length = 4 := by
  obtain ⟨n, rfl⟩ := Int.eq_ofNat_of_zero_le h0
  rw [rd_LFace_lt t n (by omega)]
  exact h4 _ (List.getElem_mem _)
theorem impl_isGood_ev (h4 : ∀ r ∈ t, r.length = 4) (hn : t.length ≤ 8) {a f : Int} (h0 : 0 ≤ a) (h1 : a < t.length) (hf0 : 0 ≤ f) (hf1 : f ≤ 3) : Ev (fun k => impl_Triangulation_isGood.f k t a f) (goodF t a f) := by
  have hr := row4 h4 h0 h1
  refine Ev.congr (fun k => by unfold impl_Triangulation_isGood.f; rw [if_pos h0, if_pos h1, if_pos hf0, if_pos (by omega)]) ?_
  change Ev (fun k => if (fc t a f).f0 = -1 then some ((fc t a f).f1 == 0) else _) (goodF t a f)
  unfold goodF
  by_cases hb : (fc t a f).f0 = -1
  · rw [if_pos hb]; exact ev_pos hb (Ev.now _)
  · refine ev_neg hb ?_
    rw [if_neg hb]
    have hix : impl_hasIndex_Simpl_Face.f t (fc t a f).f0 = some (decide (0 ≤ (fc t a f).f0) && decide ((fc t a f).f0 ≤ (t.length : Int) - 1)) := by
      unfold impl_hasIndex_Simpl_Face.f impl_size_Simpl_Face.f
      rw [yfy, wrap_id (by omega) (by omega), inRange_eq]; rfl
    have hfalse : Ev (fun k => impl_Triangulation_isGood.j0 k a f true t (fc t a f).f0 (fc t a f).f1) false := ev_step (fun k => by rw [impl_Triangulation_isGood.j0, if_pos rfl]) (Ev.now false)
    refine Ev.bind (ev_const hix) ?_
    by_cases hi : 0 ≤ (fc t a f).f0 ∧ (fc t a f).f0 < (t.length : Int)
    · refine ev_pos (by simp; omega) ?_
      refine Ev.bind (ev_const (isPerm_eq _)) ?_
      by_cases hp : 0 ≤ (fc t a f).f1 ∧ (fc t a f).f1 ≤ 23
      · rw [if_pos ⟨hi.1, hi.2, hp.1, hp.2⟩]
        have e : (!(decide (0 ≤ (fc t a f).f1) && decide ((fc t a f).f1 ≤ 23))) = false := by simp [hp]
        rw [e]
        refine ev_step (fun k => by rw [impl_Triangulation_isGood.j0, if_neg (by simp), target_eq hp.1 hp.2 hf0 hf1, yfy]) ?_
        obtain ⟨hg0, hg1⟩ := permL_sm hp.1 hp.2 hf0 hf1
        have hr2 := row4 h4 hi.1 hi.2
        refine ev_pos hi.1 (ev_pos hi.2 (ev_pos hg0 (ev_pos (by rw [hr2]; omega) ?_)))
        refine Ev.bind (ev_const (partner_eq hp.1 hp.2)) ?_
        change Ev (fun k => if ((fc t (fc t a f).f0 (rd (permL (fc t a f).f1) f)).f0 == a && (fc t (fc t a f).f0 (rd (permL (fc t a f).f1) f)).f1 == invP (fc t a f).f1) = true then _ else _) _
        generalize ((fc t (fc t a f).f0 (rd (permL (fc t a f).f1) f)).f0 == a && (fc t (fc t a f).f0 (rd (permL (fc t a f).f1) f)).f1 == invP (fc t a f).f1) = b
        cases b with
        | false => refine ev_neg (by simp) ?_; rw [Bool.false_and]; exact Ev.now false
        | true =>
          refine ev_pos rfl ?_
          rw [Bool.true_and]
          by_cases ha : (fc t a f).f0 = a
          · refine ev_pos ha (ev_some ?_)
            rw [ha]; simp [bne]
          · refine ev_neg ha (ev_some ?_)
            simp [ha]
      · rw [if_neg (by omega)]
        have e : (!(decide (0 ≤ (fc t a f).f1) && decide ((fc t a f).f1 ≤ 23))) = true := by
          rw [Bool.not_eq_true', Bool.and_eq_false_iff, decide_eq_false_iff_not, decide_eq_false_iff_not]; omega
        rw [e]
        exact hfalse
    · rw [if_neg (by omega)]
      refine ev_neg ?_ hfalse
      rw [Bool.and_eq_true, decide_eq_true_eq, decide_eq_true_eq]; omega
theorem impl_l1_ev (h4 : ∀ r ∈ t, r.length = 4) (hn : t.length ≤ 8) {a : Int} (h0 : 0 ≤ a) (h1 : a < t.length) {R : Bool} (hR : Ev (fun k => impl_isTriangulation.l0 k (t.length : Int) (a + 1) t) R) :
    ∀ (d : Nat) (f : Int), 0 ≤ f → f + d = 4 → Ev (fun k => impl_isTriangulation.l1 k a (t.length : Int) a f t) (goodFs t a f d && R)
  | 0, f, hf, he => by
    refine ev_step (fun k => by rw [impl_isTriangulation.l1, if_neg (by omega), wrap_id (by omega) (by omega)]) ?_
    rw [goodFs, Bool.true_and]; exact hR
  | d + 1, f, hf, he => by
    refine ev_step (fun k => by rw [impl_isTriangulation.l1, if_pos (by omega)]) ?_
    refine Ev.bind (impl_isGood_ev h4 hn h0 h1 hf (by omega)) ?_
    rw [goodFs]
    cases hg : goodF t a f with
    | false => exact ev_neg (by simp) (by rw [Bool.false_and, Bool.false_and]; exact Ev.now false)
    | true =>
      refine ev_pos rfl ?_
      rw [Bool.true_and]
      exact Ev.congr (fun k => by rw [wrap_id (by omega) (by omega)]) (impl_l1_ev h4 hn h0 h1 hR d (f + 1) (by omega) (by omega))
theorem impl_l0_ev (h4 : ∀ r ∈ t, r.length = 4) (hn : t.length ≤ 8) : ∀ (d : Nat) (a : Int), 0 ≤ a → a + d = t.length → Ev (fun k => impl_isTriangulation.l0 k (t.length : Int) a t) (goodTs t a d)
  | 0, a, ha, he => by
    refine ev_step (fun k => by rw [impl_isTriangulation.l0, if_neg (by omega)]) ?_
    exact Ev.now true
  | d + 1, a, ha, he => by
    refine ev_step (fun k => by rw [impl_isTriangulation.l0, if_pos (by omega)]) ?_
    rw [goodTs]
    exact impl_l1_ev h4 hn ha (by omega) (impl_l0_ev h4 hn d (a + 1) (by omega) (by omega)) 4 0 (by omega) (by omega)
theorem all4_iff : t.all (fun r => decide (r.length = 4)) = true ↔ ∀ r ∈ t, r.length = 4 := by simp
theorem contains4 (h : Small t) : slices_ContainsFunc_SSimpl_Face_at_impl_isTriangulation_1.f t = some (!(t.all fun r => decide (r.length = 4))) := by
  unfold slices_ContainsFunc_SSimpl_Face_at_impl_isTriangulation_1.f slices_IndexFunc_SSimpl_Face_at_impl_isTriangulation_1.f
  rw [contO (p := fun r => !(decide (r.length = 4))) t (fun r _ => by
    show impl_isTriangulation_1.f r = _
    unfold impl_isTriangulation_1.f
    congr 1
    by_cases h : r.length = 4
    · simp [h]
    · have : ¬ ((r.length : Int) = 4) := by omega
      simp [h, this]), List.not_all_eq_any_not]
theorem impl_isTri_ev (h : Small t) : Ev (fun k => impl_isTriangulation.f k t) (isTri t) := by
  have hfalse : Ev (fun k => impl_isTriangulation.j0 k true t) false := ev_step (fun k => by rw [impl_isTriangulation.j0, if_pos rfl]) (Ev.now false)
  unfold isTri
  by_cases h8 : t.length ≤ 8
  · refine Ev.congr (fun k => by unfold impl_isTriangulation.f; rw [if_neg (by omega), contains4 h, yfy]) ?_
    rw [ygy h8, Bool.true_and]
    cases hall : t.all (fun r => decide (r.length = 4)) with
    | false => rw [Bool.false_and]; exact hfalse
    | true =>
      rw [Bool.true_and]
      refine ev_step (fun k => by rw [impl_isTriangulation.j0, if_neg (by simp)]) ?_
      exact impl_l0_ev (all4_iff.1 hall) h8 t.length 0 (by omega) (by omega)
  · refine Ev.congr (fun k => by unfold impl_isTriangulation.f; rw [if_pos (by omega)]) ?_
    rw [yhy h8, Bool.false_and]; exact hfalse
theorem spec_l2_ev (h4 : ∀ r ∈ t, r.length = 4) (hn : t.length ≤ 8) {a : Int} (h0 : 0 ≤ a) (h1 : a < t.length) {R : Bool} (hR : Ev (fun k => spec_IsTriangulation.l1 k (a + 1) t) R) :
    ∀ (d : Nat) (f : Int), 0 ≤ f → f + d = 4 → Ev (fun k => spec_IsTriangulation.l2 k a f t) (goodFs t a f d && R)
  | 0, f, hf, he => by
    refine ev_step (fun k => by rw [spec_IsTriangulation.l2, if_neg (by omega), wrap_id (by omega) (by omega)]) ?_
    rw [goodFs, Bool.true_and]; exact hR
  | d + 1, f, hf, he => by
    have hr := row4 h4 h0 h1
    have ih : Ev (fun k => spec_IsTriangulation.l2 k a (wrap64 (f + 1)) t) (goodFs t a (f + 1) d && R) := Ev.congr (fun k => by rw [wrap_id (by omega) (by omega)]) (spec_l2_ev h4 hn h0 h1 hR d (f + 1) (by omega) (by omega))
    refine ev_step (fun k => by rw [spec_IsTriangulation.l2, if_pos (by omega), if_pos h0, if_pos h1, if_pos hf, if_pos (by omega)]) ?_
    change Ev (fun k => if (fc t a f).f0 = -1 then spec_IsTriangulation.j3 k a f ((fc t a f).f1 == 0) t (fc t a f).f0 (fc t a f).f1 else spec_IsTriangulation.j3 k a f false t (fc t a f).f0 (fc t a f).f1) _
    rw [goodFs]
    have hstop : ∀ b, Ev (fun k => spec_IsTriangulation.j4 k a f true t (fc t a f).f0 (fc t a f).f1) (false && b) := fun b => by
      rw [Bool.false_and]; exact ev_step (fun k => by rw [spec_IsTriangulation.j4, if_pos rfl]) (Ev.now false)
    have hgo : Ev (fun k => spec_IsTriangulation.j3 k a f true t (fc t a f).f0 (fc t a f).f1) (goodFs t a (f + 1) d && R) := ev_step (fun k => by rw [spec_IsTriangulation.j3, if_pos rfl]) ih
    have hrest : (¬ ((fc t a f).f0 = -1 ∧ (fc t a f).f1 = 0)) → Ev (fun k => spec_IsTriangulation.j3 k a f false t (fc t a f).f0 (fc t a f).f1) (goodF t a f && goodFs t a (f + 1) d && R) := by
      intro hnb
      refine ev_step (fun k => by rw [spec_IsTriangulation.j3, spec_l07Tets.f, if_neg (by simp), yfy, l07In_eq, yfy, wrap_id (by omega) (by omega)]) ?_
      unfold goodF
      by_cases hi : 0 ≤ (fc t a f).f0 ∧ (fc t a f).f0 < (t.length : Int)
      · refine ev_pos (by simp; omega) ?_
        refine Ev.bind (ev_const (l06Valid_eq _)) ?_
        rw [if_neg (by omega)]
        by_cases hp : 0 ≤ (fc t a f).f1 ∧ (fc t a f).f1 ≤ 23
        · rw [if_pos ⟨hi.1, hi.2, hp.1, hp.2⟩]
          have e : (!(decide (0 ≤ (fc t a f).f1) && decide ((fc t a f).f1 ≤ 23))) = false := by simp [hp]
          rw [e]
          obtain ⟨hg0, hg1⟩ := permL_sm hp.1 hp.2 hf (by omega)
          have hr2 := row4 h4 hi.1 hi.2
          refine ev_step (fun k => by rw [spec_IsTriangulation.j4, if_neg (by simp)]) ?_
          refine Ev.bind (l06At_ev hp.1 hp.2 hf (by omega)) ?_
          refine Ev.bind (l06Back_ev hp.1 hp.2) ?_
          refine ev_pos hi.1 (ev_pos hi.2 (ev_pos hg0 (ev_pos (by rw [hr2]; omega) ?_)))
          change Ev (fun k => if (!((fc t (fc t a f).f0 (rd (permL (fc t a f).f1) f)).f0 == a) || !((fc t (fc t a f).f0 (rd (permL (fc t a f).f1) f)).f1 == invP (fc t a f).f1)) = true then _ else _) _
          generalize ((fc t (fc t a f).f0 (rd (permL (fc t a f).f1) f)).f0 == a) = b1
          generalize ((fc t (fc t a f).f0 (rd (permL (fc t a f).f1) f)).f1 == invP (fc t a f).f1) = b2
          cases b1 with
          | false => exact ev_pos rfl (by rw [Bool.false_and, Bool.false_and, Bool.false_and, Bool.false_and]; exact Ev.now false)
          | true =>
            cases b2 with
            | false => exact ev_pos rfl (by rw [Bool.true_and, Bool.false_and, Bool.false_and, Bool.false_and]; exact Ev.now false)
            | true =>
              refine ev_neg (by simp) ?_
              rw [Bool.true_and, Bool.true_and]
              by_cases ha : (fc t a f).f0 = a
              · refine ev_pos ha ?_
                by_cases hg : rd (permL (fc t a f).f1) f = f
                · refine ev_pos hg ?_
                  rw [ha, hg]
                  simp
                  exact Ev.now false
                · refine ev_neg hg ?_
                  have : (rd (permL (fc t a f).f1) f == f) = false := by simp [hg]
                  rw [this, Bool.and_false, Bool.not_false, Bool.true_and]
                  exact ih
              · refine ev_neg ha ?_
                have : ((fc t a f).f0 == a) = false := by simp [ha]
                rw [this, Bool.false_and, Bool.not_false, Bool.true_and]
                exact ih
        · rw [if_neg (by omega)]
          have e : (!(decide (0 ≤ (fc t a f).f1) && decide ((fc t a f).f1 ≤ 23))) = true := by
            rw [Bool.not_eq_true', Bool.and_eq_false_iff, decide_eq_false_iff_not, decide_eq_false_iff_not]; omega
          rw [e, Bool.false_and]
          exact hstop R
      · have hg : (if (fc t a f).f0 = -1 then ((fc t a f).f1 == 0) else if 0 ≤ (fc t a f).f0 ∧ (fc t a f).f0 < (t.length : Int) ∧ 0 ≤ (fc t a f).f1 ∧ (fc t a f).f1 ≤ 23 then
            ((fc t (fc t a f).f0 (rd (permL (fc t a f).f1) f)).f0 == a && (fc t (fc t a f).f0 (rd (permL (fc t a f).f1) f)).f1 == invP (fc t a f).f1) && !((fc t a f).f0 == a && rd (permL (fc t a f).f1) f == f) else false) = false := by
          by_cases hb : (fc t a f).f0 = -1
          · rw [if_pos hb]; simp; intro h; exact hnb ⟨hb, h⟩
          · rw [if_neg hb, if_neg (by omega)]
        rw [hg, Bool.false_and]
        refine ev_neg ?_ (hstop R)
        rw [Bool.and_eq_true, decide_eq_true_eq, decide_eq_true_eq]; omega
    by_cases hb : (fc t a f).f0 = -1
    · refine ev_pos hb ?_
      by_cases h0' : (fc t a f).f1 = 0
      · have e : goodF t a f = true := by unfold goodF; rw [if_pos hb]; simp [h0']
        rw [e, Bool.true_and]
        have e2 : ((fc t a f).f1 == 0) = true := by simp [h0']
        rw [e2]; exact hgo
      · have e2 : ((fc t a f).f1 == 0) = false := by simp [h0']
        rw [e2]; exact hrest (fun h => h0' h.2)
    · exact ev_neg hb (hrest (fun h => hb h.1))
theorem spec_l1_ev (h4 : ∀ r ∈ t, r.length = 4) (hn : t.length ≤ 8) : ∀ (d : Nat) (a : Int), 0 ≤ a → a + d = t.length → Ev (fun k => spec_IsTriangulation.l1 k a t) (goodTs t a d)
  | 0, a, ha, he => by
    refine ev_step (fun k => by rw [spec_IsTriangulation.l1, spec_l07Tets.f, yfy, if_neg (by omega)]) ?_
    exact Ev.now true
  | d + 1, a, ha, he => by
    refine ev_step (fun k => by rw [spec_IsTriangulation.l1, spec_l07Tets.f, yfy, if_pos (by omega)]) ?_
    rw [goodTs]
    exact spec_l2_ev h4 hn ha (by omega) (spec_l1_ev h4 hn d (a + 1) (by omega) (by omega)) 4 0 (by omega) (by omega)
theorem spec_l0_ev (h8 : t.length ≤ 8) (d : Nat) : ∀ n : Nat, n + d = t.length → (t.all (fun r => decide (r.length = 4)) = (t.drop n).all (fun r => decide (r.length = 4))) → Ev (fun k => spec_IsTriangulation.l0 k (n : Int) t) (t.all (fun r => decide (r.length = 4)) && goodTs t 0 t.length) := by
  induction d with
  | zero =>
    intro n hn ha
    refine ev_step (fun k => by rw [spec_IsTriangulation.l0, if_neg (by omega)]) ?_
    have hall : t.all (fun r => decide (r.length = 4)) = true := by rw [ha, List.drop_eq_nil_of_le (by omega)]; rfl
    rw [hall, Bool.true_and]
    exact spec_l1_ev (all4_iff.1 hall) h8 t.length 0 (by omega) (by omega)
  | succ d ih =>
    intro n hn ha
    have hlt : n < t.length := by omega
    refine ev_step (fun k => by rw [spec_IsTriangulation.l0, if_pos (by omega), if_pos (by omega), rd_LFace_lt t n hlt]) ?_
    rw [List.drop_eq_getElem_cons hlt, List.all_cons] at ha
    by_cases h : t[n].length = 4
    · refine ev_pos (by omega) ?_
      refine Ev.congr (fun k => by rw [wrap_succ (by omega)]) (ih (n + 1) (by omega) ?_)
      rw [ha, ygy h, Bool.true_and]
    · refine ev_neg (by omega) ?_
      rw [ha, yhy h, Bool.false_and, Bool.false_and]
      exact Ev.now false
theorem spec_isTri_ev (t : Tri) : Ev (fun k => spec_IsTriangulation.f k t) (isTri t) := by
  refine Ev.congr (fun k => by unfold spec_IsTriangulation.f spec_l07Tets.f; rw [yfy]) ?_
  unfold isTri
  by_cases h8 : t.length ≤ 8
  · refine ev_neg (by omega) ?_
    rw [ygy h8, Bool.true_and]
    exact spec_l0_ev h8 t.length 0 (by omega) (by rw [List.drop_zero])
  · refine ev_pos (by omega) ?_
    rw [yhy h8, Bool.false_and]
    exact Ev.now false
end
theorem isTri_good {t : Tri} (h : isTri t = true) : t.length ≤ 8 ∧ (∀ r ∈ t, r.length = 4) ∧ goodTs t 0 t.length = true := by
  unfold isTri at h
  rw [Bool.and_eq_true, Bool.and_eq_true, decide_eq_true_eq] at h
  exact ⟨h.1, all4_iff.1 h.2.1, h.2.2⟩
theorem goodFs_at (t : Tri) (a : Int) (d : Nat) : ∀ f, goodFs t a f d = true → ∀ g, f ≤ g → g < f + d → goodF t a g = true := by
  induction d with
  | zero => intro f _ g h1 h2; omega
  | succ d ih =>
    intro f h g h1 h2
    rw [goodFs, Bool.and_eq_true] at h
    by_cases e : g = f
    · rw [e]; exact h.1
    · exact ih (f + 1) h.2 g (by omega) (by omega)
theorem goodTs_at (t : Tri) (d : Nat) : ∀ a, goodTs t a d = true → ∀ b, a ≤ b → b < a + d → ∀ g, 0 ≤ g → g ≤ 3 → goodF t b g = true := by
  induction d with
  | zero => intro a _ b h1 h2; omega
  | succ d ih =>
    intro a h b h1 h2 g hg0 hg1
    rw [goodTs, Bool.and_eq_true] at h
    by_cases e : b = a
    · rw [e]; exact goodFs_at t a 4 0 h.1 g hg0 (by omega)
    · exact ih (a + 1) h.2 b (by omega) (by omega) g hg0 hg1
/-- A face of a valid triangulation: the boundary, or glued to a face that is glued back. -/
theorem face_good {t : Tri} (h : isTri t = true) {a f : Int} (h0 : 0 ≤ a) (h1 : a < t.length) (hf0 : 0 ≤ f) (hf1 : f ≤ 3) :
    ((fc t a f).f0 = -1 ∧ (fc t a f).f1 = 0) ∨
    ((0 ≤ (fc t a f).f0 ∧ (fc t a f).f0 < (t.length : Int) ∧ 0 ≤ (fc t a f).f1 ∧ (fc t a f).f1 ≤ 23) ∧
      (fc t (fc t a f).f0 (rd (permL (fc t a f).f1) f)).f0 = a ∧ (fc t (fc t a f).f0 (rd (permL (fc t a f).f1) f)).f1 = invP (fc t a f).f1 ∧ ¬ ((fc t a f).f0 = a ∧ rd (permL (fc t a f).f1) f = f)) := by
  have hg := goodTs_at t t.length 0 (isTri_good h).2.2 a h0 (by omega) f hf0 hf1
  unfold goodF at hg
  by_cases hb : (fc t a f).f0 = -1
  · rw [if_pos hb] at hg
    exact .inl ⟨hb, by simpa using hg⟩
  · rw [if_neg hb] at hg
    by_cases hi : 0 ≤ (fc t a f).f0 ∧ (fc t a f).f0 < (t.length : Int) ∧ 0 ≤ (fc t a f).f1 ∧ (fc t a f).f1 ≤ 23
    · rw [if_pos hi, Bool.and_eq_true, Bool.and_eq_true, Bool.not_eq_true'] at hg
      refine .inr ⟨hi, eq_of_beq hg.1.1, eq_of_beq hg.1.2, fun hc => ?_⟩
      have := hg.2
      rw [Bool.and_eq_false_iff] at this
      rcases this with h2 | h2
      · exact absurd hc.1 (by simpa using h2)
      · exact absurd hc.2 (by simpa using h2)
    · rw [if_neg hi] at hg; cases hg
theorem isTri_small {t : Tri} (h : isTri t = true) : Small t := ⟨by have := (isTri_good h).1; omega, fun r hr => by have := (isTri_good h).2.1 r hr; omega⟩
/-- Each of 0 to n - 1 once: what both sides look up, element by element. -/
def permGo (n : Nat) : List Int → List Bool → Bool
  | [], _ => true
  | x :: xs, seen => if (0 ≤ x ∧ x < (n : Int)) ∧ seen.getD x.toNat false = false then permGo n xs (seen.set x.toNat true) else false
def isPermL (n : Nat) (l : List Int) : Bool := permGo n l (List.replicate n false) && decide (l.length = n)
theorem permGo_fin (n : Nat) : ∀ (l : List Int) (seen : List Bool), seen.length = n → permGo n l seen = true →
    ∃ fin : List Bool, fin.length = n ∧ fin.count true = seen.count true + l.length ∧ ∀ i : Nat, fin[i]? = some true → seen[i]? = some true ∨ (i : Int) ∈ l
  | [], seen, hl, _ => ⟨seen, hl, by simp, fun i h => .inl h⟩
  | x :: xs, seen, hl, h => by
    rw [permGo] at h
    by_cases hc : (0 ≤ x ∧ x < (n : Int)) ∧ seen.getD x.toNat false = false
    · rw [if_pos hc] at h
      obtain ⟨⟨h0, h1⟩, h2⟩ := hc
      have hlt : x.toNat < seen.length := by omega
      obtain ⟨fin, f1, f2, f3⟩ := permGo_fin n xs (seen.set x.toNat true) (by simp [hl]) h
      have hx : seen[x.toNat] = false := by simpa [hlt] using h2
      refine ⟨fin, f1, ?_, fun i hi => ?_⟩
      · rw [f2, List.count_set hlt, hx]; simp; omega
      · rcases f3 i hi with h4 | h4
        · rw [List.getElem?_set] at h4
          by_cases e : x.toNat = i
          · exact .inr (by rw [← e, Int.toNat_of_nonneg h0]; exact List.mem_cons_self)
          · rw [if_neg e] at h4; exact .inl h4
        · exact .inr (List.mem_cons_of_mem _ h4)
    · rw [if_neg hc] at h; cases h
theorem permGo_range (n : Nat) : ∀ (l : List Int) (seen : List Bool), permGo n l seen = true → ∀ x ∈ l, 0 ≤ x ∧ x < (n : Int)
  | [], _, _ => fun x hx => by cases hx
  | y :: ys, seen, h => by
    rw [permGo] at h
    by_cases hc : (0 ≤ y ∧ y < (n : Int)) ∧ seen.getD y.toNat false = false
    · rw [if_pos hc] at h
      intro x hx
      rcases List.mem_cons.1 hx with rfl | hx
      · exact hc.1
      · exact permGo_range n ys _ h x hx
    · rw [if_neg hc] at h; cases h
theorem isPermL_len {n : Nat} {l : List Int} (h : isPermL n l = true) : l.length = n := by
  unfold isPermL at h; rw [Bool.and_eq_true, decide_eq_true_eq] at h; exact h.2
theorem isPermL_range {n : Nat} {l : List Int} (h : isPermL n l = true) : ∀ x ∈ l, 0 ≤ x ∧ x < (n : Int) := by
  unfold isPermL at h; rw [Bool.and_eq_true] at h; exact permGo_range n l _ h.1
theorem isPermL_all {n : Nat} {l : List Int} (h : isPermL n l = true) : ∀ i : Nat, i < n → (i : Int) ∈ l := by
  have hlen := isPermL_len h
  unfold isPermL at h; rw [Bool.and_eq_true] at h
  obtain ⟨fin, f1, f2, f3⟩ := permGo_fin n l _ (by simp) h.1
  have e : fin.count true = fin.length := by rw [f2, f1, hlen, List.count_replicate]; simp
  rw [List.count_eq_length] at e
  intro i hi
  have h2 : i < fin.length := by omega
  rcases f3 i (by rw [List.getElem?_eq_getElem h2, ← e fin[i] (List.getElem_mem h2)]) with h3 | h3
  · rw [List.getElem?_replicate, if_pos hi] at h3; cases h3
  · exact h3
theorem relN_get (t : Tri) (ts ps : List Int) (i : Nat) : ∀ (m : Nat) (u v : Tri), u.length = v.length → ((∃ a : Nat, a < m ∧ rd ts (a : Int) = (i : Int)) ∨ u[i]? = v[i]?) → (relN t ts ps m u)[i]? = (relN t ts ps m v)[i]?
  | 0, u, v, hl, h => by
    rcases h with ⟨a, ha, _⟩ | h
    · omega
    · exact h
  | m + 1, u, v, hl, h => by
    rw [relN, relN, List.getElem?_set, List.getElem?_set, relN_length, relN_length, hl]
    by_cases e : (rd ts (m : Int)).toNat = i
    · rw [if_pos e, if_pos e]
    · rw [if_neg e, if_neg e]
      refine relN_get t ts ps i m u v hl ?_
      rcases h with ⟨a, ha, h⟩ | h
      · rcases Nat.lt_or_ge a m with h2 | h2
        · exact .inl ⟨a, h2, h⟩
        · obtain rfl : a = m := by omega
          exact absurd (by rw [h]; rfl) e
      · exact .inr h
/-- What the list began with is all written over. -/
theorem relN_any (t : Tri) (ts ps : List Int) {n : Nat} (hp : isPermL n ts = true) {u v : Tri} (hu : u.length = n) (hv : v.length = n) : relN t ts ps n u = relN t ts ps n v := by
  apply List.ext_getElem?
  intro i
  by_cases hi : i < n
  · obtain ⟨a, ha, he⟩ := List.getElem_of_mem (isPermL_all hp i hi)
    refine relN_get t ts ps i n u v (by omega) (.inl ⟨a, by have := isPermL_len hp; omega, ?_⟩)
    rw [rd_lt _ _ ha]; exact he
  · rw [List.getElem?_eq_none (by rw [relN_length]; omega), List.getElem?_eq_none (by rw [relN_length]; omega)]
theorem spec_own_ev {t : Tri} (hs : Small t) : Ev (fun k => spec_l07Own.f k t) t := by
  refine ev_loop0 (fun k (s : Int × Tri) => spec_l07Own.l0 k s.1 t s.2) (fun s => ∃ n : Nat, n ≤ t.length ∧ s.1 = n ∧ s.2 = t.take n) (fun s => t.length - s.1.toNat) (fun _ => t) ?_ (0, []) ⟨0, by omega, rfl, by simp⟩
  rintro ⟨i, acc⟩ ⟨n, hn, rfl, rfl⟩
  dsimp only
  have hl := hs.1
  by_cases hlt : n < t.length
  · have hr := hs.2 t[n] (List.getElem_mem hlt)
    refine .inr ⟨(((n + 1 : Nat) : Int), t.take (n + 1)), ⟨n + 1, by omega, rfl, rfl⟩, by simp; omega, rfl, fun k => ?_⟩
    simp only [spec_l07Own.l0]
    rw [if_pos (by omega), yfy, if_pos (by omega), rd_LFace_lt t n hlt, if_pos (by simp; omega), if_pos (by simp; omega), wrap_succ (by omega), List.nil_append, List.take_succ_eq_append_getElem hlt]
  · obtain rfl : n = t.length := by omega
    refine .inl fun k => ?_
    simp only [spec_l07Own.l0]
    rw [if_neg (by omega), List.take_length]
/-- Numbers by which a triangulation of n tetrahedra can be relabelled. -/
def okPs (n : Nat) (ps : List Int) : Bool := decide (ps.length = n) && ps.all (fun p => decide (0 ≤ p) && decide (p ≤ 23))
def okLab (n : Nat) (ts ps : List Int) : Bool := isPermL n ts && okPs n ps
theorem okLab_h {n : Nat} {ts ps : List Int} (h : okLab n ts ps = true) : ts.length = n ∧ (∀ x ∈ ts, 0 ≤ x ∧ x < (n : Int)) ∧ ps.length = n ∧ ∀ x ∈ ps, 0 ≤ x ∧ x ≤ 23 := by
  unfold okLab okPs at h
  simp only [Bool.and_eq_true, decide_eq_true_eq, List.all_eq_true] at h
  exact ⟨isPermL_len h.1, isPermL_range h.1, h.2.1, h.2.2⟩
def relT (t : Tri) (ts ps : List Int) : Tri := relN t ts ps t.length (List.replicate t.length [])
theorem relN_rows (t : Tri) (ts ps : List Int) (u : Tri) (hu : ∀ r ∈ u, r.length ≤ 4) : ∀ n, ∀ r ∈ relN t ts ps n u, r.length ≤ 4
  | 0 => hu
  | n + 1 => fun r hr => by
    rw [relN] at hr
    rcases List.mem_or_eq_of_mem_set hr with h | h
    · exact relN_rows t ts ps u hu n r h
    · rw [h, relK_length]; omega
theorem relT_small {t : Tri} (h : t.length ≤ 8) (ts ps : List Int) : Small (relT t ts ps) :=
  ⟨by unfold relT; rw [relN_length, List.length_replicate]; omega, fun r hr => by have := relN_rows t ts ps _ (fun r hr => by rw [(List.mem_replicate.1 hr).2]; simp) _ r hr; omega⟩
theorem okRel_of {t : Tri} (h : isTri t = true) {ts ps : List Int} (hl : okLab t.length ts ps = true) : okRel t ts ps = true := by
  obtain ⟨h8, h4, _⟩ := isTri_good h
  obtain ⟨a, b, c, d⟩ := okLab_h hl
  unfold okRel
  simp only [Bool.and_eq_true, decide_eq_true_eq, List.all_eq_true]
  refine ⟨⟨⟨⟨⟨by omega, fun r hr => ⟨h4 r hr, fun x hx => ?_⟩⟩, a⟩, b⟩, c⟩, d⟩
  unfold okF
  by_cases hb : x.f0 < 0
  · rw [ygy hb]; rfl
  · rw [yhy hb, Bool.false_or, Bool.and_eq_true, Bool.and_eq_true, decide_eq_true_eq, decide_eq_true_eq, decide_eq_true_eq]
    obtain ⟨i, hi, rfl⟩ := List.getElem_of_mem hr
    obtain ⟨j, hj, rfl⟩ := List.getElem_of_mem hx
    have hj4 := h4 _ (List.getElem_mem hi)
    have e : fc t (i : Int) (j : Int) = t[i][j] := by show rd_Face (rd_LFace t (i : Int)) (j : Int) = _; rw [rd_LFace_lt t i hi, rd_Face_lt _ j hj]
    rcases face_good h (a := (i : Int)) (f := (j : Int)) (by omega) (by omega) (by omega) (by omega) with ⟨e1, _⟩ | ⟨e1, _⟩
    · rw [e] at e1; exact absurd (by omega) hb
    · rw [e] at e1; exact ⟨⟨e1.2.1, e1.2.2.1⟩, e1.2.2.2⟩
theorem impl_relabeled_eq {t : Tri} (h : isTri t = true) {ts ps : List Int} (hl : okLab t.length ts ps = true) : impl_Triangulation_relabeled.f t ts ps = some (relT t ts ps) := by
  unfold impl_Triangulation_relabeled.f; rw [if_pos (okRel_of h hl)]; rfl
theorem permsOk_from : ∀ d : Nat, permsOk (40 + d) = true
  | 0 => by decide +kernel
  | d + 1 => permsOk_mono (permsOk_from d)
theorem permsOk_ev {α : Type} {g h : Nat → Option α} {r : α} (k : Ev g r) : Ev (fun n => if permsOk n = true then g n else h n) r := by
  obtain ⟨K, hK⟩ := k
  refine ⟨K + 40, fun n hn => ?_⟩
  have := permsOk_from (n - 40)
  rw [show 40 + (n - 40) = n by omega] at this
  show (if permsOk n = true then g n else h n) = some r
  rw [if_pos this]
  exact hK n (by omega)
theorem spec_rel_ev {t : Tri} {ts ps : List Int} (h : isTri t = true) (hl : okLab t.length ts ps = true) : Ev (fun k => spec_l07Relabel.f k t ts ps) (relT t ts ps) := by
  refine Ev.bind (spec_own_ev (isTri_small h)) (ev_pos (okRel_of h hl) (permsOk_ev (ev_pos rfl (ev_some ?_))))
  have hp : isPermL t.length ts = true := by unfold okLab at hl; rw [Bool.and_eq_true] at hl; exact hl.1
  exact (relN_any t ts ps hp (u := List.replicate t.length []) (v := t) (by simp) rfl).symm
theorem impl_isPerm_l0 (n : Nat) (hn : n ≤ 8) (l : List Int) (hl : l.length ≤ 1048576) : ∀ (d i : Nat) (seen : List Bool), i + d = l.length → seen.length = n →
    Ev (fun k => impl_isPermutation.l0 k l (n : Int) seen l (l.length : Int) (i : Int)) (permGo n (l.drop i) seen && decide (l.length = n)) := by
  intro d
  induction d with
  | zero =>
    intro i seen hi hs
    rw [List.drop_eq_nil_of_le (by omega), permGo, Bool.true_and]
    refine ev_step (f := fun k => (impl_size_int64.f l).bind fun x => some (x == (n : Int))) (fun k => by rw [impl_isPermutation.l0, if_neg (by omega)]) (Ev.bind (a := (l.length : Int)) (ev_const (by unfold impl_size_int64.f; rfl)) (ev_some ?_))
    rw [Bool.eq_iff_iff]; simp; omega
  | succ d ih =>
    intro i seen hi hs
    have hlt : i < l.length := by omega
    refine ev_step (fun k => by rw [impl_isPermutation.l0, if_pos (by omega), if_pos (by omega), if_pos (by omega), rd_lt l i hlt]) (Ev.bind (ev_const (inRange_eq _ _ _)) ?_)
    rw [List.drop_eq_getElem_cons hlt, permGo, wrap_id (by omega) (by omega)]
    generalize l[i] = x
    by_cases hx : 0 ≤ x ∧ x < (n : Int)
    · refine ev_pos (by rw [Bool.and_eq_true, decide_eq_true_eq, decide_eq_true_eq]; omega) (ev_pos hx.1 (ev_pos (by omega) ?_))
      cases hb : rdOf false seen x with
      | true =>
        refine ev_pos rfl (ev_some ?_)
        rw [if_neg (fun hc => by have := hc.2; unfold rdOf at hb; rw [this] at hb; cases hb), Bool.false_and]
      | false =>
        refine ev_neg (by simp) ?_
        rw [if_pos ⟨hx, hb⟩]
        exact Ev.congr (fun k => by rw [wrap_succ (by omega)]) (ih (i + 1) _ (by omega) (by simp [hs]))
    · refine ev_neg (by rw [Bool.and_eq_true, decide_eq_true_eq, decide_eq_true_eq]; omega) (ev_some ?_)
      rw [if_neg (fun hc => hx hc.1), Bool.false_and]
theorem impl_isPerm_ev (n : Nat) (hn : n ≤ 8) (l : List Int) (hl : l.length ≤ 1048576) : Ev (fun k => impl_isPermutation.f k l (n : Int)) (isPermL n l) := by
  refine ev_pos (by omega) (ev_pos (by omega) ?_)
  have := impl_isPerm_l0 n hn l hl l.length 0 (List.replicate n false) (by omega) (by simp)
  rw [List.drop_zero] at this
  exact this
theorem spec_isPerm_l0 (n : Nat) (hn : n ≤ 8) (l : List Int) (hl : l.length ≤ 1048576) : ∀ (d i : Nat) (seen : List Bool), i + d = l.length → seen.length = n →
    Ev (fun k => spec_l07Permutation.l0 k l (n : Int) seen (i : Int)) (permGo n (l.drop i) seen && decide (l.length = n)) := by
  intro d
  induction d with
  | zero =>
    intro i seen hi hs
    rw [List.drop_eq_nil_of_le (by omega), permGo, Bool.true_and]
    refine ev_step (fun k => by rw [spec_l07Permutation.l0, if_neg (by omega)]) (ev_some ?_)
    rw [Bool.eq_iff_iff]; simp; omega
  | succ d ih =>
    intro i seen hi hs
    have hlt : i < l.length := by omega
    refine ev_step (fun k => by rw [spec_l07Permutation.l0, if_pos (by omega), if_pos (by omega), rd_lt l i hlt]) (Ev.bind (ev_const (l07In_eq _ _ _)) ?_)
    rw [List.drop_eq_getElem_cons hlt, permGo, wrap_id (by omega) (by omega)]
    generalize l[i] = x
    by_cases hx : 0 ≤ x ∧ x < (n : Int)
    · refine ev_pos (by rw [Bool.and_eq_true, decide_eq_true_eq, decide_eq_true_eq]; omega) (ev_pos hx.1 (ev_pos (by omega) ?_))
      cases hb : rdOf false seen x with
      | true =>
        refine ev_pos rfl (ev_some ?_)
        rw [if_neg (fun hc => by have := hc.2; unfold rdOf at hb; rw [this] at hb; cases hb), Bool.false_and]
      | false =>
        refine ev_neg (by simp) ?_
        rw [if_pos ⟨hx, hb⟩]
        exact Ev.congr (fun k => by rw [wrap_succ (by omega)]) (ih (i + 1) _ (by omega) (by simp [hs]))
    · refine ev_neg (by rw [Bool.and_eq_true, decide_eq_true_eq, decide_eq_true_eq]; omega) (ev_some ?_)
      rw [if_neg (fun hc => hx hc.1), Bool.false_and]
theorem spec_isPerm_ev (n : Nat) (hn : n ≤ 8) (l : List Int) (hl : l.length ≤ 1048576) : Ev (fun k => spec_l07Permutation.f k l (n : Int)) (isPermL n l) := by
  refine ev_pos (by omega) (ev_pos (by omega) ?_)
  have := spec_isPerm_l0 n hn l hl l.length 0 (List.replicate n false) (by omega) (by simp)
  rw [List.drop_zero] at this
  exact this
def valP (p : Int) : Bool := decide (0 ≤ p) && decide (p ≤ 23)
theorem okLab_eq (n : Nat) (ts ps : List Int) : okLab n ts ps = (ps.all valP && (isPermL n ts && decide (ps.length = n))) := by
  unfold okLab okPs
  rw [show (fun p : Int => decide (0 ≤ p) && decide (p ≤ 23)) = valP from rfl, ← Bool.and_assoc, Bool.and_comm]
theorem spec_labels_ev (t : Tri) (ht : t.length ≤ 8) (ts ps : List Int) (h1 : ts.length ≤ 1048576) (h2 : ps.length ≤ 1048576) : Ev (fun k => spec_l07Labels.f k t ts ps) (okLab t.length ts ps) := by
  have key : ∀ d i : Nat, i + d = ps.length → Ev (fun k => spec_l07Labels.l0 k ts ps (i : Int) t) ((ps.drop i).all valP && (isPermL t.length ts && decide (ps.length = t.length))) := by
    intro d
    induction d with
    | zero =>
      intro i hi
      rw [List.drop_eq_nil_of_le (by omega), List.all_nil, Bool.true_and]
      refine ev_step (fun k => by rw [spec_l07Labels.l0, if_neg (by omega)]) (Ev.bind (spec_isPerm_ev t.length ht ts h1) ?_)
      cases isPermL t.length ts with
      | true => refine ev_pos rfl (ev_some ?_); rw [Bool.true_and, Bool.eq_iff_iff]; simp; omega
      | false => exact ev_neg (by simp) (Ev.now _)
    | succ d ih =>
      intro i hi
      have hlt : i < ps.length := by omega
      refine ev_step (fun k => by rw [spec_l07Labels.l0, if_pos (by omega), if_pos (by omega), rd_lt ps i hlt]) (Ev.bind (ev_const (l06Valid_eq _)) ?_)
      rw [List.drop_eq_getElem_cons hlt, List.all_cons]
      generalize ps[i] = x
      cases hv : valP x with
      | true => exact ev_pos hv (by rw [Bool.true_and]; exact Ev.congr (fun k => by rw [wrap_succ (by omega)]) (ih (i + 1) (by omega)))
      | false => exact ev_neg (by show ¬ valP x = true; rw [hv]; simp) (Ev.now _)
  have := key ps.length 0 (by omega)
  rw [List.drop_zero, ← okLab_eq] at this
  exact this
theorem impl_relabeling_ev (t : Tri) (ht : t.length ≤ 8) (ts ps : List Int) (h1 : ts.length ≤ 1048576) : Ev (fun k => impl_isRelabeling.f k t ts ps) (okLab t.length ts ps) := by
  have e1 : impl_size_Simpl_Face.f t = some (t.length : Int) := by unfold impl_size_Simpl_Face.f; rfl
  refine Ev.bind (ev_const e1) (Ev.bind (impl_isPerm_ev t.length ht ts h1) ?_)
  rw [okLab_eq]
  cases isPermL t.length ts with
  | false => refine ev_neg (by simp) (ev_some ?_); rw [Bool.false_and, Bool.and_false]
  | true =>
    refine ev_pos rfl ?_
    by_cases hl : (ps.length : Int) = (t.length : Int)
    · refine ev_pos hl (Ev.bind (a := ps.any fun p => !(valP p)) (ev_const ?_) (ev_some ?_))
      · exact contO ps (fun p _ => by show (impl_isPerm.f p).bind _ = _; rw [isPerm_eq]; rfl)
      · have e2 : decide (ps.length = t.length) = true := ygy (by omega)
        rw [Bool.true_and, e2, Bool.and_true, List.all_eq_not_any_not]
    · refine ev_neg hl (ev_some ?_)
      have e2 : decide (ps.length = t.length) = false := yhy (by omega)
      rw [Bool.true_and, e2, Bool.and_false]
def relab (t : Tri) (ts ps : List Int) : Tri × Int := if isTri t = true then (if okLab t.length ts ps = true then (relT t ts ps, 0) else ([], 2)) else ([], 1)
theorem relab_small (t : Tri) (ts ps : List Int) : Small (relab t ts ps).1 := by
  unfold relab
  by_cases h : isTri t = true
  · rw [if_pos h]
    split
    · exact relT_small (isTri_good h).1 ts ps
    · exact ⟨by simp, fun r hr => by cases hr⟩
  · rw [if_neg h]; exact ⟨by simp, fun r hr => by cases hr⟩
theorem spec_relab_ev (t : Tri) (ts ps : List Int) (h1 : ts.length ≤ 1048576) (h2 : ps.length ≤ 1048576) : Ev (fun k => spec_RelabelTriangulation.f k t ts ps) (relab t ts ps) := by
  refine Ev.bind (spec_isTri_ev t) ?_
  unfold relab
  cases h : isTri t with
  | false => exact ev_neg (by simp) (Ev.now _)
  | true =>
    rw [if_pos rfl]
    refine ev_pos rfl (Ev.bind (spec_labels_ev t (isTri_good h).1 ts ps h1 h2) ?_)
    cases hl : okLab t.length ts ps with
    | false => exact ev_neg (by simp) (Ev.now _)
    | true => exact ev_pos rfl (Ev.bind (spec_rel_ev h hl) (Ev.now _))
theorem impl_relab_ev {t : Tri} (hs : Small t) (ts ps : List Int) (h1 : ts.length ≤ 1048576) : Ev (fun k => impl_RelabelTriangulation.f k t ts ps) (relab t ts ps) := by
  refine Ev.bind (impl_isTri_ev hs) ?_
  unfold relab
  cases h : isTri t with
  | false => exact ev_neg (by simp) (Ev.now _)
  | true =>
    rw [if_pos rfl]
    refine ev_pos rfl (Ev.bind (impl_relabeling_ev t (isTri_good h).1 ts ps h1) ?_)
    cases hl : okLab t.length ts ps with
    | false => exact ev_neg (by simp) (Ev.now _)
    | true => exact ev_pos rfl (Ev.bind (ev_const (impl_relabeled_eq h hl)) (Ev.now _))
/-- n marked faces from a on. -/
def mkR (a : Int) : Nat → List SFace
  | 0 => []
  | n + 1 => ⟨a, a + 1⟩ :: mkR (a + 2) n
theorem mkR_length (a : Int) (n : Nat) : (mkR a n).length = n := by
  induction n generalizing a with
  | zero => rfl
  | succ n ih => simp [mkR, ih]
theorem mkR_get (a : Int) (n i : Nat) (z : SFace) (h : i < n) : (mkR a n).getD i z = ⟨a + 2 * i, a + 2 * i + 1⟩ := by
  induction n generalizing a i with
  | zero => omega
  | succ n ih =>
    cases i with
    | zero => simp [mkR]
    | succ i => simp only [mkR, List.getD_cons_succ]; rw [ih (a + 2) i (by omega)]; congr 1 <;> omega
theorem mkR_snoc (a : Int) (n : Nat) : mkR a (n + 1) = mkR a n ++ [⟨a + 2 * n, a + 2 * n + 1⟩] := by
  induction n generalizing a with
  | zero => simp [mkR]
  | succ n ih =>
    rw [mkR, ih (a + 2)]
    have e : a + 2 + 2 * (n : Int) = a + 2 * ((n + 1 : Nat) : Int) := by omega
    rw [e]; rfl
theorem mk_set (l : List SFace) (a : Int) (n : Nat) (h : n < l.length) : (mkR a n ++ l.drop n).set n ⟨a + 2 * n, a + 2 * n + 1⟩ = mkR a (n + 1) ++ l.drop (n + 1) := by
  rw [List.set_append_right _ _ (by rw [mkR_length]; exact yoy _), mkR_length, Nat.sub_self, List.drop_eq_getElem_cons h, yby, mkR_snoc, List.append_assoc]
  rfl
theorem rd_Face_set (l : List SFace) (n : Nat) (v : SFace) (h : n < l.length) : rd_Face (l.set n v) (n : Int) = v := by
  rw [rd_Face_lt _ n (by rw [List.length_set]; exact h), List.getElem_set_self]
theorem markFaceS_ev (l : List SFace) (a : Int) (h : l.length ≤ 1099511627776) (h0 : 0 ≤ a) (h1 : a ≤ 4398046511104) : Ev (fun k => laws_markFaceS.f k l a) (a + 2 * l.length, mkR a l.length) := by
  have hl : Ev (fun k => laws_markFaceS.l0 k l a 0) (a + 2 * l.length, mkR a l.length) := by
    refine ev_loop0 (fun k (s : List SFace × Int × Int) => laws_markFaceS.l0 k s.1 s.2.1 s.2.2) (fun s => ∃ n : Nat, n ≤ l.length ∧ s.2.2 = n ∧ s.2.1 = a + 2 * n ∧ s.1 = mkR a n ++ l.drop n) (fun s => l.length - s.2.2.toNat) (fun _ => (a + 2 * l.length, mkR a l.length)) ?_ (l, a, 0) ⟨0, by omega, rfl, by simp, by simp [mkR]⟩
    rintro ⟨x, b, i⟩ ⟨n, hn, rfl, rfl, rfl⟩
    dsimp only
    have hlen : (mkR a n ++ l.drop n).length = l.length := by simp [mkR_length]; omega
    by_cases hlt : n < l.length
    · refine .inr ⟨(mkR a (n + 1) ++ l.drop (n + 1), a + 2 * ((n + 1 : Nat) : Int), ((n + 1 : Nat) : Int)), ⟨n + 1, by omega, rfl, rfl, rfl⟩, by simp; omega, rfl, fun k => ?_⟩
      simp only [laws_markFaceS.l0]
      rw [if_pos (by rw [hlen]; omega), if_pos (by omega), yfy, Int.toNat_natCast, rd_Face_set _ n _ (by rw [hlen]; exact hlt), List.set_set, wrap_id (x := a + 2 * (n : Int) + 1) (by omega) (by omega), mk_set l a n hlt, wrap_succ (by omega), wrap_id (by omega) (by omega)]
      congr 1; omega
    · obtain rfl : n = l.length := by omega
      refine .inl fun k => ?_
      simp only [laws_markFaceS.l0]
      rw [if_neg (by rw [hlen]; omega)]
      simp
  exact hl
/-- The marks of a triangulation, and their number. -/
def cntF : Tri → Nat
  | [] => 0
  | r :: rs => 2 * r.length + cntF rs
def mkT (a : Int) : Tri → Tri
  | [] => []
  | r :: rs => mkR a r.length :: mkT (a + 2 * r.length) rs
theorem cntF_le (t : Tri) (h : ∀ r ∈ t, r.length ≤ 1048576) : cntF t ≤ 2097152 * t.length := by
  induction t with
  | nil => simp [cntF]
  | cons r rs ih =>
    have h1 := h r (List.mem_cons_self ..)
    have h2 := ih (fun x hx => h x (List.mem_cons_of_mem _ hx))
    simp only [cntF, List.length_cons]; omega
theorem markGo_ev : ∀ (suf : Tri) (pre : Tri) (a : Int), (∀ r ∈ suf, r.length ≤ 1048576) → 0 ≤ a → a + cntF suf ≤ 4398046511104 → Ev (fun k => laws_markFaceSS.go k suf.length (pre ++ suf) a pre.length) (a + cntF suf, pre ++ mkT a suf)
  | [], pre, a, _, h0, h1 => ev_const' fun k => by simp [laws_markFaceSS.go, cntF, mkT]
  | r :: rs, pre, a, hr, h0, h1 => by
    simp only [cntF] at h1
    have hm := markFaceS_ev r a (by have := hr r (List.mem_cons_self ..); omega) h0 (by omega)
    have ih := markGo_ev rs (pre ++ [mkR a r.length]) (a + 2 * r.length) (fun x hx => hr x (List.mem_cons_of_mem _ hx)) (by omega) (by omega)
    simp only [List.length_cons, laws_markFaceSS.go]
    have e0 : List.getD (pre ++ r :: rs) pre.length [] = r := by simp
    rw [e0]
    refine Ev.bind hm ?_
    dsimp only
    have e1 : (pre ++ r :: rs).set pre.length (mkR a r.length) = pre ++ [mkR a r.length] ++ rs := by
      rw [List.set_append_right _ _ (yoy _), Nat.sub_self, yby]; simp
    rw [e1]
    have e2 : pre.length + 1 = (pre ++ [mkR a r.length]).length := by simp
    rw [e2]
    have e3 : (a + ((cntF (r :: rs) : Nat) : Int), pre ++ mkT a (r :: rs)) = (a + 2 * r.length + (cntF rs : Int), pre ++ [mkR a r.length] ++ mkT (a + 2 * r.length) rs) := by
      simp only [cntF, mkT, List.append_assoc, List.singleton_append]; congr 1; omega
    rw [e3]
    exact ih
theorem markTriangulation_ev (t : Tri) (a : Int) (hs : Small t) (h0 : 0 ≤ a) (h1 : a ≤ 1048576) : Ev (fun k => laws_markTriangulation.f k t a) (a + cntF t, mkT a t) := by
  have := markGo_ev t [] a hs.2 h0 (by have := cntF_le t hs.2; have := hs.1; omega)
  rw [List.nil_append, List.nil_append] at this
  exact this
theorem heldFaceS_ev (a : Int) (m : Nat) (h : m ≤ 1099511627776) (h0 : 0 ≤ a) (h1 : a ≤ 4398046511104) : Ev (fun k => laws_heldFaceS.f k (mkR a m) a) (a + 2 * m) := by
  have hl : Ev (fun k => laws_heldFaceS.l0 k (mkR a m) a 0) (a + 2 * m) := by
    refine ev_loop0 (fun k (s : Int × Int) => laws_heldFaceS.l0 k (mkR a m) s.1 s.2) (fun s => ∃ n : Nat, n ≤ m ∧ s.2 = n ∧ s.1 = a + 2 * n) (fun s => m - s.2.toNat) (fun _ => a + 2 * m) ?_ (a, 0) ⟨0, by omega, rfl, by simp⟩
    rintro ⟨b, i⟩ ⟨n, hn, rfl, rfl⟩
    dsimp only
    by_cases hlt : n < m
    · refine .inr ⟨(a + 2 * ((n + 1 : Nat) : Int), ((n + 1 : Nat) : Int)), ⟨n + 1, by omega, rfl, rfl⟩, by simp; omega, rfl, fun k => ?_⟩
      have e : rd_Face (mkR a m) (n : Int) = ⟨a + 2 * n, a + 2 * n + 1⟩ := by unfold rd_Face; rw [Int.toNat_natCast, mkR_get a m n _ hlt]
      simp only [laws_heldFaceS.l0]
      rw [if_pos (by rw [mkR_length]; omega), if_pos (by omega), e, if_pos rfl, wrap_id (x := a + 2 * (n : Int) + 1) (by omega) (by omega), if_pos rfl, wrap_succ (by omega), wrap_id (by omega) (by omega)]
      congr 1; omega
    · obtain rfl : n = m := by omega
      refine .inl fun k => ?_
      simp only [laws_heldFaceS.l0]
      rw [if_neg (by rw [mkR_length]; omega)]
  exact hl
theorem heldSS_ev : ∀ (suf : Tri) (pre : Tri) (a : Int), (∀ r ∈ suf, r.length ≤ 1048576) → pre.length + suf.length ≤ 1048576 → 0 ≤ a → a + cntF suf ≤ 4398046511104 → Ev (fun k => laws_heldFaceSS.l0 k (pre ++ mkT a suf) a (pre.length : Int)) (a + cntF suf)
  | [], pre, a, _, hn, h0, h1 => by
    refine ev_step (f := fun _ => some a) (fun k => ?_) (ev_some (by simp [cntF]))
    rw [laws_heldFaceSS.l0, if_neg (by simp [mkT])]
  | r :: rs, pre, a, hr, hn, h0, h1 => by
    simp only [cntF, List.length_cons] at h1 hn
    have hm := heldFaceS_ev a r.length (by have := hr r (List.mem_cons_self ..); omega) h0 (by omega)
    have ih := heldSS_ev rs (pre ++ [mkR a r.length]) (a + 2 * r.length) (fun x hx => hr x (List.mem_cons_of_mem _ hx)) (by simp; omega) (by omega) (by omega)
    have e1 : pre ++ mkT a (r :: rs) = pre ++ [mkR a r.length] ++ mkT (a + 2 * r.length) rs := by simp [mkT]
    have e4 : rd_LFace (pre ++ mkT a (r :: rs)) (pre.length : Int) = mkR a r.length := by
      rw [rd_LFace_lt _ _ (by simp [mkT])]; simp [mkT]
    refine ev_step (fun k => by rw [laws_heldFaceSS.l0, if_pos (by simp [mkT]; omega), if_pos (by omega), e4]) (Ev.bind hm ?_)
    refine ev_neg (by omega) ?_
    have e2 : wrap64 ((pre.length : Int) + 1) = ((pre ++ [mkR a r.length]).length : Int) := by rw [wrap_succ (by omega)]; simp
    have e3 : (a + ((cntF (r :: rs) : Nat) : Int)) = a + 2 * r.length + (cntF rs : Int) := by simp only [cntF]; omega
    rw [e1, e3]
    exact Ev.congr (fun k => by rw [e2]) ih
theorem heldTriangulation_ev (t : Tri) (a : Int) (hs : Small t) (h0 : 0 ≤ a) (h1 : a ≤ 1048576) : Ev (fun k => laws_heldTriangulation.f k (mkT a t) a) (a + cntF t) := by
  have := heldSS_ev t [] a hs.2 (by have := hs.1; simp; omega) h0 (by have := cntF_le t hs.2; have := hs.1; omega)
  rw [List.nil_append] at this
  refine Ev.bind (g := fun k => laws_heldFaceSS.f k (mkT a t) a) this ?_
  exact ev_neg (by omega) (Ev.now _)
theorem take_succ_rep {α : Type} (l : List α) (z : α) (n : Nat) (h : n < l.length) :
    (l.take n ++ List.replicate (l.length - n) z).set n l[n] = l.take (n + 1) ++ List.replicate (l.length - (n + 1)) z := by
  have e : l.length - n = (l.length - (n + 1)) + 1 := by omega
  rw [e, List.replicate_succ, List.set_append_right _ _ (by simp; omega)]
  have : n - (l.take n).length = 0 := by simp; omega
  rw [this, yby, List.take_succ_eq_append_getElem h, List.append_assoc]
  rfl
theorem toInt64S_ev (l : List Int) (h : l.length ≤ 4398046511104) : Ev (fun k => laws_toInt64S.f k l) l := by
  have hl : Ev (fun k => laws_toInt64S.l0 k l (List.replicate l.length 0) 0) l := by
    refine ev_loop0 (fun k (s : List Int × Int) => laws_toInt64S.l0 k l s.1 s.2) (fun s => ∃ n : Nat, n ≤ l.length ∧ s.2 = n ∧ s.1 = l.take n ++ List.replicate (l.length - n) 0) (fun s => l.length - s.2.toNat) (fun _ => l) ?_ (List.replicate l.length 0, 0) ⟨0, by omega, rfl, by simp⟩
    rintro ⟨a, i⟩ ⟨n, hn, rfl, rfl⟩
    dsimp only
    by_cases hlt : n < l.length
    · refine .inr ⟨(l.take (n + 1) ++ List.replicate (l.length - (n + 1)) 0, ((n + 1 : Nat) : Int)), ⟨n + 1, by omega, rfl, rfl⟩, by simp; omega, rfl, fun k => ?_⟩
      simp only [laws_toInt64S.l0]
      rw [if_pos (by omega), if_pos (by omega), if_pos (by simp; omega), wrap_succ (by omega), Int.toNat_natCast, rd_lt l n hlt, take_succ_rep l 0 n hlt]
    · obtain rfl : n = l.length := by omega
      refine .inl fun k => ?_
      simp only [laws_toInt64S.l0]
      rw [if_neg (by omega)]
      simp
  refine Ev.congr (fun k => ?_) hl
  unfold laws_toInt64S.f
  rw [if_pos (by omega), if_pos (by simp; omega), Int.toNat_natCast]
theorem eqInt64S_ev (l : List Int) (h : l.length ≤ 4398046511104) : Ev (fun k => laws_eqInt64S.f k l l) true := by
  have hl : Ev (fun k => laws_eqInt64S.l0 k l l 0) true := by
    refine ev_loop0 (fun k (s : Int) => laws_eqInt64S.l0 k l l s) (fun s => ∃ n : Nat, n ≤ l.length ∧ s = n) (fun s => l.length - s.toNat) (fun _ => true) ?_ 0 ⟨0, by omega, rfl⟩
    rintro i ⟨n, hn, rfl⟩
    by_cases hlt : n < l.length
    · refine .inr ⟨((n + 1 : Nat) : Int), ⟨n + 1, by omega, rfl⟩, by simp; omega, rfl, fun k => ?_⟩
      simp only [laws_eqInt64S.l0]
      rw [if_pos (by omega), if_pos (by omega), if_pos (by omega), if_pos trivial, wrap_succ (by omega)]
    · refine .inl fun k => ?_
      simp only [laws_eqInt64S.l0]
      rw [if_neg (by omega)]
  refine Ev.congr (fun k => ?_) hl
  unfold laws_eqInt64S.f
  rw [if_pos rfl]
theorem take_set_up (l : List Int) (a : Int) (n : Nat) (h : n < l.length) : (upFrom a n ++ l.drop n).set n (a + n) = upFrom a (n + 1) ++ l.drop (n + 1) := by
  rw [List.set_append_right _ _ (by rw [upFrom_length]; omega), upFrom_length, Nat.sub_self, List.drop_eq_getElem_cons h, yby, upFrom_snoc, List.append_assoc]
  rfl
theorem markInt64S_ev (l : List Int) (a : Int) (h : l.length ≤ 4398046511104) (h0 : 0 ≤ a) (h1 : a ≤ 4398046511104) : Ev (fun k => laws_markInt64S.f k l a) (a + l.length, upFrom a l.length) := by
  have hl : Ev (fun k => laws_markInt64S.l0 k l a 0) (a + l.length, upFrom a l.length) := by
    refine ev_loop0 (fun k (s : List Int × Int × Int) => laws_markInt64S.l0 k s.1 s.2.1 s.2.2) (fun s => ∃ n : Nat, n ≤ l.length ∧ s.2.2 = n ∧ s.2.1 = a + n ∧ s.1 = upFrom a n ++ l.drop n) (fun s => l.length - s.2.2.toNat) (fun _ => (a + l.length, upFrom a l.length)) ?_ (l, a, 0) ⟨0, by omega, rfl, by simp, by simp [upFrom]⟩
    rintro ⟨x, b, i⟩ ⟨n, hn, rfl, rfl, rfl⟩
    dsimp only
    have hlen : (upFrom a n ++ l.drop n).length = l.length := by simp [upFrom_length]; omega
    by_cases hlt : n < l.length
    · refine .inr ⟨(upFrom a (n + 1) ++ l.drop (n + 1), a + ((n + 1 : Nat) : Int), ((n + 1 : Nat) : Int)), ⟨n + 1, by omega, rfl, rfl, rfl⟩, by simp; omega, rfl, fun k => ?_⟩
      simp only [laws_markInt64S.l0]
      rw [if_pos (by rw [hlen]; omega), if_pos (by omega), wrap_succ (by omega), Int.toNat_natCast, take_set_up l a n hlt, wrap_id (by omega) (by omega)]
      congr 1; omega
    · obtain rfl : n = l.length := by omega
      refine .inl fun k => ?_
      simp only [laws_markInt64S.l0]
      rw [if_neg (by rw [hlen]; omega)]
      simp
  exact hl
end Go.Proofs.Ytdgdnnjigigkcaa.P
namespace Go.Proofs.Ytdgdnnjigigkcaa.Pure
open Go.RowKit Go.Proofs.Ytdgdnnjigigkcaa.P Go.Proofs.Ytdgdnnjigigkcaa.Lib Go.Proofs.YtdgdnnjigigkcaaW.PrintWords
set_option linter.unusedVariables false
theorem FnExactRelabelTriangulation (l : List (List SLawFace)) (x y : List Int) (h : Fits l) (hx : x.length ≤ 9223372036854775807) (hy : y.length ≤ 9223372036854775807) : ∃ k, laws_FnExactRelabelTriangulation.f k l x y = some true := by
  refine Ev.rounds ?_
  by_cases hx1 : (x.length : Int) > 1048576
  · exact ev_pos hx1 (Ev.now true)
  refine ev_neg hx1 ?_
  by_cases hy1 : (y.length : Int) > 1048576
  · exact ev_pos hy1 (Ev.now true)
  refine ev_neg hy1 ?_
  obtain ⟨r, hr, hs⟩ := szTriangulation_ev l h
  refine Ev.bind hr ?_
  by_cases hn : r < 0
  · exact ev_pos hn (Ev.now true)
  have hsm := hs hn
  have hto := toTriangulation_ev l hsm
  have htx := toInt64S_ev x (by omega)
  have hty := toInt64S_ev y (by omega)
  have hS := cvT_small hsm
  have hcnt := cntF_le (cvT l) hS.2
  have hc1 := hS.1
  have hL := relab_small (cvT l) x y
  have hsp := spec_relab_ev (cvT l) x y (by omega) (by omega)
  have him := impl_relab_ev hS x y (by omega)
  generalize relab (cvT l) x y = o at *
  have heq := eqTriangulation_ev o.1 hL
  have hh := heldTriangulation_ev o.1 1 hL (by omega) (by omega)
  have hex := eqInt64S_ev x (by omega)
  have hey := eqInt64S_ev y (by omega)
  refine ev_neg hn ?_
  refine Ev.bind hto ?_
  refine Ev.bind htx ?_
  refine Ev.bind hty ?_
  refine Ev.bind hsp ?_
  refine Ev.bind hto ?_
  refine Ev.bind htx ?_
  refine Ev.bind hty ?_
  refine Ev.bind him ?_
  refine Ev.bind heq (ev_pos rfl (ev_pos rfl ?_))
  refine Ev.bind hto ?_
  refine Ev.bind (eqTriangulation_ev _ hS) (ev_pos rfl ?_)
  refine Ev.bind htx ?_
  refine Ev.bind hex (ev_pos rfl ?_)
  refine Ev.bind hty ?_
  refine Ev.bind hey (ev_pos rfl ?_)
  refine Ev.bind (markTriangulation_ev _ 1 hS (by omega) (by omega)) ?_
  refine Ev.bind (markInt64S_ev x _ (by omega) (by dsimp only; omega) (by dsimp only; omega)) ?_
  refine Ev.bind (markInt64S_ev y _ (by omega) (by dsimp only; omega) (by dsimp only; omega)) ?_
  refine ev_neg (by dsimp only; omega) ?_
  refine Ev.bind heq (ev_pos rfl (ev_pos rfl ?_))
  refine Ev.bind (markTriangulation_ev _ 1 hL (by omega) (by omega)) ?_
  refine Ev.bind hh ?_
  refine ev_neg (by omega) (ev_pos rfl ?_)
  refine Ev.bind hto ?_
  refine Ev.bind htx ?_
  refine Ev.bind hty ?_
  refine Ev.bind him ?_
  refine Ev.bind heq (ev_pos rfl (ev_pos rfl ?_))
  refine Ev.bind hh ?_
  exact ev_neg (by omega) (ev_pos rfl (Ev.now true))
end Go.Proofs.Ytdgdnnjigigkcaa.Pure
namespace Go.Proofs.Ytdgdnnjigigkcaa.Lib
open Go.RowKit Go.Proofs.YtdgdnnjigigkcaaW.PrintWords Go.Joins Go.Deep Go.WideShapes Go.ChangeShapes
set_option linter.unusedVariables false
/-- Whatever reads as data at type t reads as a value of the kind d. -/
def Opens (P : Program) (t : TypeId) {α : Type} (d : Kd α) : Prop := ∀ (H : Type) (enc : TypeId × Value → H) (w : World) (base : Nat) (spare : Nat → Bool) (held : Bool) (fuel : Nat) (cs : List Value) (x : DataW H × List MemPlace),
  DataW.trod enc P w base spare held fuel t cs = some x → ∃ y, d.K w y cs
theorem opens_int {P : Program} {t : TypeId} {k : IntKind} (ht : P.underlying t = some (.int k)) : Opens P t (Kd.int k) := by
  intro H enc w base spare held fuel cs x h
  obtain ⟨n, rfl, _, _⟩ := DataW.trod_int ht h
  exact ⟨n, rfl⟩
theorem pick_list {α : Type} {R : Nat → α → Prop} : ∀ n, (∀ i, i < n → ∃ y, R i y) → ∃ ys : List α, ys.length = n ∧ ∀ j p, ys[j]? = some p → R j p
  | 0, _ => ⟨[], rfl, fun j p h => by simp at h⟩
  | n + 1, h => by
    obtain ⟨ys, hl, hr⟩ := pick_list n (fun i hi => h i (by omega))
    obtain ⟨y, hy⟩ := h n (by omega)
    refine ⟨ys ++ [y], by simp [hl], fun j p hj => ?_⟩
    by_cases hlt : j < n
    · rw [List.getElem?_append_left (by omega)] at hj
      exact hr j p hj
    · have hjn : j < (ys ++ [y]).length := (List.getElem?_eq_some_iff.1 hj).1
      have : j = n := by simp [hl] at hjn; omega
      subst this
      rw [List.getElem?_append_right (by omega), hl, Nat.sub_self] at hj
      injection hj with hj
      rw [← hj]
      exact hy
theorem opens_slice {P : Program} {t e : TypeId} {α : Type} {d : Kd α} (ht : P.underlying t = some (.slice e)) (hc : P.cellsOf e = d.sz) (h : Opens P e d) : Opens P t (Kd.slice e d) := by
  intro H enc w base spare held fuel cs x hx
  rcases open_slice ht hx with ⟨rfl, _⟩ | ⟨a, len, cap, m, n, D, Pl, rfl, hb, hl, hm, hmm, _, hi⟩
  · exact ⟨[], none, 0, rfl, yoy _, Kd.C_nil d w⟩
  · have each : ∀ i, i < len → ∃ y, ∃ cs', w.cells? base (a.add (i * d.sz)) d.sz = some cs' ∧ d.K w y cs' := by
      intro i hil
      have him : i < m := by rw [hmm]; split <;> omega
      obtain ⟨cs', h1, h2⟩ := hi i him
      obtain ⟨y, hy⟩ := h H enc w base spare held n cs' _ h2
      rw [hc] at h1
      exact ⟨y, cs', h1, hy⟩
    obtain ⟨ys, hlen, hys⟩ := pick_list len each
    refine ⟨ys, some a, cap, by rw [hlen], by omega, rfl, ?_, fun _ => ⟨a, rfl, fun j p hj => ?_⟩⟩
    · unfold maxLen at hm; omega
    · obtain ⟨cs', h1, h2⟩ := hys j p hj
      obtain ⟨_, h3, h4⟩ := World.cells?_some h1
      refine ⟨cs', h3, h2, fun i u hu => ?_⟩
      have hil : i < d.sz := by rw [← h3]; exact (List.getElem?_eq_some_iff.1 hu).1
      rw [← hu, ← h4 i hil, Go.Deep.add_add]
theorem opens_struct2 {P : Program} {t : TypeId} {f0 f1 : Field} {α : Type} (hs : P.underlying t = some (.struct #[f0, f1])) (hone : oneCellFields P #[f0, f1] = true) (hC : P.cellsOf t = 2)
    (h0 : P.underlying f0.type = some (.int .i64)) (h1 : P.underlying f1.type = some (.int .i64)) (d : Kd α) (mk : Int → Int → α) (hK : ∀ w a b, d.K w (mk a b) [.int .i64 a, .int .i64 b]) : Opens P t d := by
  intro H enc w base spare held fuel cs x h
  obtain ⟨y0, y1, n, hx, hl, g0, g1⟩ := trod_struct2 hs h
  obtain ⟨o0, k0⟩ := hone_of hone 0 f0 rfl
  obtain ⟨o1, k1⟩ := hone_of hone 1 f1 rfl
  rw [hC] at hl
  match cs, hl with
  | [c0, c1], _ =>
    rw [o0, k0] at g0
    rw [o1, k1] at g1
    obtain ⟨a, e0, _, _⟩ := DataW.trod_int h0 g0
    obtain ⟨b, e1, _, _⟩ := DataW.trod_int h1 g1
    simp at e0 e1
    subst e0 e1
    exact ⟨mk a b, hK w a b⟩
section
variable {H : Type} {enc : TypeId × Value → H} {P : Program} {w : World} {base : Nat} {spare : Nat → Bool} {held : Bool}
theorem array1 {α : Type} {cs : Array α} (h : cs.size = 1) : ∃ c0, cs = #[c0] := by
  obtain ⟨l⟩ := cs
  match l, h with
  | [c0], _ => exact ⟨c0, rfl⟩
/-- A slice that came in. -/
theorem open_row {r : Reach} {b0 : Nat} {t e : TypeId} {α : Type} {d : Kd α} {v : Value} {D : DataW H} {p : List MemPlace} (hu : P.underlying t = some (.slice e)) (ho : Opens P t (Kd.slice e d)) (hv : Value.okWide P w r b0 t v) (h : DataW.Trod enc P w base spare held t v D p) :
    ∃ (A : Option Addr) (c : Nat) (l : List α), v = .slice A l.length c ∧ l.length ≤ c ∧ d.C w A l.length l := by
  obtain ⟨a0, len, cap, rfl⟩ := okWide_slice hu hv
  obtain ⟨fuel, hf⟩ := h
  obtain ⟨l, A, c, e1, hl, hC⟩ := ho H enc w base spare held fuel _ _ hf
  simp [Value.cells] at e1
  obtain ⟨rfl, rfl, rfl⟩ := e1
  exact ⟨_, _, l, rfl, hl, hC⟩
/-- A struct that holds one slice, by value. -/
theorem open_agg1 {r : Reach} {b0 : Nat} {t e : TypeId} {f0 : Field} {α : Type} {d : Kd α} {v : Value} {D : DataW H} {p : List MemPlace} (hs : P.underlying t = some (.struct #[f0])) (hone : oneCellFields P #[f0] = true) (hC : P.cellsOf t = 1)
    (ho : Opens P f0.type (Kd.slice e d)) (hv : Value.okWide P w r b0 t v) (h : DataW.Trod enc P w base spare held t v D p) :
    ∃ (A : Option Addr) (c : Nat) (l : List α), v = .agg #[.slice A l.length c] ∧ l.length ≤ c ∧ d.C w A l.length l := by
  obtain ⟨cs, rfl, hsz⟩ := okWide_struct hs hv
  obtain ⟨c0, rfl⟩ := array1 (hsz.trans hC)
  obtain ⟨fuel, hf⟩ := h
  obtain ⟨y0, n, hx, _, h0⟩ := trod_struct1 hs hf
  obtain ⟨o0, k0⟩ := hone_of hone 0 f0 rfl
  have h0' : DataW.trod enc P w base spare held n f0.type [c0] = some y0 := by simpa [Value.cells, o0, k0] using h0
  obtain ⟨l, A, c, e1, hl, hCC⟩ := ho H enc w base spare held n _ _ h0'
  simp at e1
  subst e1
  exact ⟨A, c, l, rfl, hl, hCC⟩
end
theorem fits_of_C {e : Nat} {α : Type} {d : Kd α} {w : World} {A : Option Addr} {l : List (List α)} (h : (Kd.slice e d).C w A l.length l) : l.length ≤ 9223372036854775807 ∧ ∀ r ∈ l, r.length ≤ 9223372036854775807 := by
  refine ⟨h.2.1, fun r hr => ?_⟩
  obtain ⟨j, hj, rfl⟩ := List.mem_iff_getElem.1 hr
  obtain ⟨ad, _, hc⟩ := h.2.2 (by omega)
  obtain ⟨c, _, hK, _⟩ := hc j _ (List.getElem?_eq_getElem hj)
  obtain ⟨A', c', _, _, hC⟩ := hK
  exact hC.2.1
end Go.Proofs.Ytdgdnnjigigkcaa.Lib
