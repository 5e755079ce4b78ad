/- The statement FnExactIsIsomorphismSaid, proved: part 6 of 8 (texts of this session and of the kit's print, put together and cut to what is used by a program of it). -/
import Derived.Test.YtdgdnnjigigkcaaMFnExactIsIsomorphism5
namespace Go.Proofs.Ytdgdnnjigigkcaa.P
open Go.RowKit Go.Proofs.YtdgdnnjigigkcaaW.PrintWords Go.Proofs.YtdgdnnjigigkcaaW.PrintLast Go.Proofs.YtdgdnnjigigkcaaW.PrintMore
attribute [local go_sem] max2_int min2_int max_two min_two max_three min_three max_four min_four   -- for this text's walks alone
set_option linter.unusedVariables false
set_option linter.unusedSimpArgs false
section
attribute [local go_sem high] eqA74
/-! ### spec_l11Equal: function 94 -/
mutual
def spec_l11Equal.l0 : Nat → Int → List (List (SFace)) → List (List (SFace)) → Option (Bool)
 | 0, _, _, _ => none
 | k + 1, x5, x102000, x103000 => if x5 < (x102000.length : Int) then (spec_l11Equal.l1 k x5 0 x102000 x103000) else (some true)
def spec_l11Equal.l1 : Nat → Int → Int → List (List (SFace)) → List (List (SFace)) → Option (Bool)
 | 0, _, _, _, _ => none
 | k + 1, x5, x6, x102000, x103000 => if x6 < 4 then (if 0 ≤ x5 then (if x5 < (x102000.length : Int) then (if 0 ≤ x6 then (if x6 < ((rd_LFace x102000 x5).length : Int) then (if x5 < (x103000.length : Int) then (if x6 < ((rd_LFace x103000 x5).length : Int) then (if (!(((rd_Face (rd_LFace x102000 x5) x6).f0) == ((rd_Face (rd_LFace x103000 x5) x6).f0)) || (!(((rd_Face (rd_LFace x102000 x5) x6).f1) == ((rd_Face (rd_LFace x103000 x5) x6).f1)))) = true then (some false) else (spec_l11Equal.l1 k x5 (wrap64 (x6 + 1)) x102000 x103000)) else (none)) else (none)) else (none)) else (none)) else (none)) else (none)) else (spec_l11Equal.l0 k (wrap64 (x5 + 1)) x102000 x103000)
end
def spec_l11Equal.f (k : Nat) (l0_0 : List (List (SFace))) (l1_0 : List (List (SFace))) : Option (Bool) := if (l0_0.length : Int) = (l1_0.length : Int) then (spec_l11Equal.l0 k 0 l0_0 l1_0) else (some false)
set_option maxHeartbeats 8000000 in
set_option maxRecDepth 100000 in
theorem spec_l11Equal.calls (k : Nat) (A0_0 : Option Addr) (c0_0 : Nat) (l0_0 : List (List (SFace))) (A1_0 : Option Addr) (c1_0 : Nat) (l1_0 : List (List (SFace))) (r : Bool) (w : World) (hr0_0 : Kd.C (Kd.slice 74 kFace) w A0_0 l0_0.length l0_0) (hc0_0 : l0_0.length ≤ c0_0) (hr1_0 : Kd.C (Kd.slice 74 kFace) w A1_0 l1_0.length l1_0) (hc1_0 : l1_0.length ≤ c1_0) (h : spec_l11Equal.f k l0_0 l1_0 = some r) :
 Calls Try.prog 94 #[.agg #[.slice A0_0 l0_0.length c0_0], .agg #[.slice A1_0 l1_0.length c1_0]] w fun e w' => e = .returned (.bool r) ∧ Below w.heap.size w w' := by
 have hu28 := Try.underlying28
 have hu74 := Try.underlying74
 have HR0_0 := Aside0.mk hr0_0
 have HC0_0 := Aside0.mk hc0_0
 clear hr0_0 hc0_0
 have HR1_0 := Aside0.mk hr1_0
 have HC1_0 := Aside0.mk hc1_0
 clear hr1_0 hc1_0
 have HB := Aside0.mk (ypy w.heap.size w)
 have H : (if (l0_0.length : Int) = (l1_0.length : Int) then (spec_l11Equal.l0 k 0 l0_0 l1_0) else (some false)) = some r := h
 clear h
 by_cases c3 : (l0_0.length : Int) = (l1_0.length : Int)
 rotate_left
 next =>
  rw [if_neg c3] at H
  have c3b0 : ((l0_0.length : Int) == (l1_0.length : Int)) = false := beq_eq_false_iff_ne.mpr c3
  have c3b1 : ((l0_0.length : Int) != (l1_0.length : Int)) = true := bne_iff_ne.mpr c3
  have c3b2 : (l0_0.length == l1_0.length) = false := by first | simpa using c3 | (simp at c3 ⊢; omega)
  obtain rfl := yey H
  go_enter Try.func94, Try.ntmps94
  go_wp2_with (first | ((with_reducible refine gate_dst (N := 2) rfl ?_); refine box_event ?hg (N := 2) ?hd (cs := #[.slice A0_0 l0_0.length c0_0]) (t := 28) ?hr ?_; (case hd => rfl); (case hg => rfl); (case hr => first | (go_simp; done) | (go_simp; rfl)); intro gb101 hg w28 hbox hb; have n0_ := Aside0.mk (below_step (by repeat (first | (with_reducible first | exact HB.out | apply below_alloc | apply pw_below_drewN | apply below_drew1) | exact HB.out)) hb); have n1_ := Aside0.mk (hbox); have n2_ := Aside0.mk ((by rw [hg]; exact (below_size (by repeat (first | (with_reducible first | exact HB.out | apply below_alloc | apply pw_below_drewN | apply below_drew1) | exact HB.out))) : w.heap.size ≤ gb101)); have n3_ := Aside0.mk ((by rw [hg]; exact (below_size (by repeat (first | (with_reducible first | exact HB.out | apply below_alloc | apply pw_below_drewN | apply below_drew1) | exact HB.out))) : w.heap.size ≤ gb101)); clear HB; have HB := n0_; have BK101 := n1_; have GW101 := n2_; have GE101 := n3_; clear n0_ n1_ n2_ n3_; clear hb hbox hg) | ((with_reducible refine gate_dst (N := 3) rfl ?_); refine box_event ?hg (N := 3) ?hd (cs := #[.slice A1_0 l1_0.length c1_0]) (t := 28) ?hr ?_; (case hd => rfl); (case hg => rfl); (case hr => first | (go_simp; done) | (go_simp; rfl)); intro gb102 hg w29 hbox hb; have n0_ := Aside0.mk (blk_below (g := gb101) (o := .cells #[.slice A0_0 l0_0.length c0_0] 28 (0, 0)) (by (with_reducible repeat (first | refine blk_drewN ?_ _ | refine blk_drew ?_ | refine blk_alloc ?_ _)); exact BK101.out) hb); have n1_ := Aside0.mk (below_step (by repeat (first | (with_reducible first | exact HB.out | apply below_alloc | apply pw_below_drewN | apply below_drew1 | refine below_set ?_ GE101.out) | exact HB.out)) hb); have n2_ := Aside0.mk (hbox); have n3_ := Aside0.mk ((by rw [hg]; exact (below_size (by repeat (first | (with_reducible first | exact HB.out | apply below_alloc | apply pw_below_drewN | apply below_drew1 | refine below_set ?_ GE101.out) | exact HB.out))) : w.heap.size ≤ gb102)); have n4_ := Aside0.mk ((by rw [hg]; exact (below_size (by repeat (first | (with_reducible first | exact HB.out | apply below_alloc | apply pw_below_drewN | apply below_drew1 | refine below_set ?_ GE101.out) | exact HB.out))) : w.heap.size ≤ gb102)); have n5_ := Aside0.mk ((by rw [hg]; exact Nat.ne_of_lt (blk_lt (g := gb101) (o := .cells #[.slice A0_0 l0_0.length c0_0] 28 (0, 0)) (by (with_reducible repeat (first | refine blk_drewN ?_ _ | refine blk_drew ?_ | refine blk_alloc ?_ _)); exact BK101.out)) : gb101 ≠ gb102)); have n6_ := Aside0.mk ((by rw [hg]; exact Nat.ne_of_gt (blk_lt (g := gb101) (o := .cells #[.slice A0_0 l0_0.length c0_0] 28 (0, 0)) (by (with_reducible repeat (first | refine blk_drewN ?_ _ | refine blk_drew ?_ | refine blk_alloc ?_ _)); exact BK101.out)) : gb102 ≠ gb101)); clear BK101; clear HB; have BK101 := n0_; have HB := n1_; have BK102 := n2_; have GW102 := n3_; have GE102 := n4_; have NB101_102 := n5_; have NB102_101 := n6_; clear n0_ n1_ n2_ n3_ n4_ n5_ n6_; clear hb hbox hg; have hnb30 := NB101_102.out; have hnc30 := NB102_101.out; have hcz31_0 : w29.cell? ⟨gb101, 0, none⟩ = some (.slice A0_0 l0_0.length c0_0) := (blk_cell BK101.out 0).trans rfl; have hfz31_0 := blk_frozen BK101.out 0; have hcz32_0 : w29.cell? ⟨gb102, 0, none⟩ = some (.slice A1_0 l1_0.length c1_0) := (blk_cell BK102.out 0).trans rfl; have hfz32_0 := blk_frozen BK102.out 0))
  repeat (go_quiet (first | ((with_reducible refine gate_dst (N := 2) rfl ?_); refine box_event ?hg (N := 2) ?hd (cs := #[.slice A0_0 l0_0.length c0_0]) (t := 28) ?hr ?_; (case hd => rfl); (case hg => rfl); (case hr => first | (go_simp; done) | (go_simp; rfl)); intro gb101 hg w28 hbox hb; have n0_ := Aside0.mk (below_step (by repeat (first | (with_reducible first | exact HB.out | apply below_alloc | apply pw_below_drewN | apply below_drew1) | exact HB.out)) hb); have n1_ := Aside0.mk (hbox); have n2_ := Aside0.mk ((by rw [hg]; exact (below_size (by repeat (first | (with_reducible first | exact HB.out | apply below_alloc | apply pw_below_drewN | apply below_drew1) | exact HB.out))) : w.heap.size ≤ gb101)); have n3_ := Aside0.mk ((by rw [hg]; exact (below_size (by repeat (first | (with_reducible first | exact HB.out | apply below_alloc | apply pw_below_drewN | apply below_drew1) | exact HB.out))) : w.heap.size ≤ gb101)); clear HB; have HB := n0_; have BK101 := n1_; have GW101 := n2_; have GE101 := n3_; clear n0_ n1_ n2_ n3_; clear hb hbox hg) | ((with_reducible refine gate_dst (N := 3) rfl ?_); refine box_event ?hg (N := 3) ?hd (cs := #[.slice A1_0 l1_0.length c1_0]) (t := 28) ?hr ?_; (case hd => rfl); (case hg => rfl); (case hr => first | (go_simp; done) | (go_simp; rfl)); intro gb102 hg w29 hbox hb; have n0_ := Aside0.mk (blk_below (g := gb101) (o := .cells #[.slice A0_0 l0_0.length c0_0] 28 (0, 0)) (by (with_reducible repeat (first | refine blk_drewN ?_ _ | refine blk_drew ?_ | refine blk_alloc ?_ _)); exact BK101.out) hb); have n1_ := Aside0.mk (below_step (by repeat (first | (with_reducible first | exact HB.out | apply below_alloc | apply pw_below_drewN | apply below_drew1 | refine below_set ?_ GE101.out) | exact HB.out)) hb); have n2_ := Aside0.mk (hbox); have n3_ := Aside0.mk ((by rw [hg]; exact (below_size (by repeat (first | (with_reducible first | exact HB.out | apply below_alloc | apply pw_below_drewN | apply below_drew1 | refine below_set ?_ GE101.out) | exact HB.out))) : w.heap.size ≤ gb102)); have n4_ := Aside0.mk ((by rw [hg]; exact (below_size (by repeat (first | (with_reducible first | exact HB.out | apply below_alloc | apply pw_below_drewN | apply below_drew1 | refine below_set ?_ GE101.out) | exact HB.out))) : w.heap.size ≤ gb102)); have n5_ := Aside0.mk ((by rw [hg]; exact Nat.ne_of_lt (blk_lt (g := gb101) (o := .cells #[.slice A0_0 l0_0.length c0_0] 28 (0, 0)) (by (with_reducible repeat (first | refine blk_drewN ?_ _ | refine blk_drew ?_ | refine blk_alloc ?_ _)); exact BK101.out)) : gb101 ≠ gb102)); have n6_ := Aside0.mk ((by rw [hg]; exact Nat.ne_of_gt (blk_lt (g := gb101) (o := .cells #[.slice A0_0 l0_0.length c0_0] 28 (0, 0)) (by (with_reducible repeat (first | refine blk_drewN ?_ _ | refine blk_drew ?_ | refine blk_alloc ?_ _)); exact BK101.out)) : gb102 ≠ gb101)); clear BK101; clear HB; have BK101 := n0_; have HB := n1_; have BK102 := n2_; have GW102 := n3_; have GE102 := n4_; have NB101_102 := n5_; have NB102_101 := n6_; clear n0_ n1_ n2_ n3_ n4_ n5_ n6_; clear hb hbox hg; have hnb30 := NB101_102.out; have hnc30 := NB102_101.out; have hcz31_0 : w29.cell? ⟨gb101, 0, none⟩ = some (.slice A0_0 l0_0.length c0_0) := (blk_cell BK101.out 0).trans rfl; have hfz31_0 := blk_frozen BK101.out 0; have hcz32_0 : w29.cell? ⟨gb102, 0, none⟩ = some (.slice A1_0 l1_0.length c1_0) := (blk_cell BK102.out 0).trans rfl; have hfz32_0 := blk_frozen BK102.out 0)); try go_wp2_with (first | ((with_reducible refine gate_dst (N := 2) rfl ?_); refine box_event ?hg (N := 2) ?hd (cs := #[.slice A0_0 l0_0.length c0_0]) (t := 28) ?hr ?_; (case hd => rfl); (case hg => rfl); (case hr => first | (go_simp; done) | (go_simp; rfl)); intro gb101 hg w28 hbox hb; have n0_ := Aside0.mk (below_step (by repeat (first | (with_reducible first | exact HB.out | apply below_alloc | apply pw_below_drewN | apply below_drew1) | exact HB.out)) hb); have n1_ := Aside0.mk (hbox); have n2_ := Aside0.mk ((by rw [hg]; exact (below_size (by repeat (first | (with_reducible first | exact HB.out | apply below_alloc | apply pw_below_drewN | apply below_drew1) | exact HB.out))) : w.heap.size ≤ gb101)); have n3_ := Aside0.mk ((by rw [hg]; exact (below_size (by repeat (first | (with_reducible first | exact HB.out | apply below_alloc | apply pw_below_drewN | apply below_drew1) | exact HB.out))) : w.heap.size ≤ gb101)); clear HB; have HB := n0_; have BK101 := n1_; have GW101 := n2_; have GE101 := n3_; clear n0_ n1_ n2_ n3_; clear hb hbox hg) | ((with_reducible refine gate_dst (N := 3) rfl ?_); refine box_event ?hg (N := 3) ?hd (cs := #[.slice A1_0 l1_0.length c1_0]) (t := 28) ?hr ?_; (case hd => rfl); (case hg => rfl); (case hr => first | (go_simp; done) | (go_simp; rfl)); intro gb102 hg w29 hbox hb; have n0_ := Aside0.mk (blk_below (g := gb101) (o := .cells #[.slice A0_0 l0_0.length c0_0] 28 (0, 0)) (by (with_reducible repeat (first | refine blk_drewN ?_ _ | refine blk_drew ?_ | refine blk_alloc ?_ _)); exact BK101.out) hb); have n1_ := Aside0.mk (below_step (by repeat (first | (with_reducible first | exact HB.out | apply below_alloc | apply pw_below_drewN | apply below_drew1 | refine below_set ?_ GE101.out) | exact HB.out)) hb); have n2_ := Aside0.mk (hbox); have n3_ := Aside0.mk ((by rw [hg]; exact (below_size (by repeat (first | (with_reducible first | exact HB.out | apply below_alloc | apply pw_below_drewN | apply below_drew1 | refine below_set ?_ GE101.out) | exact HB.out))) : w.heap.size ≤ gb102)); have n4_ := Aside0.mk ((by rw [hg]; exact (below_size (by repeat (first | (with_reducible first | exact HB.out | apply below_alloc | apply pw_below_drewN | apply below_drew1 | refine below_set ?_ GE101.out) | exact HB.out))) : w.heap.size ≤ gb102)); have n5_ := Aside0.mk ((by rw [hg]; exact Nat.ne_of_lt (blk_lt (g := gb101) (o := .cells #[.slice A0_0 l0_0.length c0_0] 28 (0, 0)) (by (with_reducible repeat (first | refine blk_drewN ?_ _ | refine blk_drew ?_ | refine blk_alloc ?_ _)); exact BK101.out)) : gb101 ≠ gb102)); have n6_ := Aside0.mk ((by rw [hg]; exact Nat.ne_of_gt (blk_lt (g := gb101) (o := .cells #[.slice A0_0 l0_0.length c0_0] 28 (0, 0)) (by (with_reducible repeat (first | refine blk_drewN ?_ _ | refine blk_drew ?_ | refine blk_alloc ?_ _)); exact BK101.out)) : gb102 ≠ gb101)); clear BK101; clear HB; have BK101 := n0_; have HB := n1_; have BK102 := n2_; have GW102 := n3_; have GE102 := n4_; have NB101_102 := n5_; have NB102_101 := n6_; clear n0_ n1_ n2_ n3_ n4_ n5_ n6_; clear hb hbox hg; have hnb30 := NB101_102.out; have hnc30 := NB102_101.out; have hcz31_0 : w29.cell? ⟨gb101, 0, none⟩ = some (.slice A0_0 l0_0.length c0_0) := (blk_cell BK101.out 0).trans rfl; have hfz31_0 := blk_frozen BK101.out 0; have hcz32_0 : w29.cell? ⟨gb102, 0, none⟩ = some (.slice A1_0 l1_0.length c1_0) := (blk_cell BK102.out 0).trans rfl; have hfz32_0 := blk_frozen BK102.out 0)))
  go_ret
  exact ⟨by first | rfl | (simp [errW_none, errW_some] <;> rfl) | (simp [*, errW_none, errW_some] <;> rfl), by repeat (first | (with_reducible first | exact HB.out | apply below_alloc | apply pw_below_drewN | apply below_drew1 | refine below_set ?_ GE101.out | refine below_set ?_ GE102.out) | exact HB.out)⟩
 rw [if_pos c3] at H
 have c3b0 : ((l0_0.length : Int) == (l1_0.length : Int)) = true := beq_iff_eq.mpr c3
 have c3b1 : ((l0_0.length : Int) != (l1_0.length : Int)) = false := bne_eq_false_iff_eq.mpr c3
 have c3b2 : (l0_0.length == l1_0.length) = true := by first | simpa using c3 | (simp at c3 ⊢; omega)
 clear c3
 have H' := Aside0.mk H
 clear H
 go_enter Try.func94, Try.ntmps94
 go_wp2_with (first | ((with_reducible refine gate_dst (N := 2) rfl ?_); refine box_event ?hg (N := 2) ?hd (cs := #[.slice A0_0 l0_0.length c0_0]) (t := 28) ?hr ?_; (case hd => rfl); (case hg => rfl); (case hr => first | (go_simp; done) | (go_simp; rfl)); intro gb101 hg w4 hbox hb; have n0_ := Aside0.mk (below_step (by repeat (first | (with_reducible first | exact HB.out | apply below_alloc | apply pw_below_drewN | apply below_drew1) | exact HB.out)) hb); have n1_ := Aside0.mk (hbox); have n2_ := Aside0.mk ((by rw [hg]; exact (below_size (by repeat (first | (with_reducible first | exact HB.out | apply below_alloc | apply pw_below_drewN | apply below_drew1) | exact HB.out))) : w.heap.size ≤ gb101)); have n3_ := Aside0.mk ((by rw [hg]; exact (below_size (by repeat (first | (with_reducible first | exact HB.out | apply below_alloc | apply pw_below_drewN | apply below_drew1) | exact HB.out))) : w.heap.size ≤ gb101)); clear HB; have HB := n0_; have BK101 := n1_; have GW101 := n2_; have GE101 := n3_; clear n0_ n1_ n2_ n3_; clear hb hbox hg) | ((with_reducible refine gate_dst (N := 3) rfl ?_); refine box_event ?hg (N := 3) ?hd (cs := #[.slice A1_0 l1_0.length c1_0]) (t := 28) ?hr ?_; (case hd => rfl); (case hg => rfl); (case hr => first | (go_simp; done) | (go_simp; rfl)); intro gb102 hg w5 hbox hb; have n0_ := Aside0.mk (blk_below (g := gb101) (o := .cells #[.slice A0_0 l0_0.length c0_0] 28 (0, 0)) (by (with_reducible repeat (first | refine blk_drewN ?_ _ | refine blk_drew ?_ | refine blk_alloc ?_ _)); exact BK101.out) hb); have n1_ := Aside0.mk (below_step (by repeat (first | (with_reducible first | exact HB.out | apply below_alloc | apply pw_below_drewN | apply below_drew1 | refine below_set ?_ GE101.out) | exact HB.out)) hb); have n2_ := Aside0.mk (hbox); have n3_ := Aside0.mk ((by rw [hg]; exact (below_size (by repeat (first | (with_reducible first | exact HB.out | apply below_alloc | apply pw_below_drewN | apply below_drew1 | refine below_set ?_ GE101.out) | exact HB.out))) : w.heap.size ≤ gb102)); have n4_ := Aside0.mk ((by rw [hg]; exact (below_size (by repeat (first | (with_reducible first | exact HB.out | apply below_alloc | apply pw_below_drewN | apply below_drew1 | refine below_set ?_ GE101.out) | exact HB.out))) : w.heap.size ≤ gb102)); have n5_ := Aside0.mk ((by rw [hg]; exact Nat.ne_of_lt (blk_lt (g := gb101) (o := .cells #[.slice A0_0 l0_0.length c0_0] 28 (0, 0)) (by (with_reducible repeat (first | refine blk_drewN ?_ _ | refine blk_drew ?_ | refine blk_alloc ?_ _)); exact BK101.out)) : gb101 ≠ gb102)); have n6_ := Aside0.mk ((by rw [hg]; exact Nat.ne_of_gt (blk_lt (g := gb101) (o := .cells #[.slice A0_0 l0_0.length c0_0] 28 (0, 0)) (by (with_reducible repeat (first | refine blk_drewN ?_ _ | refine blk_drew ?_ | refine blk_alloc ?_ _)); exact BK101.out)) : gb102 ≠ gb101)); clear BK101; clear HB; have BK101 := n0_; have HB := n1_; have BK102 := n2_; have GW102 := n3_; have GE102 := n4_; have NB101_102 := n5_; have NB102_101 := n6_; clear n0_ n1_ n2_ n3_ n4_ n5_ n6_; clear hb hbox hg; have hnb6 := NB101_102.out; have hnc6 := NB102_101.out; have hcz7_0 : w5.cell? ⟨gb101, 0, none⟩ = some (.slice A0_0 l0_0.length c0_0) := (blk_cell BK101.out 0).trans rfl; have hfz7_0 := blk_frozen BK101.out 0; have hcz8_0 : w5.cell? ⟨gb102, 0, none⟩ = some (.slice A1_0 l1_0.length c1_0) := (blk_cell BK102.out 0).trans rfl; have hfz8_0 := blk_frozen BK102.out 0))
 repeat (go_quiet (first | ((with_reducible refine gate_dst (N := 2) rfl ?_); refine box_event ?hg (N := 2) ?hd (cs := #[.slice A0_0 l0_0.length c0_0]) (t := 28) ?hr ?_; (case hd => rfl); (case hg => rfl); (case hr => first | (go_simp; done) | (go_simp; rfl)); intro gb101 hg w4 hbox hb; have n0_ := Aside0.mk (below_step (by repeat (first | (with_reducible first | exact HB.out | apply below_alloc | apply pw_below_drewN | apply below_drew1) | exact HB.out)) hb); have n1_ := Aside0.mk (hbox); have n2_ := Aside0.mk ((by rw [hg]; exact (below_size (by repeat (first | (with_reducible first | exact HB.out | apply below_alloc | apply pw_below_drewN | apply below_drew1) | exact HB.out))) : w.heap.size ≤ gb101)); have n3_ := Aside0.mk ((by rw [hg]; exact (below_size (by repeat (first | (with_reducible first | exact HB.out | apply below_alloc | apply pw_below_drewN | apply below_drew1) | exact HB.out))) : w.heap.size ≤ gb101)); clear HB; have HB := n0_; have BK101 := n1_; have GW101 := n2_; have GE101 := n3_; clear n0_ n1_ n2_ n3_; clear hb hbox hg) | ((with_reducible refine gate_dst (N := 3) rfl ?_); refine box_event ?hg (N := 3) ?hd (cs := #[.slice A1_0 l1_0.length c1_0]) (t := 28) ?hr ?_; (case hd => rfl); (case hg => rfl); (case hr => first | (go_simp; done) | (go_simp; rfl)); intro gb102 hg w5 hbox hb; have n0_ := Aside0.mk (blk_below (g := gb101) (o := .cells #[.slice A0_0 l0_0.length c0_0] 28 (0, 0)) (by (with_reducible repeat (first | refine blk_drewN ?_ _ | refine blk_drew ?_ | refine blk_alloc ?_ _)); exact BK101.out) hb); have n1_ := Aside0.mk (below_step (by repeat (first | (with_reducible first | exact HB.out | apply below_alloc | apply pw_below_drewN | apply below_drew1 | refine below_set ?_ GE101.out) | exact HB.out)) hb); have n2_ := Aside0.mk (hbox); have n3_ := Aside0.mk ((by rw [hg]; exact (below_size (by repeat (first | (with_reducible first | exact HB.out | apply below_alloc | apply pw_below_drewN | apply below_drew1 | refine below_set ?_ GE101.out) | exact HB.out))) : w.heap.size ≤ gb102)); have n4_ := Aside0.mk ((by rw [hg]; exact (below_size (by repeat (first | (with_reducible first | exact HB.out | apply below_alloc | apply pw_below_drewN | apply below_drew1 | refine below_set ?_ GE101.out) | exact HB.out))) : w.heap.size ≤ gb102)); have n5_ := Aside0.mk ((by rw [hg]; exact Nat.ne_of_lt (blk_lt (g := gb101) (o := .cells #[.slice A0_0 l0_0.length c0_0] 28 (0, 0)) (by (with_reducible repeat (first | refine blk_drewN ?_ _ | refine blk_drew ?_ | refine blk_alloc ?_ _)); exact BK101.out)) : gb101 ≠ gb102)); have n6_ := Aside0.mk ((by rw [hg]; exact Nat.ne_of_gt (blk_lt (g := gb101) (o := .cells #[.slice A0_0 l0_0.length c0_0] 28 (0, 0)) (by (with_reducible repeat (first | refine blk_drewN ?_ _ | refine blk_drew ?_ | refine blk_alloc ?_ _)); exact BK101.out)) : gb102 ≠ gb101)); clear BK101; clear HB; have BK101 := n0_; have HB := n1_; have BK102 := n2_; have GW102 := n3_; have GE102 := n4_; have NB101_102 := n5_; have NB102_101 := n6_; clear n0_ n1_ n2_ n3_ n4_ n5_ n6_; clear hb hbox hg; have hnb6 := NB101_102.out; have hnc6 := NB102_101.out; have hcz7_0 : w5.cell? ⟨gb101, 0, none⟩ = some (.slice A0_0 l0_0.length c0_0) := (blk_cell BK101.out 0).trans rfl; have hfz7_0 := blk_frozen BK101.out 0; have hcz8_0 : w5.cell? ⟨gb102, 0, none⟩ = some (.slice A1_0 l1_0.length c1_0) := (blk_cell BK102.out 0).trans rfl; have hfz8_0 := blk_frozen BK102.out 0)); try go_wp2_with (first | ((with_reducible refine gate_dst (N := 2) rfl ?_); refine box_event ?hg (N := 2) ?hd (cs := #[.slice A0_0 l0_0.length c0_0]) (t := 28) ?hr ?_; (case hd => rfl); (case hg => rfl); (case hr => first | (go_simp; done) | (go_simp; rfl)); intro gb101 hg w4 hbox hb; have n0_ := Aside0.mk (below_step (by repeat (first | (with_reducible first | exact HB.out | apply below_alloc | apply pw_below_drewN | apply below_drew1) | exact HB.out)) hb); have n1_ := Aside0.mk (hbox); have n2_ := Aside0.mk ((by rw [hg]; exact (below_size (by repeat (first | (with_reducible first | exact HB.out | apply below_alloc | apply pw_below_drewN | apply below_drew1) | exact HB.out))) : w.heap.size ≤ gb101)); have n3_ := Aside0.mk ((by rw [hg]; exact (below_size (by repeat (first | (with_reducible first | exact HB.out | apply below_alloc | apply pw_below_drewN | apply below_drew1) | exact HB.out))) : w.heap.size ≤ gb101)); clear HB; have HB := n0_; have BK101 := n1_; have GW101 := n2_; have GE101 := n3_; clear n0_ n1_ n2_ n3_; clear hb hbox hg) | ((with_reducible refine gate_dst (N := 3) rfl ?_); refine box_event ?hg (N := 3) ?hd (cs := #[.slice A1_0 l1_0.length c1_0]) (t := 28) ?hr ?_; (case hd => rfl); (case hg => rfl); (case hr => first | (go_simp; done) | (go_simp; rfl)); intro gb102 hg w5 hbox hb; have n0_ := Aside0.mk (blk_below (g := gb101) (o := .cells #[.slice A0_0 l0_0.length c0_0] 28 (0, 0)) (by (with_reducible repeat (first | refine blk_drewN ?_ _ | refine blk_drew ?_ | refine blk_alloc ?_ _)); exact BK101.out) hb); have n1_ := Aside0.mk (below_step (by repeat (first | (with_reducible first | exact HB.out | apply below_alloc | apply pw_below_drewN | apply below_drew1 | refine below_set ?_ GE101.out) | exact HB.out)) hb); have n2_ := Aside0.mk (hbox); have n3_ := Aside0.mk ((by rw [hg]; exact (below_size (by repeat (first | (with_reducible first | exact HB.out | apply below_alloc | apply pw_below_drewN | apply below_drew1 | refine below_set ?_ GE101.out) | exact HB.out))) : w.heap.size ≤ gb102)); have n4_ := Aside0.mk ((by rw [hg]; exact (below_size (by repeat (first | (with_reducible first | exact HB.out | apply below_alloc | apply pw_below_drewN | apply below_drew1 | refine below_set ?_ GE101.out) | exact HB.out))) : w.heap.size ≤ gb102)); have n5_ := Aside0.mk ((by rw [hg]; exact Nat.ne_of_lt (blk_lt (g := gb101) (o := .cells #[.slice A0_0 l0_0.length c0_0] 28 (0, 0)) (by (with_reducible repeat (first | refine blk_drewN ?_ _ | refine blk_drew ?_ | refine blk_alloc ?_ _)); exact BK101.out)) : gb101 ≠ gb102)); have n6_ := Aside0.mk ((by rw [hg]; exact Nat.ne_of_gt (blk_lt (g := gb101) (o := .cells #[.slice A0_0 l0_0.length c0_0] 28 (0, 0)) (by (with_reducible repeat (first | refine blk_drewN ?_ _ | refine blk_drew ?_ | refine blk_alloc ?_ _)); exact BK101.out)) : gb102 ≠ gb101)); clear BK101; clear HB; have BK101 := n0_; have HB := n1_; have BK102 := n2_; have GW102 := n3_; have GE102 := n4_; have NB101_102 := n5_; have NB102_101 := n6_; clear n0_ n1_ n2_ n3_ n4_ n5_ n6_; clear hb hbox hg; have hnb6 := NB101_102.out; have hnc6 := NB102_101.out; have hcz7_0 : w5.cell? ⟨gb101, 0, none⟩ = some (.slice A0_0 l0_0.length c0_0) := (blk_cell BK101.out 0).trans rfl; have hfz7_0 := blk_frozen BK101.out 0; have hcz8_0 : w5.cell? ⟨gb102, 0, none⟩ = some (.slice A1_0 l1_0.length c1_0) := (blk_cell BK102.out 0).trans rfl; have hfz8_0 := blk_frozen BK102.out 0)))
 go_loopg [5] k (fun kq v5 w' => ∃ (x5_1 : Int), v5 = .int .i64 x5_1 ∧ Aside0 (spec_l11Equal.l0 kq x5_1 l0_0 l1_0 = some r) ∧ Aside0 (kq ≤ k) ∧ Aside0 (w'.heap[gb101]? = some (.cells #[(.slice A0_0 l0_0.length c0_0)] 28 (0, 0))) ∧ Aside0 (w'.heap[gb102]? = some (.cells #[(.slice A1_0 l1_0.length c1_0)] 28 (0, 0))) ∧ Aside0 (Below w.heap.size w w'))
 case atStart => exact ⟨(0), (by first | rfl | (simp; done) | (simp [*]; done)), H', ⟨yoy _⟩, ⟨by (with_reducible repeat (first | refine blk_drewN ?_ _ | refine blk_drew ?_ | refine blk_alloc ?_ _)); exact BK101.out⟩, ⟨by (with_reducible repeat (first | refine blk_drewN ?_ _ | refine blk_drew ?_ | refine blk_alloc ?_ _)); exact BK102.out⟩, ⟨by repeat (first | (with_reducible first | exact HB.out | apply below_alloc | apply pw_below_drewN | apply below_drew1 | refine below_set ?_ GE101.out | refine below_set ?_ GE102.out) | exact HB.out)⟩⟩
 case round =>
  clear H'
  try clear c1
  try clear p2
  try clear c3
  try clear c3b0
  try clear c3b1
  try clear c3b2
  try clear c6
  try clear hcz7_0
  try clear hcz8_0
  try clear hfz7_0
  try clear hfz8_0
  obtain ⟨x5_1, rfl, HA, HK1, BK101, BK102, HB⟩ := hrel
  cases gk with
  | zero => exact absurd HA.out (by simp [spec_l11Equal.l0])
  | succ k1 =>
   have H := HA.out
   clear HA
   simp only [spec_l11Equal.l0] at H
   by_cases c9 : x5_1 < (l0_0.length : Int)
   rotate_left
   next =>
    rw [if_neg c9] at H
    have c9b0 : decide (x5_1 < (l0_0.length : Int)) = false := yhy c9
    clear c9
    obtain rfl := yey H
    have hnb26 := NB101_102.out
    have hnc26 := NB102_101.out
    have hcz27_0 : wr.cell? ⟨gb101, 0, none⟩ = some (.slice A0_0 l0_0.length c0_0) := (blk_cell BK101.out 0).trans rfl
    have hfz27_0 := blk_frozen BK101.out 0
    go_wp2
    repeat (go_quiet (fail); try go_wp2)
    go_ret
    exact ⟨by first | rfl | (simp [errW_none, errW_some] <;> rfl) | (simp [*, errW_none, errW_some] <;> rfl), by repeat (first | (with_reducible first | exact HB.out | apply below_alloc | apply pw_below_drewN | apply below_drew1 | refine below_set ?_ GE101.out | refine below_set ?_ GE102.out) | exact HB.out)⟩
   rw [if_pos c9] at H
   have c9b0 : decide (x5_1 < (l0_0.length : Int)) = true := ygy c9
   clear c9
   have H' := Aside0.mk H
   clear H
   have hnb10 := NB101_102.out
   have hnc10 := NB102_101.out
   have hcz11_0 : wr.cell? ⟨gb101, 0, none⟩ = some (.slice A0_0 l0_0.length c0_0) := (blk_cell BK101.out 0).trans rfl
   have hfz11_0 := blk_frozen BK101.out 0
   go_wp2
   repeat (go_quiet (fail); try go_wp2)
   go_loopg [6] k1 (fun kq v6 w' => ∃ (x6_2 : Int), v6 = .int .i64 x6_2 ∧ Aside0 (spec_l11Equal.l1 kq x5_1 x6_2 l0_0 l1_0 = some r) ∧ Aside0 (kq ≤ k1) ∧ Aside0 (w'.heap[gb101]? = some (.cells #[(.slice A0_0 l0_0.length c0_0)] 28 (0, 0))) ∧ Aside0 (w'.heap[gb102]? = some (.cells #[(.slice A1_0 l1_0.length c1_0)] 28 (0, 0))) ∧ Aside0 (Below w.heap.size w w'))
   case atStart => exact ⟨(0), (by first | rfl | (simp; done) | (simp [*]; done)), H', ⟨yoy _⟩, ⟨by (with_reducible repeat (first | refine blk_drewN ?_ _ | refine blk_drew ?_ | refine blk_alloc ?_ _)); exact BK101.out⟩, ⟨by (with_reducible repeat (first | refine blk_drewN ?_ _ | refine blk_drew ?_ | refine blk_alloc ?_ _)); exact BK102.out⟩, ⟨by repeat (first | (with_reducible first | exact HB.out | apply below_alloc | apply pw_below_drewN | apply below_drew1 | refine below_set ?_ GE101.out | refine below_set ?_ GE102.out) | exact HB.out)⟩⟩
   case round =>
    clear H'
    try clear c1
    try clear p2
    try clear c3
    try clear c3b0
    try clear c3b1
    try clear c3b2
    try clear c6
    try clear c9
    try clear c9b0
    try clear c10
    try clear hcz11_0
    try clear hcz7_0
    try clear hcz8_0
    try clear hfz11_0
    try clear hfz7_0
    try clear hfz8_0
    try clear p2
    obtain ⟨x6_2, rfl, HA, HK2, BK101, BK102, HB⟩ := hrel
    cases gk with
    | zero => exact absurd HA.out (by simp [spec_l11Equal.l1])
    | succ k2 =>
     have H := HA.out
     clear HA
     simp only [spec_l11Equal.l1] at H
     by_cases c12 : x6_2 < 4
     rotate_left
     next =>
      rw [if_neg c12] at H
      have c12b0 : decide (x6_2 < 4) = false := yhy c12
      clear c12
      have H' := Aside0.mk H
      clear H
      go_wp2
      repeat (go_quiet (fail); try go_wp2)
      go_roundg k2
      case measure => have := HK1.out; have := HK2.out; omega
      case rel => exact ⟨(wrap64 (x5_1 + 1)), (by first | rfl | (simp; done) | (simp [*]; done)), H', ⟨by have := HK1.out; have := HK2.out; omega⟩, ⟨by (with_reducible repeat (first | refine blk_drewN ?_ _ | refine blk_drew ?_ | refine blk_alloc ?_ _)); exact BK101.out⟩, ⟨by (with_reducible repeat (first | refine blk_drewN ?_ _ | refine blk_drew ?_ | refine blk_alloc ?_ _)); exact BK102.out⟩, ⟨by repeat (first | (with_reducible first | exact HB.out | apply below_alloc | apply pw_below_drewN | apply below_drew1 | refine below_set ?_ GE101.out | refine below_set ?_ GE102.out) | exact HB.out)⟩⟩
     rw [if_pos c12] at H
     have c12b0 : decide (x6_2 < 4) = true := ygy c12
     clear c12
     by_cases c13 : 0 ≤ x5_1
     rotate_left
     next =>
      rw [if_neg c13] at H
      exact absurd H (by simp)
     rw [if_pos c13] at H
     have c13b0 : decide (0 ≤ x5_1) = true := ygy c13
     clear c13
     by_cases c14 : x5_1 < (l0_0.length : Int)
     rotate_left
     next =>
      rw [if_neg c14] at H
      exact absurd H (by simp)
     rw [if_pos c14] at H
     have c14b0 : decide (x5_1 < (l0_0.length : Int)) = true := ygy c14
     clear c14
     by_cases c15 : 0 ≤ x6_2
     rotate_left
     next =>
      rw [if_neg c15] at H
      exact absurd H (by simp)
     rw [if_pos c15] at H
     have c15b0 : decide (0 ≤ x6_2) = true := ygy c15
     clear c15
     by_cases c16 : x6_2 < ((rd_LFace l0_0 x5_1).length : Int)
     rotate_left
     next =>
      rw [if_neg c16] at H
      exact absurd H (by simp)
     rw [if_pos c16] at H
     have c16b0 : decide (x6_2 < ((rd_LFace l0_0 x5_1).length : Int)) = true := ygy c16
     clear c16
     by_cases c17 : x5_1 < (l1_0.length : Int)
     rotate_left
     next =>
      rw [if_neg c17] at H
      exact absurd H (by simp)
     rw [if_pos c17] at H
     have c17b0 : decide (x5_1 < (l1_0.length : Int)) = true := ygy c17
     clear c17
     by_cases c18 : x6_2 < ((rd_LFace l1_0 x5_1).length : Int)
     rotate_left
     next =>
      rw [if_neg c18] at H
      exact absurd H (by simp)
     rw [if_pos c18] at H
     have c18b0 : decide (x6_2 < ((rd_LFace l1_0 x5_1).length : Int)) = true := ygy c18
     clear c18
     by_cases c19 : (!(((rd_Face (rd_LFace l0_0 x5_1) x6_2).f0) == ((rd_Face (rd_LFace l1_0 x5_1) x6_2).f0)) || (!(((rd_Face (rd_LFace l0_0 x5_1) x6_2).f1) == ((rd_Face (rd_LFace l1_0 x5_1) x6_2).f1)))) = true
     next =>
      rw [if_pos c19] at H
      have c19b0 : (!(((rd_Face (rd_LFace l0_0 x5_1) x6_2).f0) == ((rd_Face (rd_LFace l1_0 x5_1) x6_2).f0)) || (!(((rd_Face (rd_LFace l0_0 x5_1) x6_2).f1) == ((rd_Face (rd_LFace l1_0 x5_1) x6_2).f1)))) = true := c19
      clear c19
      obtain rfl := yey H
      have hnb20 := NB101_102.out
      have hnc20 := NB102_101.out
      have hcz21_0 : wr.cell? ⟨gb101, 0, none⟩ = some (.slice A0_0 l0_0.length c0_0) := (blk_cell BK101.out 0).trans rfl
      have hfz21_0 := blk_frozen BK101.out 0
      have p103 : 0 ≤ (x5_1 : Int) := of_decide_eq_true (by first | (with_reducible assumption) | assumption)
      have q103 : x5_1 < (l0_0.length : Int) := of_decide_eq_true (by first | (with_reducible assumption) | assumption)
      obtain ⟨ad103, A103_0, c103_0, e103, hx103_0, hl103_0, hi103_0⟩ := at_LFace HR0_0.out x5_1 p103 q103
      cases e103
      replace hx103_0 := (HB.out.cell (yny w _ hx103_0)).trans hx103_0
      have HR103_0 := Aside0.mk hi103_0
      have HC103_0 := Aside0.mk hl103_0
      clear hi103_0 hl103_0
      replace p103 := eq_true p103
      replace q103 := eq_true q103
      have p104 : 0 ≤ (x6_2 : Int) := of_decide_eq_true (by first | (with_reducible assumption) | assumption)
      have q104 : x6_2 < ((rd_LFace l0_0 x5_1).length : Int) := of_decide_eq_true (by first | (with_reducible assumption) | assumption)
      obtain ⟨ad104, e104, hx104_0, hx104_1⟩ := at_Face HR103_0.out x6_2 p104 q104
      cases e104
      replace hx104_0 := (HB.out.cell (yny w _ hx104_0)).trans hx104_0
      replace hx104_1 := (HB.out.cell (yny w _ hx104_1)).trans hx104_1
      replace p104 := eq_true p104
      replace q104 := eq_true q104
      have hcz22_0 : wr.cell? ⟨gb102, 0, none⟩ = some (.slice A1_0 l1_0.length c1_0) := (blk_cell BK102.out 0).trans rfl
      have hfz22_0 := blk_frozen BK102.out 0
      have p105 : 0 ≤ (x5_1 : Int) := of_decide_eq_true (by first | (with_reducible assumption) | assumption)
      have q105 : x5_1 < (l1_0.length : Int) := of_decide_eq_true (by first | (with_reducible assumption) | assumption)
      obtain ⟨ad105, A105_0, c105_0, e105, hx105_0, hl105_0, hi105_0⟩ := at_LFace HR1_0.out x5_1 p105 q105
      cases e105
      replace hx105_0 := (HB.out.cell (yny w _ hx105_0)).trans hx105_0
      have HR105_0 := Aside0.mk hi105_0
      have HC105_0 := Aside0.mk hl105_0
      clear hi105_0 hl105_0
      replace p105 := eq_true p105
      replace q105 := eq_true q105
      have p106 : 0 ≤ (x6_2 : Int) := of_decide_eq_true (by first | (with_reducible assumption) | assumption)
      have q106 : x6_2 < ((rd_LFace l1_0 x5_1).length : Int) := of_decide_eq_true (by first | (with_reducible assumption) | assumption)
      obtain ⟨ad106, e106, hx106_0, hx106_1⟩ := at_Face HR105_0.out x6_2 p106 q106
      cases e106
      replace hx106_0 := (HB.out.cell (yny w _ hx106_0)).trans hx106_0
      replace hx106_1 := (HB.out.cell (yny w _ hx106_1)).trans hx106_1
      replace p106 := eq_true p106
      replace q106 := eq_true q106
      go_wp2
      repeat (go_quiet (fail); try go_wp2)
      go_ret
      exact ⟨by first | rfl | (simp [errW_none, errW_some] <;> rfl) | (simp [*, errW_none, errW_some] <;> rfl), by repeat (first | (with_reducible first | exact HB.out | apply below_alloc | apply pw_below_drewN | apply below_drew1 | refine below_set ?_ GE101.out | refine below_set ?_ GE102.out) | exact HB.out)⟩
     next =>
      rw [if_neg c19] at H
      have c19b0 : (!(((rd_Face (rd_LFace l0_0 x5_1) x6_2).f0) == ((rd_Face (rd_LFace l1_0 x5_1) x6_2).f0)) || (!(((rd_Face (rd_LFace l0_0 x5_1) x6_2).f1) == ((rd_Face (rd_LFace l1_0 x5_1) x6_2).f1)))) = false := by simpa using c19
      clear c19
      have H' := Aside0.mk H
      clear H
      have hnb23 := NB101_102.out
      have hnc23 := NB102_101.out
      have hcz24_0 : wr.cell? ⟨gb101, 0, none⟩ = some (.slice A0_0 l0_0.length c0_0) := (blk_cell BK101.out 0).trans rfl
      have hfz24_0 := blk_frozen BK101.out 0
      have p103 : 0 ≤ (x5_1 : Int) := of_decide_eq_true (by first | (with_reducible assumption) | assumption)
      have q103 : x5_1 < (l0_0.length : Int) := of_decide_eq_true (by first | (with_reducible assumption) | assumption)
      obtain ⟨ad103, A103_0, c103_0, e103, hx103_0, hl103_0, hi103_0⟩ := at_LFace HR0_0.out x5_1 p103 q103
      cases e103
      replace hx103_0 := (HB.out.cell (yny w _ hx103_0)).trans hx103_0
      have HR103_0 := Aside0.mk hi103_0
      have HC103_0 := Aside0.mk hl103_0
      clear hi103_0 hl103_0
      replace p103 := eq_true p103
      replace q103 := eq_true q103
      have p104 : 0 ≤ (x6_2 : Int) := of_decide_eq_true (by first | (with_reducible assumption) | assumption)
      have q104 : x6_2 < ((rd_LFace l0_0 x5_1).length : Int) := of_decide_eq_true (by first | (with_reducible assumption) | assumption)
      obtain ⟨ad104, e104, hx104_0, hx104_1⟩ := at_Face HR103_0.out x6_2 p104 q104
      cases e104
      replace hx104_0 := (HB.out.cell (yny w _ hx104_0)).trans hx104_0
      replace hx104_1 := (HB.out.cell (yny w _ hx104_1)).trans hx104_1
      replace p104 := eq_true p104
      replace q104 := eq_true q104
      have hcz25_0 : wr.cell? ⟨gb102, 0, none⟩ = some (.slice A1_0 l1_0.length c1_0) := (blk_cell BK102.out 0).trans rfl
      have hfz25_0 := blk_frozen BK102.out 0
      have p105 : 0 ≤ (x5_1 : Int) := of_decide_eq_true (by first | (with_reducible assumption) | assumption)
      have q105 : x5_1 < (l1_0.length : Int) := of_decide_eq_true (by first | (with_reducible assumption) | assumption)
      obtain ⟨ad105, A105_0, c105_0, e105, hx105_0, hl105_0, hi105_0⟩ := at_LFace HR1_0.out x5_1 p105 q105
      cases e105
      replace hx105_0 := (HB.out.cell (yny w _ hx105_0)).trans hx105_0
      have HR105_0 := Aside0.mk hi105_0
      have HC105_0 := Aside0.mk hl105_0
      clear hi105_0 hl105_0
      replace p105 := eq_true p105
      replace q105 := eq_true q105
      have p106 : 0 ≤ (x6_2 : Int) := of_decide_eq_true (by first | (with_reducible assumption) | assumption)
      have q106 : x6_2 < ((rd_LFace l1_0 x5_1).length : Int) := of_decide_eq_true (by first | (with_reducible assumption) | assumption)
      obtain ⟨ad106, e106, hx106_0, hx106_1⟩ := at_Face HR105_0.out x6_2 p106 q106
      cases e106
      replace hx106_0 := (HB.out.cell (yny w _ hx106_0)).trans hx106_0
      replace hx106_1 := (HB.out.cell (yny w _ hx106_1)).trans hx106_1
      replace p106 := eq_true p106
      replace q106 := eq_true q106
      go_wp2
      repeat (go_quiet (fail); try go_wp2)
      go_roundg k2
      case measure => have := HK1.out; have := HK2.out; omega
      case rel => exact ⟨(wrap64 (x6_2 + 1)), (by first | rfl | (simp; done) | (simp [*]; done)), H', ⟨by have := HK1.out; have := HK2.out; omega⟩, ⟨by (with_reducible repeat (first | refine blk_drewN ?_ _ | refine blk_drew ?_ | refine blk_alloc ?_ _)); exact BK101.out⟩, ⟨by (with_reducible repeat (first | refine blk_drewN ?_ _ | refine blk_drew ?_ | refine blk_alloc ?_ _)); exact BK102.out⟩, ⟨by repeat (first | (with_reducible first | exact HB.out | apply below_alloc | apply pw_below_drewN | apply below_drew1 | refine below_set ?_ GE101.out | refine below_set ?_ GE102.out) | exact HB.out)⟩⟩
end
/-! ### spec_IsIsomorphism: function 39 -/
def spec_IsIsomorphism.f (k : Nat) (l0_0 : List (List (SFace))) (l1_0 : List (List (SFace))) (l2 : List Int) (l3 : List Int) : Option (Bool) := (spec_IsTriangulation.f k l0_0).bind fun t103 => (if t103 = true then ((spec_IsTriangulation.f k l1_0).bind fun t104 => (if t104 = true then ((spec_l07Labels.f k l0_0 l2 l3).bind fun t105 => (if t105 = true then ((spec_l07Relabel.f k l0_0 l2 l3).bind fun t106 => ((spec_l11Equal.f k t106 l1_0).bind fun t109 => (some t109))) else (some false))) else (some false))) else (some false))
def spec_IsIsomorphism.T1 : Bool × List (List Nat × List Nat) := (true, [([], []), ([0], [0]), ([1, 1], [1]), ([2], [2]), ([3, 2, 2], [2, 3]), ([2, 4], [2, 4]), ([5, 4], [5]), ([6], [6]), ([6], [6]), ([6], [6]), ([7, 8, 9, 6, 6], [6, 7, 8, 9]), ([6, 10], [6, 10]), ([11, 10], [11]), ([12], [12]), ([12], [12]), ([12], [12]), ([13, 14, 15, 12, 12], [12, 13, 14, 15]), ([12], [12]), ([16, 17, 16, 12], [12, 16, 17]), ([12, 18], [12, 18]), ([19, 18, 0, 1, 2, 3, 4, 5, 6, 7, 8, 9, 10, 11, 12, 13, 14, 15, 16, 17, 18, 19], [19])])
def spec_IsIsomorphism.B1 : List Nat := [0, 1, 3, 7, 15, 31, 63, 127, 127, 127, 1023, 2047, 4095, 8191, 8191, 8191, 65535, 8191, 262143, 524287, 1048575]
theorem spec_IsIsomorphism.tab1 : rtab .any (opsOf Try.f39 1) = spec_IsIsomorphism.T1 := by kernel_rfl
theorem spec_IsIsomorphism.bits1 : waitsOk spec_IsIsomorphism.T1.2 spec_IsIsomorphism.B1 = true := by kernel_rfl
set_option maxHeartbeats 8000000 in
set_option maxRecDepth 100000 in
theorem spec_IsIsomorphism.calls (k : Nat) (A0_0 : Option Addr) (c0_0 : Nat) (l0_0 : List (List (SFace))) (A1_0 : Option Addr) (c1_0 : Nat) (l1_0 : List (List (SFace))) (A2 : Option Addr) (c2 : Nat) (l2 : List Int) (A3 : Option Addr) (c3 : Nat) (l3 : List Int) (r : Bool) (w : World) (hr0_0 : Kd.C (Kd.slice 74 kFace) w A0_0 l0_0.length l0_0) (hc0_0 : l0_0.length ≤ c0_0) (hr1_0 : Kd.C (Kd.slice 74 kFace) w A1_0 l1_0.length l1_0) (hc1_0 : l1_0.length ≤ c1_0) (hr2 : Kd.C (Kd.int .i64) w A2 l2.length l2) (hc2 : l2.length ≤ c2) (hr3 : Kd.C (Kd.int .i64) w A3 l3.length l3) (hc3 : l3.length ≤ c3) (h : spec_IsIsomorphism.f k l0_0 l1_0 l2 l3 = some r) :
 Calls Try.prog 39 #[.agg #[.slice A0_0 l0_0.length c0_0], .agg #[.slice A1_0 l1_0.length c1_0], .slice A2 l2.length c2, .slice A3 l3.length c3] w fun e w' => e = .returned (.bool r) ∧ Below w.heap.size w w' := by
 have hu28 := Try.underlying28
 have HR0_0 := Aside0.mk hr0_0
 have HC0_0 := Aside0.mk hc0_0
 clear hr0_0 hc0_0
 have HR1_0 := Aside0.mk hr1_0
 have HC1_0 := Aside0.mk hc1_0
 clear hr1_0 hc1_0
 have HR2 := Aside0.mk hr2
 have HC2 := Aside0.mk hc2
 clear hr2 hc2
 have HR3 := Aside0.mk hr3
 have HC3 := Aside0.mk hc3
 clear hr3 hc3
 have HB := Aside0.mk (ypy w.heap.size w)
 have H : ((spec_IsTriangulation.f k l0_0).bind fun t103 => (if t103 = true then ((spec_IsTriangulation.f k l1_0).bind fun t104 => (if t104 = true then ((spec_l07Labels.f k l0_0 l2 l3).bind fun t105 => (if t105 = true then ((spec_l07Relabel.f k l0_0 l2 l3).bind fun t106 => ((spec_l11Equal.f k t106 l1_0).bind fun t109 => (some t109))) else (some false))) else (some false))) else (some false))) = some r := h
 clear h
 replace H := ydy.mp H
 obtain ⟨t103, A50, H⟩ := H
 replace H : (if t103 = true then ((spec_IsTriangulation.f k l1_0).bind fun t104 => (if t104 = true then ((spec_l07Labels.f k l0_0 l2 l3).bind fun t105 => (if t105 = true then ((spec_l07Relabel.f k l0_0 l2 l3).bind fun t106 => ((spec_l11Equal.f k t106 l1_0).bind fun t109 => (some t109))) else (some false))) else (some false))) else (some false)) = some r := H
 have A5 := Aside0.mk A50
 clear A50
 by_cases c6 : t103 = true
 rotate_left
 next =>
  replace c6 := Bool.eq_false_iff.mpr c6
  subst c6
  have H1 : (some false) = some r := by rw [if_neg (show ¬ (false = true) by decide)] at H; exact H
  clear H
  have H := H1
  clear H1
  obtain rfl := yey H
  go_enter Try.func39, Try.ntmps39
  try go_wp2_with (first | ((with_reducible refine gate_dst (N := 4) rfl ?_); refine box_event ?hg (N := 4) ?hd (cs := #[.slice A0_0 l0_0.length c0_0]) (t := 28) ?hr ?_; (case hd => rfl); (case hg => rfl); (case hr => first | (go_simp; done) | (go_simp; rfl)); intro gb101 hg w33 hbox hb; have n0_ := Aside0.mk (below_step (by repeat (first | (with_reducible first | exact HB.out | apply below_alloc | apply pw_below_drewN | apply below_drew1) | exact HB.out)) hb); have n1_ := Aside0.mk (hbox); have n2_ := Aside0.mk ((by rw [hg]; exact (below_size (by repeat (first | (with_reducible first | exact HB.out | apply below_alloc | apply pw_below_drewN | apply below_drew1) | exact HB.out))) : w.heap.size ≤ gb101)); have n3_ := Aside0.mk ((by rw [hg]; exact (below_size (by repeat (first | (with_reducible first | exact HB.out | apply below_alloc | apply pw_below_drewN | apply below_drew1) | exact HB.out))) : w.heap.size ≤ gb101)); clear HB; have HB := n0_; have BK101 := n1_; have GW101 := n2_; have GE101 := n3_; clear n0_ n1_ n2_ n3_; clear hb hbox hg) | ((with_reducible refine gate_dst (N := 5) rfl ?_); refine box_event ?hg (N := 5) ?hd (cs := #[.slice A1_0 l1_0.length c1_0]) (t := 28) ?hr ?_; (case hd => rfl); (case hg => rfl); (case hr => first | (go_simp; done) | (go_simp; rfl)); intro gb102 hg w34 hbox hb; have n0_ := Aside0.mk (blk_below (g := gb101) (o := .cells #[.slice A0_0 l0_0.length c0_0] 28 (0, 0)) (by (with_reducible repeat (first | refine blk_drewN ?_ _ | refine blk_drew ?_ | refine blk_alloc ?_ _)); exact BK101.out) hb); have n1_ := Aside0.mk (below_step (by repeat (first | (with_reducible first | exact HB.out | apply below_alloc | apply pw_below_drewN | apply below_drew1 | refine below_set ?_ GE101.out) | exact HB.out)) hb); have n2_ := Aside0.mk (hbox); have n3_ := Aside0.mk ((by rw [hg]; exact (below_size (by repeat (first | (with_reducible first | exact HB.out | apply below_alloc | apply pw_below_drewN | apply below_drew1 | refine below_set ?_ GE101.out) | exact HB.out))) : w.heap.size ≤ gb102)); have n4_ := Aside0.mk ((by rw [hg]; exact (below_size (by repeat (first | (with_reducible first | exact HB.out | apply below_alloc | apply pw_below_drewN | apply below_drew1 | refine below_set ?_ GE101.out) | exact HB.out))) : w.heap.size ≤ gb102)); have n5_ := Aside0.mk ((by rw [hg]; exact Nat.ne_of_lt (blk_lt (g := gb101) (o := .cells #[.slice A0_0 l0_0.length c0_0] 28 (0, 0)) (by (with_reducible repeat (first | refine blk_drewN ?_ _ | refine blk_drew ?_ | refine blk_alloc ?_ _)); exact BK101.out)) : gb101 ≠ gb102)); have n6_ := Aside0.mk ((by rw [hg]; exact Nat.ne_of_gt (blk_lt (g := gb101) (o := .cells #[.slice A0_0 l0_0.length c0_0] 28 (0, 0)) (by (with_reducible repeat (first | refine blk_drewN ?_ _ | refine blk_drew ?_ | refine blk_alloc ?_ _)); exact BK101.out)) : gb102 ≠ gb101)); clear BK101; clear HB; have BK101 := n0_; have HB := n1_; have BK102 := n2_; have GW102 := n3_; have GE102 := n4_; have NB101_102 := n5_; have NB102_101 := n6_; clear n0_ n1_ n2_ n3_ n4_ n5_ n6_; clear hb hbox hg))
  have n0_ := Aside0.mk (blk_drew BK101.out)
  have n1_ := Aside0.mk (blk_drew BK102.out)
  have n2_ := Aside0.mk (below_drew1 HB.out)
  clear BK101
  clear BK102
  clear HB
  have BK101 := n0_
  have BK102 := n1_
  have HB := n2_
  clear n0_ n1_ n2_
  refine start_ (n := 21) (S := fun w' => w'.cell? ⟨gb101, 0, none⟩ = some (.slice A0_0 l0_0.length c0_0)) (ds := []) #[false, false, false, false, false, false, false, false, false, false, false, false, false, false, false, false, false, false, false, false, false] (by kernel_rfl) rfl rfl ((blk_cell BK101.out 0).trans rfl) (fun hHeld => ?_); refine with_tabW spec_IsIsomorphism.tab1 spec_IsIsomorphism.bits1 (fun HT_ HW_ => ?_)
  generalize w34.drew = w35 at BK101 BK102 HB hHeld ⊢
  refine take_ (i := 0) (N := some 9) (v := ?_) (a' := ?_) #[true, false, false, false, false, false, false, false, false, false, false, false, false, false, false, false, false, false, false, false, false] rfl rfl (take_ofW HT_.out HW_.out (by kernel_rfl)) (fun _ _ _ h => h) (Or.inl ⟨by rfl, ?_⟩) hHeld ?_ ?_
  rotate_left
  next =>
   intro w' s0
   go_simp
   with_reducible rfl
  rotate_left
  next =>
   simp only [Act.put, yay, yby, ycy, i64_w, i32_w]
   rfl
  refine one_ (i := 1) (N := some 10) #[true, true, false, false, false, false, false, false, false, false, false, false, false, false, false, false, false, false, false, false, false] rfl rfl (one_of HT_.out (by kernel_rfl)) (by decide) (fun K hK => ?_)
  refine goes_ Try.func52 (by kernel_rfl) rfl #[.agg #[.slice A0_0 l0_0.length c0_0]] (by rfl) rfl rfl (by (try simp only [yiy, yjy, yky]); first | done | rfl | (simp only [yly, ymy]; rfl)) ?_
  with_reducible refine (spec_IsTriangulation.calls k _ _ l0_0 false _ ?side1 ?side2 A5.out).mono ?_
  (case side1 => repeat (first | exact (Kd.C_below HR0_0.out HB.out) | (with_reducible refine Kd.C_alloc ?_ _) | (with_reducible refine Kd.C_drewN ?_ _) | (with_reducible refine Kd.C_drew ?_)))
  (case side2 => exact HC0_0.out)
  rintro e w36 ⟨rfl, hb⟩
  refine ⟨_, rfl, ?_⟩
  have n0_ := Aside0.mk (blk_below (g := gb101) (o := .cells #[.slice A0_0 l0_0.length c0_0] 28 (0, 0)) (by (with_reducible repeat (first | refine blk_drewN ?_ _ | refine blk_drew ?_ | refine blk_alloc ?_ _)); exact BK101.out) hb)
  have n1_ := Aside0.mk (blk_below (g := gb102) (o := .cells #[.slice A1_0 l1_0.length c1_0] 28 (0, 0)) (by (with_reducible repeat (first | refine blk_drewN ?_ _ | refine blk_drew ?_ | refine blk_alloc ?_ _)); exact BK102.out) hb)
  have n2_ := Aside0.mk (below_step (by repeat (first | (with_reducible first | exact HB.out | apply below_alloc | apply pw_below_drewN | apply below_drew1 | refine below_set ?_ GE101.out | refine below_set ?_ GE102.out) | exact HB.out)) hb)
  clear BK101
  clear BK102
  clear HB
  have BK101 := n0_
  have BK102 := n1_
  have HB := n2_
  clear n0_ n1_ n2_
  (try clear hb)
  (try clear hb2)
  (try clear hk)
  (try clear hi)
  refine hK.out _ _ ((blk_cell BK101.out 0).trans rfl) (fun hHeld => ?_)
  clear hK K
  refine norm_ (a' := ?_) ?_ ?_
  rotate_left
  next =>
   show Act.put _ (some 10) _ = _
   simp only [Act.put, yay, yby, ycy, i64_w, i32_w]
   rfl
  refine pure_ (i := 2) (N := some 11) (v := ?_) (a' := ?_) #[true, true, true, false, false, false, false, false, false, false, false, false, false, false, false, false, false, false, false, false, false] rfl rfl (any_of HT_.out (by kernel_rfl)) (fun _ _ _ h => h) (Or.inl ⟨by rfl, ?_⟩) ?_ ?_
  rotate_left
  next =>
   intro w'
   go_simp
   with_reducible rfl
  rotate_left
  next =>
   simp only [Act.put, yay, yby, ycy, i64_w, i32_w]
   rfl
  refine pure_ (i := 3) (N := some 12) (v := undef) (a' := ?_) #[true, true, true, true, false, false, false, false, false, false, false, false, false, false, false, false, false, false, false, false, false] rfl rfl (any_of HT_.out (by kernel_rfl)) (fun _ _ _ h => h) (Or.inr ⟨by rfl, rfl⟩) ?_ ?_
  rotate_left
  next =>
   simp only [Act.put, yay, yby, ycy, i64_w, i32_w]
   rfl
  refine pure_ (i := 4) (N := some 13) (v := undef) (a' := ?_) #[true, true, true, true, true, false, false, false, false, false, false, false, false, false, false, false, false, false, false, false, false] rfl rfl (any_of HT_.out (by kernel_rfl)) (fun _ _ _ h => h) (Or.inr ⟨by rfl, rfl⟩) ?_ ?_
  rotate_left
  next =>
   simp only [Act.put, yay, yby, ycy, i64_w, i32_w]
   rfl
  refine pure_ (i := 5) (N := some 14) (v := ?_) (a' := ?_) #[true, true, true, true, true, true, false, false, false, false, false, false, false, false, false, false, false, false, false, false, false] rfl rfl (any_of HT_.out (by kernel_rfl)) (fun _ _ _ h => h) (Or.inl ⟨by rfl, ?_⟩) ?_ ?_
  rotate_left
  next =>
   intro w'
   go_simp
   with_reducible rfl
  rotate_left
  next =>
   simp only [Act.put, yay, yby, ycy, i64_w, i32_w]
   rfl
  refine pure_ (i := 6) (N := some 15) (v := ?_) (a' := ?_) #[true, true, true, true, true, true, true, false, false, false, false, false, false, false, false, false, false, false, false, false, false] rfl rfl (any_of HT_.out (by kernel_rfl)) (fun _ _ _ h => h) (Or.inl ⟨by rfl, ?_⟩) ?_ ?_
  rotate_left
  next =>
   intro w'
   go_simp
   with_reducible rfl
  rotate_left
  next =>
   simp only [Act.put, yay, yby, ycy, i64_w, i32_w]
   rfl
  refine pure_ (i := 7) (N := some 16) (v := undef) (a' := ?_) #[true, true, true, true, true, true, true, true, false, false, false, false, false, false, false, false, false, false, false, false, false] rfl rfl (any_of HT_.out (by kernel_rfl)) (fun _ _ _ h => h) (Or.inr ⟨by rfl, rfl⟩) ?_ ?_
  rotate_left
  next =>
   simp only [Act.put, yay, yby, ycy, i64_w, i32_w]
   rfl
  refine pure_ (i := 8) (N := some 17) (v := undef) (a' := ?_) #[true, true, true, true, true, true, true, true, true, false, false, false, false, false, false, false, false, false, false, false, false] rfl rfl (any_of HT_.out (by kernel_rfl)) (fun _ _ _ h => h) (Or.inr ⟨by rfl, rfl⟩) ?_ ?_
  rotate_left
  next =>
   simp only [Act.put, yay, yby, ycy, i64_w, i32_w]
   rfl
  refine pure_ (i := 9) (N := some 18) (v := undef) (a' := ?_) #[true, true, true, true, true, true, true, true, true, true, false, false, false, false, false, false, false, false, false, false, false] rfl rfl (any_of HT_.out (by kernel_rfl)) (fun _ _ _ h => h) (Or.inr ⟨by rfl, rfl⟩) ?_ ?_
  rotate_left
  next =>
   simp only [Act.put, yay, yby, ycy, i64_w, i32_w]
   rfl
  refine pure_ (i := 10) (N := some 19) (v := undef) (a' := ?_) #[true, true, true, true, true, true, true, true, true, true, true, false, false, false, false, false, false, false, false, false, false] rfl rfl (any_of HT_.out (by kernel_rfl)) (fun _ _ _ h => h) (Or.inr ⟨by rfl, rfl⟩) ?_ ?_
  rotate_left
  next =>
   simp only [Act.put, yay, yby, ycy, i64_w, i32_w]
   rfl
  refine pure_ (i := 11) (N := some 20) (v := ?_) (a' := ?_) #[true, true, true, true, true, true, true, true, true, true, true, true, false, false, false, false, false, false, false, false, false] rfl rfl (any_of HT_.out (by kernel_rfl)) (fun _ _ _ h => h) (Or.inl ⟨by rfl, ?_⟩) ?_ ?_
  rotate_left
  next =>
   intro w'
   go_simp
   with_reducible rfl
  rotate_left
  next =>
   simp only [Act.put, yay, yby, ycy, i64_w, i32_w]
   rfl
  refine pure_ (i := 12) (N := some 21) (v := ?_) (a' := ?_) #[true, true, true, true, true, true, true, true, true, true, true, true, true, false, false, false, false, false, false, false, false] rfl rfl (any_of HT_.out (by kernel_rfl)) (fun _ _ _ h => h) (Or.inl ⟨by rfl, ?_⟩) ?_ ?_
  rotate_left
  next =>
   intro w'
   go_simp
   with_reducible rfl
  rotate_left
  next =>
   simp only [Act.put, yay, yby, ycy, i64_w, i32_w]
   rfl
  refine pure_ (i := 13) (N := some 22) (v := undef) (a' := ?_) #[true, true, true, true, true, true, true, true, true, true, true, true, true, true, false, false, false, false, false, false, false] rfl rfl (any_of HT_.out (by kernel_rfl)) (fun _ _ _ h => h) (Or.inr ⟨by rfl, rfl⟩) ?_ ?_
  rotate_left
  next =>
   simp only [Act.put, yay, yby, ycy, i64_w, i32_w]
   rfl
  refine pure_ (i := 14) (N := some 23) (v := undef) (a' := ?_) #[true, true, true, true, true, true, true, true, true, true, true, true, true, true, true, false, false, false, false, false, false] rfl rfl (any_of HT_.out (by kernel_rfl)) (fun _ _ _ h => h) (Or.inr ⟨by rfl, rfl⟩) ?_ ?_
  rotate_left
  next =>
   simp only [Act.put, yay, yby, ycy, i64_w, i32_w]
   rfl
  refine pure_ (i := 15) (N := some 24) (v := undef) (a' := ?_) #[true, true, true, true, true, true, true, true, true, true, true, true, true, true, true, true, false, false, false, false, false] rfl rfl (any_of HT_.out (by kernel_rfl)) (fun _ _ _ h => h) (Or.inr ⟨by rfl, rfl⟩) ?_ ?_
  rotate_left
  next =>
   simp only [Act.put, yay, yby, ycy, i64_w, i32_w]
   rfl
  refine pure_ (i := 16) (N := some 25) (v := undef) (a' := ?_) #[true, true, true, true, true, true, true, true, true, true, true, true, true, true, true, true, true, false, false, false, false] rfl rfl (any_of HT_.out (by kernel_rfl)) (fun _ _ _ h => h) (Or.inr ⟨by rfl, rfl⟩) ?_ ?_
  rotate_left
  next =>
   simp only [Act.put, yay, yby, ycy, i64_w, i32_w]
   rfl
  refine pure_ (i := 17) (N := some 26) (v := undef) (a' := ?_) #[true, true, true, true, true, true, true, true, true, true, true, true, true, true, true, true, true, true, false, false, false] rfl rfl (any_of HT_.out (by kernel_rfl)) (fun _ _ _ h => h) (Or.inr ⟨by rfl, rfl⟩) ?_ ?_
  rotate_left
  next =>
   simp only [Act.put, yay, yby, ycy, i64_w, i32_w]
   rfl
  refine pure_ (i := 18) (N := some 27) (v := undef) (a' := ?_) #[true, true, true, true, true, true, true, true, true, true, true, true, true, true, true, true, true, true, true, false, false] rfl rfl (any_of HT_.out (by kernel_rfl)) (fun _ _ _ h => h) (Or.inr ⟨by rfl, rfl⟩) ?_ ?_
  rotate_left
  next =>
   simp only [Act.put, yay, yby, ycy, i64_w, i32_w]
   rfl
  refine pure_ (i := 19) (N := some 28) (v := ?_) (a' := ?_) #[true, true, true, true, true, true, true, true, true, true, true, true, true, true, true, true, true, true, true, true, false] rfl rfl (any_of HT_.out (by kernel_rfl)) (fun _ _ _ h => h) (Or.inl ⟨by rfl, ?_⟩) ?_ ?_
  rotate_left
  next =>
   intro w'
   go_simp
   with_reducible rfl
  rotate_left
  next =>
   simp only [Act.put, yay, yby, ycy, i64_w, i32_w]
   rfl
  refine pure_ (i := 20) (N := some 8) (v := ?_) (a' := ?_) #[true, true, true, true, true, true, true, true, true, true, true, true, true, true, true, true, true, true, true, true, true] rfl rfl (any_of HT_.out (by kernel_rfl)) (fun _ _ _ h => h) (Or.inl ⟨by rfl, ?_⟩) ?_ ?_
  rotate_left
  next =>
   intro w'
   go_simp
   with_reducible rfl
  rotate_left
  next =>
   simp only [Act.put, yay, yby, ycy, i64_w, i32_w]
   rfl
  refine done_ (done_of HT_.out (by kernel_rfl)) ?_
  try go_wp2
  go_ret
  exact ⟨by first | rfl | (simp [errW_none, errW_some] <;> rfl) | (simp [*, errW_none, errW_some] <;> rfl), by repeat (first | (with_reducible first | exact HB.out | apply below_alloc | apply pw_below_drewN | apply below_drew1 | refine below_set ?_ GE101.out | refine below_set ?_ GE102.out) | exact HB.out)⟩
 subst c6
 have H1 : ((spec_IsTriangulation.f k l1_0).bind fun t104 => (if t104 = true then ((spec_l07Labels.f k l0_0 l2 l3).bind fun t105 => (if t105 = true then ((spec_l07Relabel.f k l0_0 l2 l3).bind fun t106 => ((spec_l11Equal.f k t106 l1_0).bind fun t109 => (some t109))) else (some false))) else (some false))) = some r := by rw [if_pos rfl] at H; exact H
 clear H
 have H := H1
 clear H1
 replace H := ydy.mp H
 obtain ⟨t104, A70, H⟩ := H
 replace H : (if t104 = true then ((spec_l07Labels.f k l0_0 l2 l3).bind fun t105 => (if t105 = true then ((spec_l07Relabel.f k l0_0 l2 l3).bind fun t106 => ((spec_l11Equal.f k t106 l1_0).bind fun t109 => (some t109))) else (some false))) else (some false)) = some r := H
 have A7 := Aside0.mk A70
 clear A70
 by_cases c8 : t104 = true
 rotate_left
 next =>
  replace c8 := Bool.eq_false_iff.mpr c8
  subst c8
  have H1 : (some false) = some r := by rw [if_neg (show ¬ (false = true) by decide)] at H; exact H
  clear H
  have H := H1
  clear H1
  obtain rfl := yey H
  go_enter Try.func39, Try.ntmps39
  try go_wp2_with (first | ((with_reducible refine gate_dst (N := 4) rfl ?_); refine box_event ?hg (N := 4) ?hd (cs := #[.slice A0_0 l0_0.length c0_0]) (t := 28) ?hr ?_; (case hd => rfl); (case hg => rfl); (case hr => first | (go_simp; done) | (go_simp; rfl)); intro gb101 hg w28 hbox hb; have n0_ := Aside0.mk (below_step (by repeat (first | (with_reducible first | exact HB.out | apply below_alloc | apply pw_below_drewN | apply below_drew1) | exact HB.out)) hb); have n1_ := Aside0.mk (hbox); have n2_ := Aside0.mk ((by rw [hg]; exact (below_size (by repeat (first | (with_reducible first | exact HB.out | apply below_alloc | apply pw_below_drewN | apply below_drew1) | exact HB.out))) : w.heap.size ≤ gb101)); have n3_ := Aside0.mk ((by rw [hg]; exact (below_size (by repeat (first | (with_reducible first | exact HB.out | apply below_alloc | apply pw_below_drewN | apply below_drew1) | exact HB.out))) : w.heap.size ≤ gb101)); clear HB; have HB := n0_; have BK101 := n1_; have GW101 := n2_; have GE101 := n3_; clear n0_ n1_ n2_ n3_; clear hb hbox hg) | ((with_reducible refine gate_dst (N := 5) rfl ?_); refine box_event ?hg (N := 5) ?hd (cs := #[.slice A1_0 l1_0.length c1_0]) (t := 28) ?hr ?_; (case hd => rfl); (case hg => rfl); (case hr => first | (go_simp; done) | (go_simp; rfl)); intro gb102 hg w29 hbox hb; have n0_ := Aside0.mk (blk_below (g := gb101) (o := .cells #[.slice A0_0 l0_0.length c0_0] 28 (0, 0)) (by (with_reducible repeat (first | refine blk_drewN ?_ _ | refine blk_drew ?_ | refine blk_alloc ?_ _)); exact BK101.out) hb); have n1_ := Aside0.mk (below_step (by repeat (first | (with_reducible first | exact HB.out | apply below_alloc | apply pw_below_drewN | apply below_drew1 | refine below_set ?_ GE101.out) | exact HB.out)) hb); have n2_ := Aside0.mk (hbox); have n3_ := Aside0.mk ((by rw [hg]; exact (below_size (by repeat (first | (with_reducible first | exact HB.out | apply below_alloc | apply pw_below_drewN | apply below_drew1 | refine below_set ?_ GE101.out) | exact HB.out))) : w.heap.size ≤ gb102)); have n4_ := Aside0.mk ((by rw [hg]; exact (below_size (by repeat (first | (with_reducible first | exact HB.out | apply below_alloc | apply pw_below_drewN | apply below_drew1 | refine below_set ?_ GE101.out) | exact HB.out))) : w.heap.size ≤ gb102)); have n5_ := Aside0.mk ((by rw [hg]; exact Nat.ne_of_lt (blk_lt (g := gb101) (o := .cells #[.slice A0_0 l0_0.length c0_0] 28 (0, 0)) (by (with_reducible repeat (first | refine blk_drewN ?_ _ | refine blk_drew ?_ | refine blk_alloc ?_ _)); exact BK101.out)) : gb101 ≠ gb102)); have n6_ := Aside0.mk ((by rw [hg]; exact Nat.ne_of_gt (blk_lt (g := gb101) (o := .cells #[.slice A0_0 l0_0.length c0_0] 28 (0, 0)) (by (with_reducible repeat (first | refine blk_drewN ?_ _ | refine blk_drew ?_ | refine blk_alloc ?_ _)); exact BK101.out)) : gb102 ≠ gb101)); clear BK101; clear HB; have BK101 := n0_; have HB := n1_; have BK102 := n2_; have GW102 := n3_; have GE102 := n4_; have NB101_102 := n5_; have NB102_101 := n6_; clear n0_ n1_ n2_ n3_ n4_ n5_ n6_; clear hb hbox hg))
  have n0_ := Aside0.mk (blk_drew BK101.out)
  have n1_ := Aside0.mk (blk_drew BK102.out)
  have n2_ := Aside0.mk (below_drew1 HB.out)
  clear BK101
  clear BK102
  clear HB
  have BK101 := n0_
  have BK102 := n1_
  have HB := n2_
  clear n0_ n1_ n2_
  refine start_ (n := 21) (S := fun w' => w'.cell? ⟨gb101, 0, none⟩ = some (.slice A0_0 l0_0.length c0_0) ∧ w'.cell? ⟨gb102, 0, none⟩ = some (.slice A1_0 l1_0.length c1_0)) (ds := []) #[false, false, false, false, false, false, false, false, false, false, false, false, false, false, false, false, false, false, false, false, false] (by kernel_rfl) rfl rfl ⟨(blk_cell BK101.out 0).trans rfl, (blk_cell BK102.out 0).trans rfl⟩ (fun hHeld => ?_); refine with_tabW spec_IsIsomorphism.tab1 spec_IsIsomorphism.bits1 (fun HT_ HW_ => ?_)
  generalize w29.drew = w30 at BK101 BK102 HB hHeld ⊢
  refine take_ (i := 0) (N := some 9) (v := ?_) (a' := ?_) #[true, false, false, false, false, false, false, false, false, false, false, false, false, false, false, false, false, false, false, false, false] rfl rfl (take_ofW HT_.out HW_.out (by kernel_rfl)) (fun _ _ _ h => h) (Or.inl ⟨by rfl, ?_⟩) hHeld ?_ ?_
  rotate_left
  next =>
   rintro w' ⟨s0, s1⟩
   go_simp
   with_reducible rfl
  rotate_left
  next =>
   simp only [Act.put, yay, yby, ycy, i64_w, i32_w]
   rfl
  refine one_ (i := 1) (N := some 10) #[true, true, false, false, false, false, false, false, false, false, false, false, false, false, false, false, false, false, false, false, false] rfl rfl (one_of HT_.out (by kernel_rfl)) (by decide) (fun K hK => ?_)
  refine goes_ Try.func52 (by kernel_rfl) rfl #[.agg #[.slice A0_0 l0_0.length c0_0]] (by rfl) rfl rfl (by (try simp only [yiy, yjy, yky]); first | done | rfl | (simp only [yly, ymy]; rfl)) ?_
  with_reducible refine (spec_IsTriangulation.calls k _ _ l0_0 true _ ?side1 ?side2 A5.out).mono ?_
  (case side1 => repeat (first | exact (Kd.C_below HR0_0.out HB.out) | (with_reducible refine Kd.C_alloc ?_ _) | (with_reducible refine Kd.C_drewN ?_ _) | (with_reducible refine Kd.C_drew ?_)))
  (case side2 => exact HC0_0.out)
  rintro e w31 ⟨rfl, hb⟩
  refine ⟨_, rfl, ?_⟩
  have n0_ := Aside0.mk (blk_below (g := gb101) (o := .cells #[.slice A0_0 l0_0.length c0_0] 28 (0, 0)) (by (with_reducible repeat (first | refine blk_drewN ?_ _ | refine blk_drew ?_ | refine blk_alloc ?_ _)); exact BK101.out) hb)
  have n1_ := Aside0.mk (blk_below (g := gb102) (o := .cells #[.slice A1_0 l1_0.length c1_0] 28 (0, 0)) (by (with_reducible repeat (first | refine blk_drewN ?_ _ | refine blk_drew ?_ | refine blk_alloc ?_ _)); exact BK102.out) hb)
  have n2_ := Aside0.mk (below_step (by repeat (first | (with_reducible first | exact HB.out | apply below_alloc | apply pw_below_drewN | apply below_drew1 | refine below_set ?_ GE101.out | refine below_set ?_ GE102.out) | exact HB.out)) hb)
  clear BK101
  clear BK102
  clear HB
  have BK101 := n0_
  have BK102 := n1_
  have HB := n2_
  clear n0_ n1_ n2_
  (try clear hb)
  (try clear hb2)
  (try clear hk)
  (try clear hi)
  refine hK.out _ _ ⟨(blk_cell BK101.out 0).trans rfl, (blk_cell BK102.out 0).trans rfl⟩ (fun hHeld => ?_)
  clear hK K
  refine norm_ (a' := ?_) ?_ ?_
  rotate_left
  next =>
   show Act.put _ (some 10) _ = _
   simp only [Act.put, yay, yby, ycy, i64_w, i32_w]
   rfl
  refine pure_ (i := 2) (N := some 11) (v := ?_) (a' := ?_) #[true, true, true, false, false, false, false, false, false, false, false, false, false, false, false, false, false, false, false, false, false] rfl rfl (any_of HT_.out (by kernel_rfl)) (fun _ _ _ h => h) (Or.inl ⟨by rfl, ?_⟩) ?_ ?_
  rotate_left
  next =>
   intro w'
   go_simp
   with_reducible rfl
  rotate_left
  next =>
   simp only [Act.put, yay, yby, ycy, i64_w, i32_w]
   rfl
  refine take_ (i := 3) (N := some 12) (v := ?_) (a' := ?_) #[true, true, true, true, false, false, false, false, false, false, false, false, false, false, false, false, false, false, false, false, false] rfl rfl (take_ofW HT_.out HW_.out (by kernel_rfl)) (fun _ _ _ h => h) (Or.inl ⟨by rfl, ?_⟩) hHeld ?_ ?_
  rotate_left
  next =>
   rintro w' ⟨s0, s1⟩
   go_simp
   with_reducible rfl
  rotate_left
  next =>
   simp only [Act.put, yay, yby, ycy, i64_w, i32_w]
   rfl
  refine one_ (i := 4) (N := some 13) #[true, true, true, true, true, false, false, false, false, false, false, false, false, false, false, false, false, false, false, false, false] rfl rfl (one_of HT_.out (by kernel_rfl)) (by decide) (fun K hK => ?_)
  refine goes_ Try.func52 (by kernel_rfl) rfl #[.agg #[.slice A1_0 l1_0.length c1_0]] (by rfl) rfl rfl (by (try simp only [yiy, yjy, yky]); first | done | rfl | (simp only [yly, ymy]; rfl)) ?_
  with_reducible refine (spec_IsTriangulation.calls k _ _ l1_0 false _ ?side1 ?side2 A7.out).mono ?_
  (case side1 => repeat (first | exact (Kd.C_below HR1_0.out HB.out) | (with_reducible refine Kd.C_alloc ?_ _) | (with_reducible refine Kd.C_drewN ?_ _) | (with_reducible refine Kd.C_drew ?_)))
  (case side2 => exact HC1_0.out)
  rintro e w32 ⟨rfl, hb⟩
  refine ⟨_, rfl, ?_⟩
  have n0_ := Aside0.mk (blk_below (g := gb101) (o := .cells #[.slice A0_0 l0_0.length c0_0] 28 (0, 0)) (by (with_reducible repeat (first | refine blk_drewN ?_ _ | refine blk_drew ?_ | refine blk_alloc ?_ _)); exact BK101.out) hb)
  have n1_ := Aside0.mk (blk_below (g := gb102) (o := .cells #[.slice A1_0 l1_0.length c1_0] 28 (0, 0)) (by (with_reducible repeat (first | refine blk_drewN ?_ _ | refine blk_drew ?_ | refine blk_alloc ?_ _)); exact BK102.out) hb)
  have n2_ := Aside0.mk (below_step (by repeat (first | (with_reducible first | exact HB.out | apply below_alloc | apply pw_below_drewN | apply below_drew1 | refine below_set ?_ GE101.out | refine below_set ?_ GE102.out) | exact HB.out)) hb)
  clear BK101
  clear BK102
  clear HB
  have BK101 := n0_
  have BK102 := n1_
  have HB := n2_
  clear n0_ n1_ n2_
  (try clear hb)
  (try clear hb2)
  (try clear hk)
  (try clear hi)
  refine hK.out _ _ ⟨(blk_cell BK101.out 0).trans rfl, (blk_cell BK102.out 0).trans rfl⟩ (fun hHeld => ?_)
  clear hK K
  refine norm_ (a' := ?_) ?_ ?_
  rotate_left
  next =>
   show Act.put _ (some 13) _ = _
   simp only [Act.put, yay, yby, ycy, i64_w, i32_w]
   rfl
  refine pure_ (i := 5) (N := some 14) (v := ?_) (a' := ?_) #[true, true, true, true, true, true, false, false, false, false, false, false, false, false, false, false, false, false, false, false, false] rfl rfl (any_of HT_.out (by kernel_rfl)) (fun _ _ _ h => h) (Or.inl ⟨by rfl, ?_⟩) ?_ ?_
  rotate_left
  next =>
   intro w'
   go_simp
   with_reducible rfl
  rotate_left
  next =>
   simp only [Act.put, yay, yby, ycy, i64_w, i32_w]
   rfl
  refine pure_ (i := 6) (N := some 15) (v := ?_) (a' := ?_) #[true, true, true, true, true, true, true, false, false, false, false, false, false, false, false, false, false, false, false, false, false] rfl rfl (any_of HT_.out (by kernel_rfl)) (fun _ _ _ h => h) (Or.inl ⟨by rfl, ?_⟩) ?_ ?_
  rotate_left
  next =>
   intro w'
   go_simp
   with_reducible rfl
  rotate_left
  next =>
   simp only [Act.put, yay, yby, ycy, i64_w, i32_w]
   rfl
  refine pure_ (i := 7) (N := some 16) (v := undef) (a' := ?_) #[true, true, true, true, true, true, true, true, false, false, false, false, false, false, false, false, false, false, false, false, false] rfl rfl (any_of HT_.out (by kernel_rfl)) (fun _ _ _ h => h) (Or.inr ⟨by rfl, rfl⟩) ?_ ?_
  rotate_left
  next =>
   simp only [Act.put, yay, yby, ycy, i64_w, i32_w]
   rfl
  refine pure_ (i := 8) (N := some 17) (v := undef) (a' := ?_) #[true, true, true, true, true, true, true, true, true, false, false, false, false, false, false, false, false, false, false, false, false] rfl rfl (any_of HT_.out (by kernel_rfl)) (fun _ _ _ h => h) (Or.inr ⟨by rfl, rfl⟩) ?_ ?_
  rotate_left
  next =>
   simp only [Act.put, yay, yby, ycy, i64_w, i32_w]
   rfl
  refine pure_ (i := 9) (N := some 18) (v := undef) (a' := ?_) #[true, true, true, true, true, true, true, true, true, true, false, false, false, false, false, false, false, false, false, false, false] rfl rfl (any_of HT_.out (by kernel_rfl)) (fun _ _ _ h => h) (Or.inr ⟨by rfl, rfl⟩) ?_ ?_
  rotate_left
  next =>
   simp only [Act.put, yay, yby, ycy, i64_w, i32_w]
   rfl
  refine pure_ (i := 10) (N := some 19) (v := undef) (a' := ?_) #[true, true, true, true, true, true, true, true, true, true, true, false, false, false, false, false, false, false, false, false, false] rfl rfl (any_of HT_.out (by kernel_rfl)) (fun _ _ _ h => h) (Or.inr ⟨by rfl, rfl⟩) ?_ ?_
  rotate_left
  next =>
   simp only [Act.put, yay, yby, ycy, i64_w, i32_w]
   rfl
  refine pure_ (i := 11) (N := some 20) (v := ?_) (a' := ?_) #[true, true, true, true, true, true, true, true, true, true, true, true, false, false, false, false, false, false, false, false, false] rfl rfl (any_of HT_.out (by kernel_rfl)) (fun _ _ _ h => h) (Or.inl ⟨by rfl, ?_⟩) ?_ ?_
  rotate_left
  next =>
   intro w'
   go_simp
   with_reducible rfl
  rotate_left
  next =>
   simp only [Act.put, yay, yby, ycy, i64_w, i32_w]
   rfl
  refine pure_ (i := 12) (N := some 21) (v := ?_) (a' := ?_) #[true, true, true, true, true, true, true, true, true, true, true, true, true, false, false, false, false, false, false, false, false] rfl rfl (any_of HT_.out (by kernel_rfl)) (fun _ _ _ h => h) (Or.inl ⟨by rfl, ?_⟩) ?_ ?_
  rotate_left
  next =>
   intro w'
   go_simp
   with_reducible rfl
  rotate_left
  next =>
   simp only [Act.put, yay, yby, ycy, i64_w, i32_w]
   rfl
  refine pure_ (i := 13) (N := some 22) (v := undef) (a' := ?_) #[true, true, true, true, true, true, true, true, true, true, true, true, true, true, false, false, false, false, false, false, false] rfl rfl (any_of HT_.out (by kernel_rfl)) (fun _ _ _ h => h) (Or.inr ⟨by rfl, rfl⟩) ?_ ?_
  rotate_left
  next =>
   simp only [Act.put, yay, yby, ycy, i64_w, i32_w]
   rfl
  refine pure_ (i := 14) (N := some 23) (v := undef) (a' := ?_) #[true, true, true, true, true, true, true, true, true, true, true, true, true, true, true, false, false, false, false, false, false] rfl rfl (any_of HT_.out (by kernel_rfl)) (fun _ _ _ h => h) (Or.inr ⟨by rfl, rfl⟩) ?_ ?_
  rotate_left
  next =>
   simp only [Act.put, yay, yby, ycy, i64_w, i32_w]
   rfl
  refine pure_ (i := 15) (N := some 24) (v := undef) (a' := ?_) #[true, true, true, true, true, true, true, true, true, true, true, true, true, true, true, true, false, false, false, false, false] rfl rfl (any_of HT_.out (by kernel_rfl)) (fun _ _ _ h => h) (Or.inr ⟨by rfl, rfl⟩) ?_ ?_
  rotate_left
  next =>
   simp only [Act.put, yay, yby, ycy, i64_w, i32_w]
   rfl
  refine pure_ (i := 16) (N := some 25) (v := undef) (a' := ?_) #[true, true, true, true, true, true, true, true, true, true, true, true, true, true, true, true, true, false, false, false, false] rfl rfl (any_of HT_.out (by kernel_rfl)) (fun _ _ _ h => h) (Or.inr ⟨by rfl, rfl⟩) ?_ ?_
  rotate_left
  next =>
   simp only [Act.put, yay, yby, ycy, i64_w, i32_w]
   rfl
  refine pure_ (i := 17) (N := some 26) (v := undef) (a' := ?_) #[true, true, true, true, true, true, true, true, true, true, true, true, true, true, true, true, true, true, false, false, false] rfl rfl (any_of HT_.out (by kernel_rfl)) (fun _ _ _ h => h) (Or.inr ⟨by rfl, rfl⟩) ?_ ?_
  rotate_left
  next =>
   simp only [Act.put, yay, yby, ycy, i64_w, i32_w]
   rfl
  refine pure_ (i := 18) (N := some 27) (v := undef) (a' := ?_) #[true, true, true, true, true, true, true, true, true, true, true, true, true, true, true, true, true, true, true, false, false] rfl rfl (any_of HT_.out (by kernel_rfl)) (fun _ _ _ h => h) (Or.inr ⟨by rfl, rfl⟩) ?_ ?_
  rotate_left
  next =>
   simp only [Act.put, yay, yby, ycy, i64_w, i32_w]
   rfl
  refine pure_ (i := 19) (N := some 28) (v := ?_) (a' := ?_) #[true, true, true, true, true, true, true, true, true, true, true, true, true, true, true, true, true, true, true, true, false] rfl rfl (any_of HT_.out (by kernel_rfl)) (fun _ _ _ h => h) (Or.inl ⟨by rfl, ?_⟩) ?_ ?_
  rotate_left
  next =>
   intro w'
   go_simp
   with_reducible rfl
  rotate_left
  next =>
   simp only [Act.put, yay, yby, ycy, i64_w, i32_w]
   rfl
  refine pure_ (i := 20) (N := some 8) (v := ?_) (a' := ?_) #[true, true, true, true, true, true, true, true, true, true, true, true, true, true, true, true, true, true, true, true, true] rfl rfl (any_of HT_.out (by kernel_rfl)) (fun _ _ _ h => h) (Or.inl ⟨by rfl, ?_⟩) ?_ ?_
  rotate_left
  next =>
   intro w'
   go_simp
   with_reducible rfl
  rotate_left
  next =>
   simp only [Act.put, yay, yby, ycy, i64_w, i32_w]
   rfl
  refine done_ (done_of HT_.out (by kernel_rfl)) ?_
  try go_wp2
  go_ret
  exact ⟨by first | rfl | (simp [errW_none, errW_some] <;> rfl) | (simp [*, errW_none, errW_some] <;> rfl), by repeat (first | (with_reducible first | exact HB.out | apply below_alloc | apply pw_below_drewN | apply below_drew1 | refine below_set ?_ GE101.out | refine below_set ?_ GE102.out) | exact HB.out)⟩
 subst c8
 have H1 : ((spec_l07Labels.f k l0_0 l2 l3).bind fun t105 => (if t105 = true then ((spec_l07Relabel.f k l0_0 l2 l3).bind fun t106 => ((spec_l11Equal.f k t106 l1_0).bind fun t109 => (some t109))) else (some false))) = some r := by rw [if_pos rfl] at H; exact H
 clear H
 have H := H1
 clear H1
 replace H := ydy.mp H
 obtain ⟨t105, A90, H⟩ := H
 replace H : (if t105 = true then ((spec_l07Relabel.f k l0_0 l2 l3).bind fun t106 => ((spec_l11Equal.f k t106 l1_0).bind fun t109 => (some t109))) else (some false)) = some r := H
 have A9 := Aside0.mk A90
 clear A90
 by_cases c10 : t105 = true
 rotate_left
 next =>
  replace c10 := Bool.eq_false_iff.mpr c10
  subst c10
  have H1 : (some false) = some r := by rw [if_neg (show ¬ (false = true) by decide)] at H; exact H
  clear H
  have H := H1
  clear H1
  obtain rfl := yey H
  go_enter Try.func39, Try.ntmps39
  try go_wp2_with (first | ((with_reducible refine gate_dst (N := 4) rfl ?_); refine box_event ?hg (N := 4) ?hd (cs := #[.slice A0_0 l0_0.length c0_0]) (t := 28) ?hr ?_; (case hd => rfl); (case hg => rfl); (case hr => first | (go_simp; done) | (go_simp; rfl)); intro gb101 hg w22 hbox hb; have n0_ := Aside0.mk (below_step (by repeat (first | (with_reducible first | exact HB.out | apply below_alloc | apply pw_below_drewN | apply below_drew1) | exact HB.out)) hb); have n1_ := Aside0.mk (hbox); have n2_ := Aside0.mk ((by rw [hg]; exact (below_size (by repeat (first | (with_reducible first | exact HB.out | apply below_alloc | apply pw_below_drewN | apply below_drew1) | exact HB.out))) : w.heap.size ≤ gb101)); have n3_ := Aside0.mk ((by rw [hg]; exact (below_size (by repeat (first | (with_reducible first | exact HB.out | apply below_alloc | apply pw_below_drewN | apply below_drew1) | exact HB.out))) : w.heap.size ≤ gb101)); clear HB; have HB := n0_; have BK101 := n1_; have GW101 := n2_; have GE101 := n3_; clear n0_ n1_ n2_ n3_; clear hb hbox hg) | ((with_reducible refine gate_dst (N := 5) rfl ?_); refine box_event ?hg (N := 5) ?hd (cs := #[.slice A1_0 l1_0.length c1_0]) (t := 28) ?hr ?_; (case hd => rfl); (case hg => rfl); (case hr => first | (go_simp; done) | (go_simp; rfl)); intro gb102 hg w23 hbox hb; have n0_ := Aside0.mk (blk_below (g := gb101) (o := .cells #[.slice A0_0 l0_0.length c0_0] 28 (0, 0)) (by (with_reducible repeat (first | refine blk_drewN ?_ _ | refine blk_drew ?_ | refine blk_alloc ?_ _)); exact BK101.out) hb); have n1_ := Aside0.mk (below_step (by repeat (first | (with_reducible first | exact HB.out | apply below_alloc | apply pw_below_drewN | apply below_drew1 | refine below_set ?_ GE101.out) | exact HB.out)) hb); have n2_ := Aside0.mk (hbox); have n3_ := Aside0.mk ((by rw [hg]; exact (below_size (by repeat (first | (with_reducible first | exact HB.out | apply below_alloc | apply pw_below_drewN | apply below_drew1 | refine below_set ?_ GE101.out) | exact HB.out))) : w.heap.size ≤ gb102)); have n4_ := Aside0.mk ((by rw [hg]; exact (below_size (by repeat (first | (with_reducible first | exact HB.out | apply below_alloc | apply pw_below_drewN | apply below_drew1 | refine below_set ?_ GE101.out) | exact HB.out))) : w.heap.size ≤ gb102)); have n5_ := Aside0.mk ((by rw [hg]; exact Nat.ne_of_lt (blk_lt (g := gb101) (o := .cells #[.slice A0_0 l0_0.length c0_0] 28 (0, 0)) (by (with_reducible repeat (first | refine blk_drewN ?_ _ | refine blk_drew ?_ | refine blk_alloc ?_ _)); exact BK101.out)) : gb101 ≠ gb102)); have n6_ := Aside0.mk ((by rw [hg]; exact Nat.ne_of_gt (blk_lt (g := gb101) (o := .cells #[.slice A0_0 l0_0.length c0_0] 28 (0, 0)) (by (with_reducible repeat (first | refine blk_drewN ?_ _ | refine blk_drew ?_ | refine blk_alloc ?_ _)); exact BK101.out)) : gb102 ≠ gb101)); clear BK101; clear HB; have BK101 := n0_; have HB := n1_; have BK102 := n2_; have GW102 := n3_; have GE102 := n4_; have NB101_102 := n5_; have NB102_101 := n6_; clear n0_ n1_ n2_ n3_ n4_ n5_ n6_; clear hb hbox hg))
  have n0_ := Aside0.mk (blk_drew BK101.out)
  have n1_ := Aside0.mk (blk_drew BK102.out)
  have n2_ := Aside0.mk (below_drew1 HB.out)
  clear BK101
  clear BK102
  clear HB
  have BK101 := n0_
  have BK102 := n1_
  have HB := n2_
  clear n0_ n1_ n2_
  refine start_ (n := 21) (S := fun w' => w'.cell? ⟨gb101, 0, none⟩ = some (.slice A0_0 l0_0.length c0_0) ∧ w'.cell? ⟨gb102, 0, none⟩ = some (.slice A1_0 l1_0.length c1_0)) (ds := []) #[false, false, false, false, false, false, false, false, false, false, false, false, false, false, false, false, false, false, false, false, false] (by kernel_rfl) rfl rfl ⟨(blk_cell BK101.out 0).trans rfl, (blk_cell BK102.out 0).trans rfl⟩ (fun hHeld => ?_); refine with_tabW spec_IsIsomorphism.tab1 spec_IsIsomorphism.bits1 (fun HT_ HW_ => ?_)
  generalize w23.drew = w24 at BK101 BK102 HB hHeld ⊢
  refine take_ (i := 0) (N := some 9) (v := ?_) (a' := ?_) #[true, false, false, false, false, false, false, false, false, false, false, false, false, false, false, false, false, false, false, false, false] rfl rfl (take_ofW HT_.out HW_.out (by kernel_rfl)) (fun _ _ _ h => h) (Or.inl ⟨by rfl, ?_⟩) hHeld ?_ ?_
  rotate_left
  next =>
   rintro w' ⟨s0, s1⟩
   go_simp
   with_reducible rfl
  rotate_left
  next =>
   simp only [Act.put, yay, yby, ycy, i64_w, i32_w]
   rfl
  refine one_ (i := 1) (N := some 10) #[true, true, false, false, false, false, false, false, false, false, false, false, false, false, false, false, false, false, false, false, false] rfl rfl (one_of HT_.out (by kernel_rfl)) (by decide) (fun K hK => ?_)
  refine goes_ Try.func52 (by kernel_rfl) rfl #[.agg #[.slice A0_0 l0_0.length c0_0]] (by rfl) rfl rfl (by (try simp only [yiy, yjy, yky]); first | done | rfl | (simp only [yly, ymy]; rfl)) ?_
  with_reducible refine (spec_IsTriangulation.calls k _ _ l0_0 true _ ?side1 ?side2 A5.out).mono ?_
  (case side1 => repeat (first | exact (Kd.C_below HR0_0.out HB.out) | (with_reducible refine Kd.C_alloc ?_ _) | (with_reducible refine Kd.C_drewN ?_ _) | (with_reducible refine Kd.C_drew ?_)))
  (case side2 => exact HC0_0.out)
  rintro e w25 ⟨rfl, hb⟩
  refine ⟨_, rfl, ?_⟩
  have n0_ := Aside0.mk (blk_below (g := gb101) (o := .cells #[.slice A0_0 l0_0.length c0_0] 28 (0, 0)) (by (with_reducible repeat (first | refine blk_drewN ?_ _ | refine blk_drew ?_ | refine blk_alloc ?_ _)); exact BK101.out) hb)
  have n1_ := Aside0.mk (blk_below (g := gb102) (o := .cells #[.slice A1_0 l1_0.length c1_0] 28 (0, 0)) (by (with_reducible repeat (first | refine blk_drewN ?_ _ | refine blk_drew ?_ | refine blk_alloc ?_ _)); exact BK102.out) hb)
  have n2_ := Aside0.mk (below_step (by repeat (first | (with_reducible first | exact HB.out | apply below_alloc | apply pw_below_drewN | apply below_drew1 | refine below_set ?_ GE101.out | refine below_set ?_ GE102.out) | exact HB.out)) hb)
  clear BK101
  clear BK102
  clear HB
  have BK101 := n0_
  have BK102 := n1_
  have HB := n2_
  clear n0_ n1_ n2_
  (try clear hb)
  (try clear hb2)
  (try clear hk)
  (try clear hi)
  refine hK.out _ _ ⟨(blk_cell BK101.out 0).trans rfl, (blk_cell BK102.out 0).trans rfl⟩ (fun hHeld => ?_)
  clear hK K
  refine norm_ (a' := ?_) ?_ ?_
  rotate_left
  next =>
   show Act.put _ (some 10) _ = _
   simp only [Act.put, yay, yby, ycy, i64_w, i32_w]
   rfl
  refine pure_ (i := 2) (N := some 11) (v := ?_) (a' := ?_) #[true, true, true, false, false, false, false, false, false, false, false, false, false, false, false, false, false, false, false, false, false] rfl rfl (any_of HT_.out (by kernel_rfl)) (fun _ _ _ h => h) (Or.inl ⟨by rfl, ?_⟩) ?_ ?_
  rotate_left
  next =>
   intro w'
   go_simp
   with_reducible rfl
  rotate_left
  next =>
   simp only [Act.put, yay, yby, ycy, i64_w, i32_w]
   rfl
  refine take_ (i := 3) (N := some 12) (v := ?_) (a' := ?_) #[true, true, true, true, false, false, false, false, false, false, false, false, false, false, false, false, false, false, false, false, false] rfl rfl (take_ofW HT_.out HW_.out (by kernel_rfl)) (fun _ _ _ h => h) (Or.inl ⟨by rfl, ?_⟩) hHeld ?_ ?_
  rotate_left
  next =>
   rintro w' ⟨s0, s1⟩
   go_simp
   with_reducible rfl
  rotate_left
  next =>
   simp only [Act.put, yay, yby, ycy, i64_w, i32_w]
   rfl
  refine one_ (i := 4) (N := some 13) #[true, true, true, true, true, false, false, false, false, false, false, false, false, false, false, false, false, false, false, false, false] rfl rfl (one_of HT_.out (by kernel_rfl)) (by decide) (fun K hK => ?_)
  refine goes_ Try.func52 (by kernel_rfl) rfl #[.agg #[.slice A1_0 l1_0.length c1_0]] (by rfl) rfl rfl (by (try simp only [yiy, yjy, yky]); first | done | rfl | (simp only [yly, ymy]; rfl)) ?_
  with_reducible refine (spec_IsTriangulation.calls k _ _ l1_0 true _ ?side1 ?side2 A7.out).mono ?_
  (case side1 => repeat (first | exact (Kd.C_below HR1_0.out HB.out) | (with_reducible refine Kd.C_alloc ?_ _) | (with_reducible refine Kd.C_drewN ?_ _) | (with_reducible refine Kd.C_drew ?_)))
  (case side2 => exact HC1_0.out)
  rintro e w26 ⟨rfl, hb⟩
  refine ⟨_, rfl, ?_⟩
  have n0_ := Aside0.mk (blk_below (g := gb101) (o := .cells #[.slice A0_0 l0_0.length c0_0] 28 (0, 0)) (by (with_reducible repeat (first | refine blk_drewN ?_ _ | refine blk_drew ?_ | refine blk_alloc ?_ _)); exact BK101.out) hb)
  have n1_ := Aside0.mk (blk_below (g := gb102) (o := .cells #[.slice A1_0 l1_0.length c1_0] 28 (0, 0)) (by (with_reducible repeat (first | refine blk_drewN ?_ _ | refine blk_drew ?_ | refine blk_alloc ?_ _)); exact BK102.out) hb)
  have n2_ := Aside0.mk (below_step (by repeat (first | (with_reducible first | exact HB.out | apply below_alloc | apply pw_below_drewN | apply below_drew1 | refine below_set ?_ GE101.out | refine below_set ?_ GE102.out) | exact HB.out)) hb)
  clear BK101
  clear BK102
  clear HB
  have BK101 := n0_
  have BK102 := n1_
  have HB := n2_
  clear n0_ n1_ n2_
  (try clear hb)
  (try clear hb2)
  (try clear hk)
  (try clear hi)
  refine hK.out _ _ ⟨(blk_cell BK101.out 0).trans rfl, (blk_cell BK102.out 0).trans rfl⟩ (fun hHeld => ?_)
  clear hK K
  refine norm_ (a' := ?_) ?_ ?_
  rotate_left
  next =>
   show Act.put _ (some 13) _ = _
   simp only [Act.put, yay, yby, ycy, i64_w, i32_w]
   rfl
  refine pure_ (i := 5) (N := some 14) (v := ?_) (a' := ?_) #[true, true, true, true, true, true, false, false, false, false, false, false, false, false, false, false, false, false, false, false, false] rfl rfl (any_of HT_.out (by kernel_rfl)) (fun _ _ _ h => h) (Or.inl ⟨by rfl, ?_⟩) ?_ ?_
  rotate_left
  next =>
   intro w'
   go_simp
   with_reducible rfl
  rotate_left
  next =>
   simp only [Act.put, yay, yby, ycy, i64_w, i32_w]
   rfl
  refine pure_ (i := 6) (N := some 15) (v := ?_) (a' := ?_) #[true, true, true, true, true, true, true, false, false, false, false, false, false, false, false, false, false, false, false, false, false] rfl rfl (any_of HT_.out (by kernel_rfl)) (fun _ _ _ h => h) (Or.inl ⟨by rfl, ?_⟩) ?_ ?_
  rotate_left
  next =>
   intro w'
   go_simp
   with_reducible rfl
  rotate_left
  next =>
   simp only [Act.put, yay, yby, ycy, i64_w, i32_w]
   rfl
  refine pure_ (i := 8) (N := some 17) (v := ?_) (a' := ?_) #[true, true, true, true, true, true, true, false, true, false, false, false, false, false, false, false, false, false, false, false, false] rfl rfl (any_of HT_.out (by kernel_rfl)) (fun _ _ _ h => h) (Or.inl ⟨by rfl, ?_⟩) ?_ ?_
  rotate_left
  next =>
   intro w'
   go_simp
   with_reducible rfl
  rotate_left
  next =>
   simp only [Act.put, yay, yby, ycy, i64_w, i32_w]
   rfl
  refine pure_ (i := 9) (N := some 18) (v := ?_) (a' := ?_) #[true, true, true, true, true, true, true, false, true, true, false, false, false, false, false, false, false, false, false, false, false] rfl rfl (any_of HT_.out (by kernel_rfl)) (fun _ _ _ h => h) (Or.inl ⟨by rfl, ?_⟩) ?_ ?_
  rotate_left
  next =>
   intro w'
   go_simp
   with_reducible rfl
  rotate_left
  next =>
   simp only [Act.put, yay, yby, ycy, i64_w, i32_w]
   rfl
  refine take_ (i := 7) (N := some 16) (v := ?_) (a' := ?_) #[true, true, true, true, true, true, true, true, true, true, false, false, false, false, false, false, false, false, false, false, false] rfl rfl (take_ofW HT_.out HW_.out (by kernel_rfl)) (fun _ _ _ h => h) (Or.inl ⟨by rfl, ?_⟩) hHeld ?_ ?_
  rotate_left
  next =>
   rintro w' ⟨s0, s1⟩
   go_simp
   with_reducible rfl
  rotate_left
  next =>
   simp only [Act.put, yay, yby, ycy, i64_w, i32_w]
   rfl
  refine one_ (i := 10) (N := some 19) #[true, true, true, true, true, true, true, true, true, true, true, false, false, false, false, false, false, false, false, false, false] rfl rfl (one_of HT_.out (by kernel_rfl)) (by decide) (fun K hK => ?_)
  refine goes_ Try.func84 (by kernel_rfl) rfl #[.agg #[.slice A0_0 l0_0.length c0_0], .slice A2 l2.length c2, .slice A3 l3.length c3] (by rfl) rfl rfl (by (try simp only [yiy, yjy, yky]); first | done | rfl | (simp only [yly, ymy]; rfl)) ?_
  with_reducible refine (spec_l07Labels.calls k _ _ l0_0 _ _ l2 _ _ l3 false _ ?side1 ?side2 ?side3 ?side4 ?side5 ?side6 A9.out).mono ?_
  (case side1 => repeat (first | exact (Kd.C_below HR0_0.out HB.out) | (with_reducible refine Kd.C_alloc ?_ _) | (with_reducible refine Kd.C_drewN ?_ _) | (with_reducible refine Kd.C_drew ?_)))
  (case side2 => exact HC0_0.out)
  (case side3 => repeat (first | exact (Kd.C_below HR2.out HB.out) | (with_reducible refine Kd.C_alloc ?_ _) | (with_reducible refine Kd.C_drewN ?_ _) | (with_reducible refine Kd.C_drew ?_)))
  (case side4 => exact HC2.out)
  (case side5 => repeat (first | exact (Kd.C_below HR3.out HB.out) | (with_reducible refine Kd.C_alloc ?_ _) | (with_reducible refine Kd.C_drewN ?_ _) | (with_reducible refine Kd.C_drew ?_)))
  (case side6 => exact HC3.out)
  rintro e w27 ⟨rfl, hb⟩
  refine ⟨_, rfl, ?_⟩
  have n0_ := Aside0.mk (blk_below (g := gb101) (o := .cells #[.slice A0_0 l0_0.length c0_0] 28 (0, 0)) (by (with_reducible repeat (first | refine blk_drewN ?_ _ | refine blk_drew ?_ | refine blk_alloc ?_ _)); exact BK101.out) hb)
  have n1_ := Aside0.mk (blk_below (g := gb102) (o := .cells #[.slice A1_0 l1_0.length c1_0] 28 (0, 0)) (by (with_reducible repeat (first | refine blk_drewN ?_ _ | refine blk_drew ?_ | refine blk_alloc ?_ _)); exact BK102.out) hb)
  have n2_ := Aside0.mk (below_step (by repeat (first | (with_reducible first | exact HB.out | apply below_alloc | apply pw_below_drewN | apply below_drew1 | refine below_set ?_ GE101.out | refine below_set ?_ GE102.out) | exact HB.out)) hb)
  clear BK101
  clear BK102
  clear HB
  have BK101 := n0_
  have BK102 := n1_
  have HB := n2_
  clear n0_ n1_ n2_
  (try clear hb)
  (try clear hb2)
  (try clear hk)
  (try clear hi)
  refine hK.out _ _ ⟨(blk_cell BK101.out 0).trans rfl, (blk_cell BK102.out 0).trans rfl⟩ (fun hHeld => ?_)
  clear hK K
  refine norm_ (a' := ?_) ?_ ?_
  rotate_left
  next =>
   show Act.put _ (some 19) _ = _
   simp only [Act.put, yay, yby, ycy, i64_w, i32_w]
   rfl
  refine pure_ (i := 11) (N := some 20) (v := ?_) (a' := ?_) #[true, true, true, true, true, true, true, true, true, true, true, true, false, false, false, false, false, false, false, false, false] rfl rfl (any_of HT_.out (by kernel_rfl)) (fun _ _ _ h => h) (Or.inl ⟨by rfl, ?_⟩) ?_ ?_
  rotate_left
  next =>
   intro w'
   go_simp
   with_reducible rfl
  rotate_left
  next =>
   simp only [Act.put, yay, yby, ycy, i64_w, i32_w]
   rfl
  refine pure_ (i := 12) (N := some 21) (v := ?_) (a' := ?_) #[true, true, true, true, true, true, true, true, true, true, true, true, true, false, false, false, false, false, false, false, false] rfl rfl (any_of HT_.out (by kernel_rfl)) (fun _ _ _ h => h) (Or.inl ⟨by rfl, ?_⟩) ?_ ?_
  rotate_left
  next =>
   intro w'
   go_simp
   with_reducible rfl
  rotate_left
  next =>
   simp only [Act.put, yay, yby, ycy, i64_w, i32_w]
   rfl
  refine pure_ (i := 13) (N := some 22) (v := undef) (a' := ?_) #[true, true, true, true, true, true, true, true, true, true, true, true, true, true, false, false, false, false, false, false, false] rfl rfl (any_of HT_.out (by kernel_rfl)) (fun _ _ _ h => h) (Or.inr ⟨by rfl, rfl⟩) ?_ ?_
  rotate_left
  next =>
   simp only [Act.put, yay, yby, ycy, i64_w, i32_w]
   rfl
  refine pure_ (i := 14) (N := some 23) (v := undef) (a' := ?_) #[true, true, true, true, true, true, true, true, true, true, true, true, true, true, true, false, false, false, false, false, false] rfl rfl (any_of HT_.out (by kernel_rfl)) (fun _ _ _ h => h) (Or.inr ⟨by rfl, rfl⟩) ?_ ?_
  rotate_left
  next =>
   simp only [Act.put, yay, yby, ycy, i64_w, i32_w]
   rfl
  refine pure_ (i := 15) (N := some 24) (v := undef) (a' := ?_) #[true, true, true, true, true, true, true, true, true, true, true, true, true, true, true, true, false, false, false, false, false] rfl rfl (any_of HT_.out (by kernel_rfl)) (fun _ _ _ h => h) (Or.inr ⟨by rfl, rfl⟩) ?_ ?_
  rotate_left
  next =>
   simp only [Act.put, yay, yby, ycy, i64_w, i32_w]
   rfl
  refine pure_ (i := 16) (N := some 25) (v := undef) (a' := ?_) #[true, true, true, true, true, true, true, true, true, true, true, true, true, true, true, true, true, false, false, false, false] rfl rfl (any_of HT_.out (by kernel_rfl)) (fun _ _ _ h => h) (Or.inr ⟨by rfl, rfl⟩) ?_ ?_
  rotate_left
  next =>
   simp only [Act.put, yay, yby, ycy, i64_w, i32_w]
   rfl
  refine pure_ (i := 17) (N := some 26) (v := undef) (a' := ?_) #[true, true, true, true, true, true, true, true, true, true, true, true, true, true, true, true, true, true, false, false, false] rfl rfl (any_of HT_.out (by kernel_rfl)) (fun _ _ _ h => h) (Or.inr ⟨by rfl, rfl⟩) ?_ ?_
  rotate_left
  next =>
   simp only [Act.put, yay, yby, ycy, i64_w, i32_w]
   rfl
  refine pure_ (i := 18) (N := some 27) (v := undef) (a' := ?_) #[true, true, true, true, true, true, true, true, true, true, true, true, true, true, true, true, true, true, true, false, false] rfl rfl (any_of HT_.out (by kernel_rfl)) (fun _ _ _ h => h) (Or.inr ⟨by rfl, rfl⟩) ?_ ?_
  rotate_left
  next =>
   simp only [Act.put, yay, yby, ycy, i64_w, i32_w]
   rfl
  refine pure_ (i := 19) (N := some 28) (v := ?_) (a' := ?_) #[true, true, true, true, true, true, true, true, true, true, true, true, true, true, true, true, true, true, true, true, false] rfl rfl (any_of HT_.out (by kernel_rfl)) (fun _ _ _ h => h) (Or.inl ⟨by rfl, ?_⟩) ?_ ?_
  rotate_left
  next =>
   intro w'
   go_simp
   with_reducible rfl
  rotate_left
  next =>
   simp only [Act.put, yay, yby, ycy, i64_w, i32_w]
   rfl
  refine pure_ (i := 20) (N := some 8) (v := ?_) (a' := ?_) #[true, true, true, true, true, true, true, true, true, true, true, true, true, true, true, true, true, true, true, true, true] rfl rfl (any_of HT_.out (by kernel_rfl)) (fun _ _ _ h => h) (Or.inl ⟨by rfl, ?_⟩) ?_ ?_
  rotate_left
  next =>
   intro w'
   go_simp
   with_reducible rfl
  rotate_left
  next =>
   simp only [Act.put, yay, yby, ycy, i64_w, i32_w]
   rfl
  refine done_ (done_of HT_.out (by kernel_rfl)) ?_
  try go_wp2
  go_ret
  exact ⟨by first | rfl | (simp [errW_none, errW_some] <;> rfl) | (simp [*, errW_none, errW_some] <;> rfl), by repeat (first | (with_reducible first | exact HB.out | apply below_alloc | apply pw_below_drewN | apply below_drew1 | refine below_set ?_ GE101.out | refine below_set ?_ GE102.out) | exact HB.out)⟩
 subst c10
 have H1 : ((spec_l07Relabel.f k l0_0 l2 l3).bind fun t106 => ((spec_l11Equal.f k t106 l1_0).bind fun t109 => (some t109))) = some r := by rw [if_pos rfl] at H; exact H
 clear H
 have H := H1
 clear H1
 replace H := ydy.mp H
 obtain ⟨t106, A110, H⟩ := H
 replace H : ((spec_l11Equal.f k t106 l1_0).bind fun t109 => (some t109)) = some r := H
 have A11 := Aside0.mk A110
 clear A110
 replace H := ydy.mp H
 obtain ⟨t109, A120, H⟩ := H
 replace H : (some t109) = some r := H
 have A12 := Aside0.mk A120
 clear A120
 obtain rfl := yey H
 go_enter Try.func39, Try.ntmps39
 try go_wp2_with (first | ((with_reducible refine gate_dst (N := 4) rfl ?_); refine box_event ?hg (N := 4) ?hd (cs := #[.slice A0_0 l0_0.length c0_0]) (t := 28) ?hr ?_; (case hd => rfl); (case hg => rfl); (case hr => first | (go_simp; done) | (go_simp; rfl)); intro gb101 hg w13 hbox hb; have n0_ := Aside0.mk (below_step (by repeat (first | (with_reducible first | exact HB.out | apply below_alloc | apply pw_below_drewN | apply below_drew1) | exact HB.out)) hb); have n1_ := Aside0.mk (hbox); have n2_ := Aside0.mk ((by rw [hg]; exact (below_size (by repeat (first | (with_reducible first | exact HB.out | apply below_alloc | apply pw_below_drewN | apply below_drew1) | exact HB.out))) : w.heap.size ≤ gb101)); have n3_ := Aside0.mk ((by rw [hg]; exact (below_size (by repeat (first | (with_reducible first | exact HB.out | apply below_alloc | apply pw_below_drewN | apply below_drew1) | exact HB.out))) : w.heap.size ≤ gb101)); clear HB; have HB := n0_; have BK101 := n1_; have GW101 := n2_; have GE101 := n3_; clear n0_ n1_ n2_ n3_; clear hb hbox hg) | ((with_reducible refine gate_dst (N := 5) rfl ?_); refine box_event ?hg (N := 5) ?hd (cs := #[.slice A1_0 l1_0.length c1_0]) (t := 28) ?hr ?_; (case hd => rfl); (case hg => rfl); (case hr => first | (go_simp; done) | (go_simp; rfl)); intro gb102 hg w14 hbox hb; have n0_ := Aside0.mk (blk_below (g := gb101) (o := .cells #[.slice A0_0 l0_0.length c0_0] 28 (0, 0)) (by (with_reducible repeat (first | refine blk_drewN ?_ _ | refine blk_drew ?_ | refine blk_alloc ?_ _)); exact BK101.out) hb); have n1_ := Aside0.mk (below_step (by repeat (first | (with_reducible first | exact HB.out | apply below_alloc | apply pw_below_drewN | apply below_drew1 | refine below_set ?_ GE101.out) | exact HB.out)) hb); have n2_ := Aside0.mk (hbox); have n3_ := Aside0.mk ((by rw [hg]; exact (below_size (by repeat (first | (with_reducible first | exact HB.out | apply below_alloc | apply pw_below_drewN | apply below_drew1 | refine below_set ?_ GE101.out) | exact HB.out))) : w.heap.size ≤ gb102)); have n4_ := Aside0.mk ((by rw [hg]; exact (below_size (by repeat (first | (with_reducible first | exact HB.out | apply below_alloc | apply pw_below_drewN | apply below_drew1 | refine below_set ?_ GE101.out) | exact HB.out))) : w.heap.size ≤ gb102)); have n5_ := Aside0.mk ((by rw [hg]; exact Nat.ne_of_lt (blk_lt (g := gb101) (o := .cells #[.slice A0_0 l0_0.length c0_0] 28 (0, 0)) (by (with_reducible repeat (first | refine blk_drewN ?_ _ | refine blk_drew ?_ | refine blk_alloc ?_ _)); exact BK101.out)) : gb101 ≠ gb102)); have n6_ := Aside0.mk ((by rw [hg]; exact Nat.ne_of_gt (blk_lt (g := gb101) (o := .cells #[.slice A0_0 l0_0.length c0_0] 28 (0, 0)) (by (with_reducible repeat (first | refine blk_drewN ?_ _ | refine blk_drew ?_ | refine blk_alloc ?_ _)); exact BK101.out)) : gb102 ≠ gb101)); clear BK101; clear HB; have BK101 := n0_; have HB := n1_; have BK102 := n2_; have GW102 := n3_; have GE102 := n4_; have NB101_102 := n5_; have NB102_101 := n6_; clear n0_ n1_ n2_ n3_ n4_ n5_ n6_; clear hb hbox hg))
 have n0_ := Aside0.mk (blk_drew BK101.out)
 have n1_ := Aside0.mk (blk_drew BK102.out)
 have n2_ := Aside0.mk (below_drew1 HB.out)
 clear BK101
 clear BK102
 clear HB
 have BK101 := n0_
 have BK102 := n1_
 have HB := n2_
 clear n0_ n1_ n2_
 refine start_ (n := 21) (S := fun w' => w'.cell? ⟨gb101, 0, none⟩ = some (.slice A0_0 l0_0.length c0_0) ∧ w'.cell? ⟨gb102, 0, none⟩ = some (.slice A1_0 l1_0.length c1_0)) (ds := []) #[false, false, false, false, false, false, false, false, false, false, false, false, false, false, false, false, false, false, false, false, false] (by kernel_rfl) rfl rfl ⟨(blk_cell BK101.out 0).trans rfl, (blk_cell BK102.out 0).trans rfl⟩ (fun hHeld => ?_); refine with_tabW spec_IsIsomorphism.tab1 spec_IsIsomorphism.bits1 (fun HT_ HW_ => ?_)
 generalize w14.drew = w15 at BK101 BK102 HB hHeld ⊢
 refine take_ (i := 0) (N := some 9) (v := ?_) (a' := ?_) #[true, false, false, false, false, false, false, false, false, false, false, false, false, false, false, false, false, false, false, false, false] rfl rfl (take_ofW HT_.out HW_.out (by kernel_rfl)) (fun _ _ _ h => h) (Or.inl ⟨by rfl, ?_⟩) hHeld ?_ ?_
 rotate_left
 next =>
  rintro w' ⟨s0, s1⟩
  go_simp
  with_reducible rfl
 rotate_left
 next =>
  simp only [Act.put, yay, yby, ycy, i64_w, i32_w]
  rfl
 refine one_ (i := 1) (N := some 10) #[true, true, false, false, false, false, false, false, false, false, false, false, false, false, false, false, false, false, false, false, false] rfl rfl (one_of HT_.out (by kernel_rfl)) (by decide) (fun K hK => ?_)
 refine goes_ Try.func52 (by kernel_rfl) rfl #[.agg #[.slice A0_0 l0_0.length c0_0]] (by rfl) rfl rfl (by (try simp only [yiy, yjy, yky]); first | done | rfl | (simp only [yly, ymy]; rfl)) ?_
 with_reducible refine (spec_IsTriangulation.calls k _ _ l0_0 true _ ?side1 ?side2 A5.out).mono ?_
 (case side1 => repeat (first | exact (Kd.C_below HR0_0.out HB.out) | (with_reducible refine Kd.C_alloc ?_ _) | (with_reducible refine Kd.C_drewN ?_ _) | (with_reducible refine Kd.C_drew ?_)))
 (case side2 => exact HC0_0.out)
 rintro e w16 ⟨rfl, hb⟩
 refine ⟨_, rfl, ?_⟩
 have n0_ := Aside0.mk (blk_below (g := gb101) (o := .cells #[.slice A0_0 l0_0.length c0_0] 28 (0, 0)) (by (with_reducible repeat (first | refine blk_drewN ?_ _ | refine blk_drew ?_ | refine blk_alloc ?_ _)); exact BK101.out) hb)
 have n1_ := Aside0.mk (blk_below (g := gb102) (o := .cells #[.slice A1_0 l1_0.length c1_0] 28 (0, 0)) (by (with_reducible repeat (first | refine blk_drewN ?_ _ | refine blk_drew ?_ | refine blk_alloc ?_ _)); exact BK102.out) hb)
 have n2_ := Aside0.mk (below_step (by repeat (first | (with_reducible first | exact HB.out | apply below_alloc | apply pw_below_drewN | apply below_drew1 | refine below_set ?_ GE101.out | refine below_set ?_ GE102.out) | exact HB.out)) hb)
 clear BK101
 clear BK102
 clear HB
 have BK101 := n0_
 have BK102 := n1_
 have HB := n2_
 clear n0_ n1_ n2_
 (try clear hb)
 (try clear hb2)
 (try clear hk)
 (try clear hi)
 refine hK.out _ _ ⟨(blk_cell BK101.out 0).trans rfl, (blk_cell BK102.out 0).trans rfl⟩ (fun hHeld => ?_)
 clear hK K
 refine norm_ (a' := ?_) ?_ ?_
 rotate_left
 next =>
  show Act.put _ (some 10) _ = _
  simp only [Act.put, yay, yby, ycy, i64_w, i32_w]
  rfl
 refine pure_ (i := 2) (N := some 11) (v := ?_) (a' := ?_) #[true, true, true, false, false, false, false, false, false, false, false, false, false, false, false, false, false, false, false, false, false] rfl rfl (any_of HT_.out (by kernel_rfl)) (fun _ _ _ h => h) (Or.inl ⟨by rfl, ?_⟩) ?_ ?_
 rotate_left
 next =>
  intro w'
  go_simp
  with_reducible rfl
 rotate_left
 next =>
  simp only [Act.put, yay, yby, ycy, i64_w, i32_w]
  rfl
 refine take_ (i := 3) (N := some 12) (v := ?_) (a' := ?_) #[true, true, true, true, false, false, false, false, false, false, false, false, false, false, false, false, false, false, false, false, false] rfl rfl (take_ofW HT_.out HW_.out (by kernel_rfl)) (fun _ _ _ h => h) (Or.inl ⟨by rfl, ?_⟩) hHeld ?_ ?_
 rotate_left
 next =>
  rintro w' ⟨s0, s1⟩
  go_simp
  with_reducible rfl
 rotate_left
 next =>
  simp only [Act.put, yay, yby, ycy, i64_w, i32_w]
  rfl
 refine one_ (i := 4) (N := some 13) #[true, true, true, true, true, false, false, false, false, false, false, false, false, false, false, false, false, false, false, false, false] rfl rfl (one_of HT_.out (by kernel_rfl)) (by decide) (fun K hK => ?_)
 refine goes_ Try.func52 (by kernel_rfl) rfl #[.agg #[.slice A1_0 l1_0.length c1_0]] (by rfl) rfl rfl (by (try simp only [yiy, yjy, yky]); first | done | rfl | (simp only [yly, ymy]; rfl)) ?_
 with_reducible refine (spec_IsTriangulation.calls k _ _ l1_0 true _ ?side1 ?side2 A7.out).mono ?_
 (case side1 => repeat (first | exact (Kd.C_below HR1_0.out HB.out) | (with_reducible refine Kd.C_alloc ?_ _) | (with_reducible refine Kd.C_drewN ?_ _) | (with_reducible refine Kd.C_drew ?_)))
 (case side2 => exact HC1_0.out)
 rintro e w17 ⟨rfl, hb⟩
 refine ⟨_, rfl, ?_⟩
 have n0_ := Aside0.mk (blk_below (g := gb101) (o := .cells #[.slice A0_0 l0_0.length c0_0] 28 (0, 0)) (by (with_reducible repeat (first | refine blk_drewN ?_ _ | refine blk_drew ?_ | refine blk_alloc ?_ _)); exact BK101.out) hb)
 have n1_ := Aside0.mk (blk_below (g := gb102) (o := .cells #[.slice A1_0 l1_0.length c1_0] 28 (0, 0)) (by (with_reducible repeat (first | refine blk_drewN ?_ _ | refine blk_drew ?_ | refine blk_alloc ?_ _)); exact BK102.out) hb)
 have n2_ := Aside0.mk (below_step (by repeat (first | (with_reducible first | exact HB.out | apply below_alloc | apply pw_below_drewN | apply below_drew1 | refine below_set ?_ GE101.out | refine below_set ?_ GE102.out) | exact HB.out)) hb)
 clear BK101
 clear BK102
 clear HB
 have BK101 := n0_
 have BK102 := n1_
 have HB := n2_
 clear n0_ n1_ n2_
 (try clear hb)
 (try clear hb2)
 (try clear hk)
 (try clear hi)
 refine hK.out _ _ ⟨(blk_cell BK101.out 0).trans rfl, (blk_cell BK102.out 0).trans rfl⟩ (fun hHeld => ?_)
 clear hK K
 refine norm_ (a' := ?_) ?_ ?_
 rotate_left
 next =>
  show Act.put _ (some 13) _ = _
  simp only [Act.put, yay, yby, ycy, i64_w, i32_w]
  rfl
 refine pure_ (i := 5) (N := some 14) (v := ?_) (a' := ?_) #[true, true, true, true, true, true, false, false, false, false, false, false, false, false, false, false, false, false, false, false, false] rfl rfl (any_of HT_.out (by kernel_rfl)) (fun _ _ _ h => h) (Or.inl ⟨by rfl, ?_⟩) ?_ ?_
 rotate_left
 next =>
  intro w'
  go_simp
  with_reducible rfl
 rotate_left
 next =>
  simp only [Act.put, yay, yby, ycy, i64_w, i32_w]
  rfl
 refine pure_ (i := 6) (N := some 15) (v := ?_) (a' := ?_) #[true, true, true, true, true, true, true, false, false, false, false, false, false, false, false, false, false, false, false, false, false] rfl rfl (any_of HT_.out (by kernel_rfl)) (fun _ _ _ h => h) (Or.inl ⟨by rfl, ?_⟩) ?_ ?_
 rotate_left
 next =>
  intro w'
  go_simp
  with_reducible rfl
 rotate_left
 next =>
  simp only [Act.put, yay, yby, ycy, i64_w, i32_w]
  rfl
 refine pure_ (i := 8) (N := some 17) (v := ?_) (a' := ?_) #[true, true, true, true, true, true, true, false, true, false, false, false, false, false, false, false, false, false, false, false, false] rfl rfl (any_of HT_.out (by kernel_rfl)) (fun _ _ _ h => h) (Or.inl ⟨by rfl, ?_⟩) ?_ ?_
 rotate_left
 next =>
  intro w'
  go_simp
  with_reducible rfl
 rotate_left
 next =>
  simp only [Act.put, yay, yby, ycy, i64_w, i32_w]
  rfl
 refine pure_ (i := 9) (N := some 18) (v := ?_) (a' := ?_) #[true, true, true, true, true, true, true, false, true, true, false, false, false, false, false, false, false, false, false, false, false] rfl rfl (any_of HT_.out (by kernel_rfl)) (fun _ _ _ h => h) (Or.inl ⟨by rfl, ?_⟩) ?_ ?_
 rotate_left
 next =>
  intro w'
  go_simp
  with_reducible rfl
 rotate_left
 next =>
  simp only [Act.put, yay, yby, ycy, i64_w, i32_w]
  rfl
 refine take_ (i := 7) (N := some 16) (v := ?_) (a' := ?_) #[true, true, true, true, true, true, true, true, true, true, false, false, false, false, false, false, false, false, false, false, false] rfl rfl (take_ofW HT_.out HW_.out (by kernel_rfl)) (fun _ _ _ h => h) (Or.inl ⟨by rfl, ?_⟩) hHeld ?_ ?_
 rotate_left
 next =>
  rintro w' ⟨s0, s1⟩
  go_simp
  with_reducible rfl
 rotate_left
 next =>
  simp only [Act.put, yay, yby, ycy, i64_w, i32_w]
  rfl
 refine one_ (i := 10) (N := some 19) #[true, true, true, true, true, true, true, true, true, true, true, false, false, false, false, false, false, false, false, false, false] rfl rfl (one_of HT_.out (by kernel_rfl)) (by decide) (fun K hK => ?_)
 refine goes_ Try.func84 (by kernel_rfl) rfl #[.agg #[.slice A0_0 l0_0.length c0_0], .slice A2 l2.length c2, .slice A3 l3.length c3] (by rfl) rfl rfl (by (try simp only [yiy, yjy, yky]); first | done | rfl | (simp only [yly, ymy]; rfl)) ?_
 with_reducible refine (spec_l07Labels.calls k _ _ l0_0 _ _ l2 _ _ l3 true _ ?side1 ?side2 ?side3 ?side4 ?side5 ?side6 A9.out).mono ?_
 (case side1 => repeat (first | exact (Kd.C_below HR0_0.out HB.out) | (with_reducible refine Kd.C_alloc ?_ _) | (with_reducible refine Kd.C_drewN ?_ _) | (with_reducible refine Kd.C_drew ?_)))
 (case side2 => exact HC0_0.out)
 (case side3 => repeat (first | exact (Kd.C_below HR2.out HB.out) | (with_reducible refine Kd.C_alloc ?_ _) | (with_reducible refine Kd.C_drewN ?_ _) | (with_reducible refine Kd.C_drew ?_)))
 (case side4 => exact HC2.out)
 (case side5 => repeat (first | exact (Kd.C_below HR3.out HB.out) | (with_reducible refine Kd.C_alloc ?_ _) | (with_reducible refine Kd.C_drewN ?_ _) | (with_reducible refine Kd.C_drew ?_)))
 (case side6 => exact HC3.out)
 rintro e w18 ⟨rfl, hb⟩
 refine ⟨_, rfl, ?_⟩
 have n0_ := Aside0.mk (blk_below (g := gb101) (o := .cells #[.slice A0_0 l0_0.length c0_0] 28 (0, 0)) (by (with_reducible repeat (first | refine blk_drewN ?_ _ | refine blk_drew ?_ | refine blk_alloc ?_ _)); exact BK101.out) hb)
 have n1_ := Aside0.mk (blk_below (g := gb102) (o := .cells #[.slice A1_0 l1_0.length c1_0] 28 (0, 0)) (by (with_reducible repeat (first | refine blk_drewN ?_ _ | refine blk_drew ?_ | refine blk_alloc ?_ _)); exact BK102.out) hb)
 have n2_ := Aside0.mk (below_step (by repeat (first | (with_reducible first | exact HB.out | apply below_alloc | apply pw_below_drewN | apply below_drew1 | refine below_set ?_ GE101.out | refine below_set ?_ GE102.out) | exact HB.out)) hb)
 clear BK101
 clear BK102
 clear HB
 have BK101 := n0_
 have BK102 := n1_
 have HB := n2_
 clear n0_ n1_ n2_
 (try clear hb)
 (try clear hb2)
 (try clear hk)
 (try clear hi)
 refine hK.out _ _ ⟨(blk_cell BK101.out 0).trans rfl, (blk_cell BK102.out 0).trans rfl⟩ (fun hHeld => ?_)
 clear hK K
 refine norm_ (a' := ?_) ?_ ?_
 rotate_left
 next =>
  show Act.put _ (some 19) _ = _
  simp only [Act.put, yay, yby, ycy, i64_w, i32_w]
  rfl
 refine pure_ (i := 11) (N := some 20) (v := ?_) (a' := ?_) #[true, true, true, true, true, true, true, true, true, true, true, true, false, false, false, false, false, false, false, false, false] rfl rfl (any_of HT_.out (by kernel_rfl)) (fun _ _ _ h => h) (Or.inl ⟨by rfl, ?_⟩) ?_ ?_
 rotate_left
 next =>
  intro w'
  go_simp
  with_reducible rfl
 rotate_left
 next =>
  simp only [Act.put, yay, yby, ycy, i64_w, i32_w]
  rfl
 refine pure_ (i := 12) (N := some 21) (v := ?_) (a' := ?_) #[true, true, true, true, true, true, true, true, true, true, true, true, true, false, false, false, false, false, false, false, false] rfl rfl (any_of HT_.out (by kernel_rfl)) (fun _ _ _ h => h) (Or.inl ⟨by rfl, ?_⟩) ?_ ?_
 rotate_left
 next =>
  intro w'
  go_simp
  with_reducible rfl
 rotate_left
 next =>
  simp only [Act.put, yay, yby, ycy, i64_w, i32_w]
  rfl
 refine pure_ (i := 14) (N := some 23) (v := ?_) (a' := ?_) #[true, true, true, true, true, true, true, true, true, true, true, true, true, false, true, false, false, false, false, false, false] rfl rfl (any_of HT_.out (by kernel_rfl)) (fun _ _ _ h => h) (Or.inl ⟨by rfl, ?_⟩) ?_ ?_
 rotate_left
 next =>
  intro w'
  go_simp
  with_reducible rfl
 rotate_left
 next =>
  simp only [Act.put, yay, yby, ycy, i64_w, i32_w]
  rfl
 refine pure_ (i := 15) (N := some 24) (v := ?_) (a' := ?_) #[true, true, true, true, true, true, true, true, true, true, true, true, true, false, true, true, false, false, false, false, false] rfl rfl (any_of HT_.out (by kernel_rfl)) (fun _ _ _ h => h) (Or.inl ⟨by rfl, ?_⟩) ?_ ?_
 rotate_left
 next =>
  intro w'
  go_simp
  with_reducible rfl
 rotate_left
 next =>
  simp only [Act.put, yay, yby, ycy, i64_w, i32_w]
  rfl
 refine take_ (i := 13) (N := some 22) (v := ?_) (a' := ?_) #[true, true, true, true, true, true, true, true, true, true, true, true, true, true, true, true, false, false, false, false, false] rfl rfl (take_ofW HT_.out HW_.out (by kernel_rfl)) (fun _ _ _ h => h) (Or.inl ⟨by rfl, ?_⟩) hHeld ?_ ?_
 rotate_left
 next =>
  rintro w' ⟨s0, s1⟩
  go_simp
  with_reducible rfl
 rotate_left
 next =>
  simp only [Act.put, yay, yby, ycy, i64_w, i32_w]
  rfl
 refine take_ (i := 17) (N := some 26) (v := ?_) (a' := ?_) #[true, true, true, true, true, true, true, true, true, true, true, true, true, true, true, true, false, true, false, false, false] rfl rfl (take_ofW HT_.out HW_.out (by kernel_rfl)) (fun _ _ _ h => h) (Or.inl ⟨by rfl, ?_⟩) hHeld ?_ ?_
 rotate_left
 next =>
  rintro w' ⟨s0, s1⟩
  go_simp
  with_reducible rfl
 rotate_left
 next =>
  simp only [Act.put, yay, yby, ycy, i64_w, i32_w]
  rfl
 refine one_ (i := 16) (N := some 25) #[true, true, true, true, true, true, true, true, true, true, true, true, true, true, true, true, true, true, false, false, false] rfl rfl (one_of HT_.out (by kernel_rfl)) (by decide) (fun K hK => ?_)
 refine goes_ Try.func85 (by kernel_rfl) rfl #[.agg #[.slice A0_0 l0_0.length c0_0], .slice A2 l2.length c2, .slice A3 l3.length c3] (by rfl) rfl rfl (by (try simp only [yiy, yjy, yky]); first | done | rfl | (simp only [yly, ymy]; rfl)) ?_
 with_reducible refine (spec_l07Relabel.calls k _ _ l0_0 _ _ l2 _ _ l3 t106 _ ?side1 ?side2 ?side3 ?side4 ?side5 ?side6 A11.out).mono ?_
 (case side1 => repeat (first | exact (Kd.C_below HR0_0.out HB.out) | (with_reducible refine Kd.C_alloc ?_ _) | (with_reducible refine Kd.C_drewN ?_ _) | (with_reducible refine Kd.C_drew ?_)))
 (case side2 => exact HC0_0.out)
 (case side3 => repeat (first | exact (Kd.C_below HR2.out HB.out) | (with_reducible refine Kd.C_alloc ?_ _) | (with_reducible refine Kd.C_drewN ?_ _) | (with_reducible refine Kd.C_drew ?_)))
 (case side4 => exact HC2.out)
 (case side5 => repeat (first | exact (Kd.C_below HR3.out HB.out) | (with_reducible refine Kd.C_alloc ?_ _) | (with_reducible refine Kd.C_drewN ?_ _) | (with_reducible refine Kd.C_drew ?_)))
 (case side6 => exact HC3.out)
 rintro e w19 ⟨v107, rfl, ho0, hb⟩
 refine ⟨_, rfl, ?_⟩
 have n0_ := Aside0.mk (Kd.S_lower ho0 (below_size (by repeat (first | (with_reducible first | exact HB.out | apply below_alloc | apply pw_below_drewN | apply below_drew1 | refine below_set ?_ GE101.out | refine below_set ?_ GE102.out) | exact HB.out))))
 have n1_ := Aside0.mk (blk_below (g := gb101) (o := .cells #[.slice A0_0 l0_0.length c0_0] 28 (0, 0)) (by (with_reducible repeat (first | refine blk_drewN ?_ _ | refine blk_drew ?_ | refine blk_alloc ?_ _)); exact BK101.out) hb)
 have n2_ := Aside0.mk (blk_below (g := gb102) (o := .cells #[.slice A1_0 l1_0.length c1_0] 28 (0, 0)) (by (with_reducible repeat (first | refine blk_drewN ?_ _ | refine blk_drew ?_ | refine blk_alloc ?_ _)); exact BK102.out) hb)
 have n3_ := Aside0.mk (below_step (by repeat (first | (with_reducible first | exact HB.out | apply below_alloc | apply pw_below_drewN | apply below_drew1 | refine below_set ?_ GE101.out | refine below_set ?_ GE102.out) | exact HB.out)) hb)
 clear BK101
 clear BK102
 clear HB
 have HO108 := n0_
 have BK101 := n1_
 have BK102 := n2_
 have HB := n3_
 clear n0_ n1_ n2_ n3_
 (try clear hb)
 (try clear hb2)
 (try clear hk)
 (try clear hi)
 (try clear ho0)
 obtain ⟨Ao20, co20, eo20⟩ := Kd.S_slice HO108.out
 (first | subst eo20 | (injection eo20 with f1_ f2_ f3_; have f4_ := f1_.symm; have f5_ := f3_.symm; clear f1_ f2_ f3_; subst f4_; subst f5_))
 refine hK.out _ _ ⟨(blk_cell BK101.out 0).trans rfl, (blk_cell BK102.out 0).trans rfl⟩ (fun hHeld => ?_)
 clear hK K
 refine norm_ (a' := ?_) ?_ ?_
 rotate_left
 next =>
  show Act.put _ (some 25) _ = _
  simp only [Act.put, yay, yby, ycy, i64_w, i32_w]
  rfl
 refine one_ (i := 18) (N := some 27) #[true, true, true, true, true, true, true, true, true, true, true, true, true, true, true, true, true, true, true, false, false] rfl rfl (one_of HT_.out (by kernel_rfl)) (by decide) (fun K hK => ?_)
 refine goes_ Try.func94 (by kernel_rfl) rfl #[.agg #[.slice Ao20 t106.length co20], .agg #[.slice A1_0 l1_0.length c1_0]] (by rfl) rfl rfl (by (try simp only [yiy, yjy, yky]); first | done | rfl | (simp only [yly, ymy]; rfl)) ?_
 with_reducible refine (spec_l11Equal.calls k _ _ t106 _ _ l1_0 t109 _ ?side1 ?side2 ?side3 ?side4 A12.out).mono ?_
 (case side1 => repeat (first | exact (Kd.S_reads' HO108.out).2.2 | (with_reducible refine Kd.C_alloc ?_ _) | (with_reducible refine Kd.C_drewN ?_ _) | (with_reducible refine Kd.C_drew ?_)))
 (case side2 => exact (Kd.S_reads' HO108.out).2.1)
 (case side3 => repeat (first | exact (Kd.C_below HR1_0.out HB.out) | (with_reducible refine Kd.C_alloc ?_ _) | (with_reducible refine Kd.C_drewN ?_ _) | (with_reducible refine Kd.C_drew ?_)))
 (case side4 => exact HC1_0.out)
 rintro e w21 ⟨rfl, hb⟩
 refine ⟨_, rfl, ?_⟩
 have n0_ := Aside0.mk (Kd.S_below (by (with_reducible repeat (first | apply Kd.S_alloc | apply Kd.S_drewN | apply Kd.S_drew)); exact HO108.out) hb)
 have n1_ := Aside0.mk (blk_below (g := gb101) (o := .cells #[.slice A0_0 l0_0.length c0_0] 28 (0, 0)) (by (with_reducible repeat (first | refine blk_drewN ?_ _ | refine blk_drew ?_ | refine blk_alloc ?_ _)); exact BK101.out) hb)
 have n2_ := Aside0.mk (blk_below (g := gb102) (o := .cells #[.slice A1_0 l1_0.length c1_0] 28 (0, 0)) (by (with_reducible repeat (first | refine blk_drewN ?_ _ | refine blk_drew ?_ | refine blk_alloc ?_ _)); exact BK102.out) hb)
 have n3_ := Aside0.mk (below_step (by repeat (first | (with_reducible first | exact HB.out | apply below_alloc | apply pw_below_drewN | apply below_drew1 | refine below_set ?_ GE101.out | refine below_set ?_ GE102.out) | exact HB.out)) hb)
 clear HO108
 clear BK101
 clear BK102
 clear HB
 have HO108 := n0_
 have BK101 := n1_
 have BK102 := n2_
 have HB := n3_
 clear n0_ n1_ n2_ n3_
 (try clear hb)
 (try clear hb2)
 (try clear hk)
 (try clear hi)
 refine hK.out _ _ ⟨(blk_cell BK101.out 0).trans rfl, (blk_cell BK102.out 0).trans rfl⟩ (fun hHeld => ?_)
 clear hK K
 refine norm_ (a' := ?_) ?_ ?_
 rotate_left
 next =>
  show Act.put _ (some 27) _ = _
  simp only [Act.put, yay, yby, ycy, i64_w, i32_w]
  rfl
 refine pure_ (i := 19) (N := some 28) (v := ?_) (a' := ?_) #[true, true, true, true, true, true, true, true, true, true, true, true, true, true, true, true, true, true, true, true, false] rfl rfl (any_of HT_.out (by kernel_rfl)) (fun _ _ _ h => h) (Or.inl ⟨by rfl, ?_⟩) ?_ ?_
 rotate_left
 next =>
  intro w'
  go_simp
  with_reducible rfl
 rotate_left
 next =>
  simp only [Act.put, yay, yby, ycy, i64_w, i32_w]
  rfl
 refine pure_ (i := 20) (N := some 8) (v := ?_) (a' := ?_) #[true, true, true, true, true, true, true, true, true, true, true, true, true, true, true, true, true, true, true, true, true] rfl rfl (any_of HT_.out (by kernel_rfl)) (fun _ _ _ h => h) (Or.inl ⟨by rfl, ?_⟩) ?_ ?_
 rotate_left
 next =>
  intro w'
  go_simp
  with_reducible rfl
 rotate_left
 next =>
  simp only [Act.put, yay, yby, ycy, i64_w, i32_w]
  rfl
 refine done_ (done_of HT_.out (by kernel_rfl)) ?_
 try go_wp2
 go_ret
 exact ⟨by first | rfl | (simp [errW_none, errW_some] <;> rfl) | (simp [*, errW_none, errW_some] <;> rfl), by repeat (first | (with_reducible first | exact HB.out | apply below_alloc | apply pw_below_drewN | apply below_drew1 | refine below_set ?_ GE101.out | refine below_set ?_ GE102.out) | exact HB.out)⟩
end Go.Proofs.Ytdgdnnjigigkcaa.P
namespace Go.Proofs.Ytdgdnnjigigkcaa.Lib
open Go.RowKit Go.Proofs.YtdgdnnjigigkcaaW.PrintWords
set_option linter.unusedVariables false
section
variable {α : Type} {d : Kd α} {e b lo hi lo2 hi2 T : Nat} {w w' W : World} {v : Value} {xs ys : List α}
/-- A row of rows of the walk's own (all of it made from b on), its blocks from lo on and before hi. -/
def ObS (d : Kd α) (e b : Nat) (w : World) (lo hi : Nat) (v : Value) (xs : List α) : Prop := hi ≤ w.heap.size ∧ Kd.S d e w b (fun k => lo ≤ k ∧ k < hi) v xs
/-- The same for a row of scalars. -/
def ObR (d : Kd α) (e b : Nat) (w : World) (lo hi : Nat) (v : Value) (xs : List α) : Prop := hi ≤ w.heap.size ∧ Kd.R d e w b (fun k => lo ≤ k ∧ k < hi) v xs
theorem size_set (w : World) (g i : Nat) (u : Value) : w.heap.size ≤ (w.setCell ⟨g, i, none⟩ u).heap.size := ((ypy 0 w).setCell (Nat.zero_le _) u).size
theorem ObS.made (ho : Kd.S d e w' W.heap.size (fun _ => True) v xs) (hb : Below W.heap.size W w') (hT : T ≤ W.heap.size) (hB : b ≤ W.heap.size) : ∃ lo hi, (T ≤ lo ∧ lo ≤ hi) ∧ hi ≤ w'.heap.size ∧ ObS d e b w' lo hi v xs :=
  ⟨W.heap.size, w'.heap.size, ⟨hT, hb.size⟩, yoy _, yoy _, Kd.S_lower (Kd.S_mono (Kd.S_bound ho) (fun k hk => ⟨hk.2.1, hk.2.2.1⟩)) hB⟩
theorem ObR.made (ho : Kd.R d e w' W.heap.size (fun _ => True) v xs) (hb : Below W.heap.size W w') (hT : T ≤ W.heap.size) (hB : b ≤ W.heap.size) : ∃ lo hi, (T ≤ lo ∧ lo ≤ hi) ∧ hi ≤ w'.heap.size ∧ ObR d e b w' lo hi v xs :=
  ⟨W.heap.size, w'.heap.size, ⟨hT, hb.size⟩, yoy _, yoy _, Kd.R_lower (Kd.R_mono (Kd.R_bound ho) (fun k hk => ⟨hk.2.1, hk.2.2.1⟩)) hB⟩
theorem ObS.below (h : ObS d e b w lo hi v xs) (hb : Below w.heap.size w w') : ObS d e b w' lo hi v xs := ⟨Nat.le_trans h.1 hb.size, Kd.S_below h.2 hb⟩
theorem ObR.below (h : ObR d e b w lo hi v xs) (hb : Below w.heap.size w w') : ObR d e b w' lo hi v xs := ⟨Nat.le_trans h.1 hb.size, Kd.R_below h.2 hb⟩
theorem ObS.drew (h : ObS d e b w lo hi v xs) : ObS d e b w.drew lo hi v xs := ⟨h.1, Kd.S_drew h.2⟩
theorem ObR.drew (h : ObR d e b w lo hi v xs) : ObR d e b w.drew lo hi v xs := ⟨h.1, Kd.R_drew h.2⟩
theorem ObS.far {g i : Nat} (h : ObS d e b w lo hi v xs) (hg : g < lo ∨ hi ≤ g) (u : Value) : ObS d e b (w.setCell ⟨g, i, none⟩ u) lo hi v xs :=
  ⟨Nat.le_trans h.1 (size_set _ _ _ _), Kd.S_far h.2 (fun k hk => by show k ≠ g; have := hk.1; have := hk.2; omega) u⟩
theorem ObR.far {g i : Nat} (h : ObR d e b w lo hi v xs) (hg : g < lo ∨ hi ≤ g) (u : Value) : ObR d e b (w.setCell ⟨g, i, none⟩ u) lo hi v xs :=
  ⟨Nat.le_trans h.1 (size_set _ _ _ _), Kd.R_far h.2 (fun k hk => by show k ≠ g; have := hk.1; have := hk.2; omega) u⟩
theorem ObS.slice (h : ObS d e b w lo hi v xs) : ∃ A c, v = .slice A xs.length c := Kd.S_slice h.2
theorem ObR.slice (h : ObR d e b w lo hi v xs) : ∃ A c, v = .slice A xs.length c := Kd.R_slice h.2
theorem ObS.reads {A : Option Addr} {n c : Nat} (h : ObS d e b w lo hi (.slice A n c) xs) : n = xs.length ∧ n ≤ c ∧ d.C w A xs.length xs := Kd.S_reads' h.2
theorem ObR.reads {A : Option Addr} {n c : Nat} (h : ObR d e b w lo hi (.slice A n c) xs) : n = xs.length ∧ n ≤ c ∧ d.C w A xs.length xs := Kd.R_reads' h.2
theorem ObS.room {A : Option Addr} {n c : Nat} (h : ObS d e b w lo hi (.slice A n c) xs) : xs.length ≤ c := by have := h.reads; omega
theorem ObR.room {A : Option Addr} {n c : Nat} (h : ObR d e b w lo hi (.slice A n c) xs) : xs.length ≤ c := by have := h.reads; omega
theorem below_of_drewN {n : Nat} (h : w' = w.drewN n) : Below w.heap.size w w' := h ▸ pw_below_drewN (ypy _ _) n
theorem top_below (h : T ≤ w.heap.size) (hb : Below w.heap.size w w') : T ≤ w'.heap.size := Nat.le_trans h hb.size
theorem top_drew (h : T ≤ w.heap.size) : T ≤ w.drew.heap.size := h
theorem top_far {g i : Nat} {u : Value} (h : T ≤ w.heap.size) : T ≤ (w.setCell ⟨g, i, none⟩ u).heap.size := Nat.le_trans h (size_set _ _ _ _)
end
end Go.Proofs.Ytdgdnnjigigkcaa.Lib
namespace Go.Proofs.Ytdgdnnjigigkcaa.P
open Go.RowKit Go.Proofs.YtdgdnnjigigkcaaW.PrintWords Go.Proofs.YtdgdnnjigigkcaaW.PrintLast Go.Proofs.YtdgdnnjigigkcaaW.PrintMore
attribute [local go_sem] max2_int min2_int max_two min_two max_three min_three max_four min_four   -- for this text's walks alone
set_option linter.unusedVariables false
set_option linter.unusedSimpArgs false
open Go.Proofs.Ytdgdnnjigigkcaa.Lib
/-! ### laws_FnExactIsIsomorphism: function 11 -/
def laws_FnExactIsIsomorphism.f (k : Nat) (l0 : List (List (SLawFace))) (l1 : List (List (SLawFace))) (l2 : List Int) (l3 : List Int) : Option Bool := if (l2.length : Int) > 1048576 then some true else if (l3.length : Int) > 1048576 then some true else (laws_szTriangulation.f k l0 1048576).bind fun t4 => if t4 < 0 then some true else (laws_szTriangulation.f k l1 t4).bind fun t7 => if t7 < 0 then some true else (laws_toTriangulation.f k l0).bind fun t10 => (laws_toTriangulation.f k l1).bind fun t13 => (laws_toInt64S.f k l2).bind fun t16 => (laws_toInt64S.f k l3).bind fun t19 => (spec_IsIsomorphism.f k t10 t13 t16 t19).bind fun t22 => (laws_toTriangulation.f k l0).bind fun t24 => (laws_toTriangulation.f k l1).bind fun t27 => (laws_toInt64S.f k l2).bind fun t30 => (laws_toInt64S.f k l3).bind fun t33 => (impl_IsIsomorphism.f k t24 t27 t30 t33).bind fun t36 => if t36 = t22 then (laws_toTriangulation.f k l0).bind fun t39 => (laws_eqTriangulation.f k t24 t39).bind fun t42 => if t42 = true then (laws_toTriangulation.f k l1).bind fun t44 => (laws_eqTriangulation.f k t27 t44).bind fun t47 => if t47 = true then (laws_toInt64S.f k l2).bind fun t49 => (laws_eqInt64S.f k t30 t49).bind fun t52 => if t52 = true then (laws_toInt64S.f k l3).bind fun t54 => (laws_eqInt64S.f k t33 t54).bind fun t57 => if t57 = true then some true else some false else some false else some false else some false else some false
set_option maxHeartbeats 8000000 in
set_option maxRecDepth 100000 in
theorem laws_FnExactIsIsomorphism.calls (k : Nat) (A0 : Option Addr) (c0 : Nat) (l0 : List (List (SLawFace))) (A1 : Option Addr) (c1 : Nat) (l1 : List (List (SLawFace))) (A2 : Option Addr) (c2 : Nat) (l2 : List Int) (A3 : Option Addr) (c3 : Nat) (l3 : List Int) (w : World) (hr0 : Kd.C (Kd.slice 133 kLawFace) w A0 l0.length l0) (hc0 : l0.length ≤ c0) (hr1 : Kd.C (Kd.slice 133 kLawFace) w A1 l1.length l1) (hc1 : l1.length ≤ c1) (hr2 : Kd.C (Kd.int .i64) w A2 l2.length l2) (hc2 : l2.length ≤ c2) (hr3 : Kd.C (Kd.int .i64) w A3 l3.length l3) (hc3 : l3.length ≤ c3) (h : laws_FnExactIsIsomorphism.f k l0 l1 l2 l3 = some true) :
 Calls Try.prog 11 #[.agg #[.slice A0 l0.length c0], .agg #[.slice A1 l1.length c1], .slice A2 l2.length c2, .slice A3 l3.length c3] w fun e w' => e = .returned (.bool true) ∧ Below w.heap.size w w' := by
 have hu24 := Try.underlying24
 have hu28 := Try.underlying28
 have HR0 := Aside0.mk hr0
 have HC0 := Aside0.mk hc0
 have HR1 := Aside0.mk hr1
 have HC1 := Aside0.mk hc1
 have HR2 := Aside0.mk hr2
 have HC2 := Aside0.mk hc2
 have HR3 := Aside0.mk hr3
 have HC3 := Aside0.mk hc3
 clear hr0 hc0 hr1 hc1 hr2 hc2 hr3 hc3
 have HB := Aside0.mk (ypy w.heap.size w)
 have HT := Aside0.mk (yoy w.heap.size)
 have H := h
 clear h
 unfold laws_FnExactIsIsomorphism.f at H
 by_cases cC1 : (l2.length : Int) > 1048576
 next =>
  have dC1 : decide ((l2.length : Int) > 1048576) = true := ygy cC1; have e0C1 : decide (1048576 < (l2.length : Int)) = true := ygy (by omega); have e1C1 : decide (1048576 < l2.length) = true := ygy (by omega)
  clear cC1 H
  go_enter Try.func11, Try.ntmps11
  try go_wp2_with (first | ((with_reducible refine gate_dst (N := 4) rfl ?_); refine box_event ?hg (N := 4) ?hd (cs := #[.slice A0 l0.length c0]) (t := 24) ?hr ?_; (case hd => rfl); (case hg => rfl); (case hr => first | (go_simp; done) | (go_simp; rfl)); intro g4 hg w1 hbox hb; have HNg4 := Aside0.mk (by rw [hg]; exact HT.out : w.heap.size ≤ g4); have HXg4 := Aside0.mk (show g4 + 1 ≤ w1.heap.size from blk_lt hbox); have nHB := Aside0.mk (below_step HB.out hb); have nHT := Aside0.mk (top_below HT.out hb); clear HB HT  ; have HB := nHB; have HT := nHT; clear nHB nHT  ; clear HT; have HT := HXg4; clear HXg4; have BKg4 := Aside0.mk hbox; clear hg hbox hb; have hczg4 : w1.cell? ⟨g4, 0, none⟩ = some (.slice A0 l0.length c0) := (blk_cell BKg4.out 0).trans rfl; have hfzg4 := blk_frozen BKg4.out 0) | ((with_reducible refine gate_dst (N := 5) rfl ?_); refine box_event ?hg (N := 5) ?hd (cs := #[.slice A1 l1.length c1]) (t := 24) ?hr ?_; (case hd => rfl); (case hg => rfl); (case hr => first | (go_simp; done) | (go_simp; rfl)); intro g5 hg w2 hbox hb; (try clear hczg4 hfzg4); have HNg5 := Aside0.mk (by rw [hg]; exact HT.out : g4 + 1 ≤ g5); have HXg5 := Aside0.mk (show g5 + 1 ≤ w2.heap.size from blk_lt hbox); have nBg4 := Aside0.mk (blk_below (g := g4) (o := .cells #[.slice A0 l0.length c0] 24 (0, 0)) BKg4.out hb); have nHB := Aside0.mk (below_step HB.out hb); have nHT := Aside0.mk (top_below HT.out hb); clear HB HT  BKg4; have BKg4 := nBg4; have HB := nHB; have HT := nHT; clear nHB nHT  nBg4; clear HT; have HT := HXg5; clear HXg5; have BKg5 := Aside0.mk hbox; clear hg hbox hb; have hnbg5_g4 : g5 ≠ g4 := (by have := HNg4.out; have := HNg5.out; omega); have hnbg4_g5 : g4 ≠ g5 := (by have := HNg4.out; have := HNg5.out; omega); have hczg4 : w2.cell? ⟨g4, 0, none⟩ = some (.slice A0 l0.length c0) := (blk_cell BKg4.out 0).trans rfl; have hfzg4 := blk_frozen BKg4.out 0; have hczg5 : w2.cell? ⟨g5, 0, none⟩ = some (.slice A1 l1.length c1) := (blk_cell BKg5.out 0).trans rfl; have hfzg5 := blk_frozen BKg5.out 0))
  go_ret
  exact ⟨by first | rfl | (simp <;> rfl), HB.out⟩
 rw [if_neg cC1] at H
 have dC1 : decide ((l2.length : Int) > 1048576) = false := yhy cC1; have e0C1 : decide (1048576 < (l2.length : Int)) = false := yhy (by omega); have e1C1 : decide (1048576 < l2.length) = false := yhy (by omega)
 clear cC1
 by_cases cC2 : (l3.length : Int) > 1048576
 next =>
  have dC2 : decide ((l3.length : Int) > 1048576) = true := ygy cC2; have e0C2 : decide (1048576 < (l3.length : Int)) = true := ygy (by omega); have e1C2 : decide (1048576 < l3.length) = true := ygy (by omega)
  clear cC2 H
  go_enter Try.func11, Try.ntmps11
  try go_wp2_with (first | ((with_reducible refine gate_dst (N := 4) rfl ?_); refine box_event ?hg (N := 4) ?hd (cs := #[.slice A0 l0.length c0]) (t := 24) ?hr ?_; (case hd => rfl); (case hg => rfl); (case hr => first | (go_simp; done) | (go_simp; rfl)); intro g4 hg w1 hbox hb; have HNg4 := Aside0.mk (by rw [hg]; exact HT.out : w.heap.size ≤ g4); have HXg4 := Aside0.mk (show g4 + 1 ≤ w1.heap.size from blk_lt hbox); have nHB := Aside0.mk (below_step HB.out hb); have nHT := Aside0.mk (top_below HT.out hb); clear HB HT  ; have HB := nHB; have HT := nHT; clear nHB nHT  ; clear HT; have HT := HXg4; clear HXg4; have BKg4 := Aside0.mk hbox; clear hg hbox hb; have hczg4 : w1.cell? ⟨g4, 0, none⟩ = some (.slice A0 l0.length c0) := (blk_cell BKg4.out 0).trans rfl; have hfzg4 := blk_frozen BKg4.out 0) | ((with_reducible refine gate_dst (N := 5) rfl ?_); refine box_event ?hg (N := 5) ?hd (cs := #[.slice A1 l1.length c1]) (t := 24) ?hr ?_; (case hd => rfl); (case hg => rfl); (case hr => first | (go_simp; done) | (go_simp; rfl)); intro g5 hg w2 hbox hb; (try clear hczg4 hfzg4); have HNg5 := Aside0.mk (by rw [hg]; exact HT.out : g4 + 1 ≤ g5); have HXg5 := Aside0.mk (show g5 + 1 ≤ w2.heap.size from blk_lt hbox); have nBg4 := Aside0.mk (blk_below (g := g4) (o := .cells #[.slice A0 l0.length c0] 24 (0, 0)) BKg4.out hb); have nHB := Aside0.mk (below_step HB.out hb); have nHT := Aside0.mk (top_below HT.out hb); clear HB HT  BKg4; have BKg4 := nBg4; have HB := nHB; have HT := nHT; clear nHB nHT  nBg4; clear HT; have HT := HXg5; clear HXg5; have BKg5 := Aside0.mk hbox; clear hg hbox hb; have hnbg5_g4 : g5 ≠ g4 := (by have := HNg4.out; have := HNg5.out; omega); have hnbg4_g5 : g4 ≠ g5 := (by have := HNg4.out; have := HNg5.out; omega); have hczg4 : w2.cell? ⟨g4, 0, none⟩ = some (.slice A0 l0.length c0) := (blk_cell BKg4.out 0).trans rfl; have hfzg4 := blk_frozen BKg4.out 0; have hczg5 : w2.cell? ⟨g5, 0, none⟩ = some (.slice A1 l1.length c1) := (blk_cell BKg5.out 0).trans rfl; have hfzg5 := blk_frozen BKg5.out 0))
  go_ret
  exact ⟨by first | rfl | (simp <;> rfl), HB.out⟩
 rw [if_neg cC2] at H
 have dC2 : decide ((l3.length : Int) > 1048576) = false := yhy cC2; have e0C2 : decide (1048576 < (l3.length : Int)) = false := yhy (by omega); have e1C2 : decide (1048576 < l3.length) = false := yhy (by omega)
 clear cC2
 obtain ⟨t4, H30, H⟩ := ydy.mp H
 have H3 := Aside0.mk H30
 clear H30
 by_cases cC5 : t4 < 0
 next =>
  have dC5 : decide (t4 < 0) = true := ygy cC5
  clear cC5 H
  go_enter Try.func11, Try.ntmps11
  try go_wp2_with (first | ((with_reducible refine gate_dst (N := 4) rfl ?_); refine box_event ?hg (N := 4) ?hd (cs := #[.slice A0 l0.length c0]) (t := 24) ?hr ?_; (case hd => rfl); (case hg => rfl); (case hr => first | (go_simp; done) | (go_simp; rfl)); intro g4 hg w1 hbox hb; have HNg4 := Aside0.mk (by rw [hg]; exact HT.out : w.heap.size ≤ g4); have HXg4 := Aside0.mk (show g4 + 1 ≤ w1.heap.size from blk_lt hbox); have nHB := Aside0.mk (below_step HB.out hb); have nHT := Aside0.mk (top_below HT.out hb); clear HB HT  ; have HB := nHB; have HT := nHT; clear nHB nHT  ; clear HT; have HT := HXg4; clear HXg4; have BKg4 := Aside0.mk hbox; clear hg hbox hb; have hczg4 : w1.cell? ⟨g4, 0, none⟩ = some (.slice A0 l0.length c0) := (blk_cell BKg4.out 0).trans rfl; have hfzg4 := blk_frozen BKg4.out 0) | ((with_reducible refine gate_dst (N := 5) rfl ?_); refine box_event ?hg (N := 5) ?hd (cs := #[.slice A1 l1.length c1]) (t := 24) ?hr ?_; (case hd => rfl); (case hg => rfl); (case hr => first | (go_simp; done) | (go_simp; rfl)); intro g5 hg w2 hbox hb; (try clear hczg4 hfzg4); have HNg5 := Aside0.mk (by rw [hg]; exact HT.out : g4 + 1 ≤ g5); have HXg5 := Aside0.mk (show g5 + 1 ≤ w2.heap.size from blk_lt hbox); have nBg4 := Aside0.mk (blk_below (g := g4) (o := .cells #[.slice A0 l0.length c0] 24 (0, 0)) BKg4.out hb); have nHB := Aside0.mk (below_step HB.out hb); have nHT := Aside0.mk (top_below HT.out hb); clear HB HT  BKg4; have BKg4 := nBg4; have HB := nHB; have HT := nHT; clear nHB nHT  nBg4; clear HT; have HT := HXg5; clear HXg5; have BKg5 := Aside0.mk hbox; clear hg hbox hb; have hnbg5_g4 : g5 ≠ g4 := (by have := HNg4.out; have := HNg5.out; omega); have hnbg4_g5 : g4 ≠ g5 := (by have := HNg4.out; have := HNg5.out; omega); have hczg4 : w2.cell? ⟨g4, 0, none⟩ = some (.slice A0 l0.length c0) := (blk_cell BKg4.out 0).trans rfl; have hfzg4 := blk_frozen BKg4.out 0; have hczg5 : w2.cell? ⟨g5, 0, none⟩ = some (.slice A1 l1.length c1) := (blk_cell BKg5.out 0).trans rfl; have hfzg5 := blk_frozen BKg5.out 0) | ((with_reducible refine gate_callee (f := 15) rfl ?_); refine goesL_ (some 24) rfl rfl Try.func15 (by kernel_rfl) rfl #[.agg #[.slice A0 l0.length c0], .int .i64 1048576] rfl (by (try simp only [yiy, yjy, yky]); first | done | rfl | (simp only [yly, ymy]; rfl)) ?_; (with_reducible refine (laws_szTriangulation.calls k _ _ l0 1048576 t4 _ ?side1 ?side2 H3.out).mono ?_); (case side1 => exact Kd.C_below HR0.out HB.out); (case side2 => exact HC0.out); rintro e w3 ⟨rfl, hb⟩; refine ⟨_, rfl, ?_⟩; (try clear hczg4 hfzg4 hczg5 hfzg5); have nBg4 := Aside0.mk (blk_below (g := g4) (o := .cells #[.slice A0 l0.length c0] 24 (0, 0)) BKg4.out hb); have nBg5 := Aside0.mk (blk_below (g := g5) (o := .cells #[.slice A1 l1.length c1] 24 (0, 0)) BKg5.out hb); have nHB := Aside0.mk (below_step HB.out hb); have nHT := Aside0.mk (top_below HT.out hb); clear HB HT  BKg4 BKg5; have BKg4 := nBg4; have BKg5 := nBg5; have HB := nHB; have HT := nHT; clear nHB nHT  nBg4 nBg5; (try clear hb); (try clear hnd); have hczg4 : w3.cell? ⟨g4, 0, none⟩ = some (.slice A0 l0.length c0) := (blk_cell BKg4.out 0).trans rfl; have hfzg4 := blk_frozen BKg4.out 0; have hczg5 : w3.cell? ⟨g5, 0, none⟩ = some (.slice A1 l1.length c1) := (blk_cell BKg5.out 0).trans rfl; have hfzg5 := blk_frozen BKg5.out 0))
  go_ret
  exact ⟨by first | rfl | (simp <;> rfl), HB.out⟩
 rw [if_neg cC5] at H
 have dC5 : decide (t4 < 0) = false := yhy cC5
 clear cC5
 obtain ⟨t7, H60, H⟩ := ydy.mp H
 have H6 := Aside0.mk H60
 clear H60
 by_cases cC8 : t7 < 0
 next =>
  have dC8 : decide (t7 < 0) = true := ygy cC8
  clear cC8 H
  go_enter Try.func11, Try.ntmps11
  try go_wp2_with (first | ((with_reducible refine gate_dst (N := 4) rfl ?_); refine box_event ?hg (N := 4) ?hd (cs := #[.slice A0 l0.length c0]) (t := 24) ?hr ?_; (case hd => rfl); (case hg => rfl); (case hr => first | (go_simp; done) | (go_simp; rfl)); intro g4 hg w1 hbox hb; have HNg4 := Aside0.mk (by rw [hg]; exact HT.out : w.heap.size ≤ g4); have HXg4 := Aside0.mk (show g4 + 1 ≤ w1.heap.size from blk_lt hbox); have nHB := Aside0.mk (below_step HB.out hb); have nHT := Aside0.mk (top_below HT.out hb); clear HB HT  ; have HB := nHB; have HT := nHT; clear nHB nHT  ; clear HT; have HT := HXg4; clear HXg4; have BKg4 := Aside0.mk hbox; clear hg hbox hb; have hczg4 : w1.cell? ⟨g4, 0, none⟩ = some (.slice A0 l0.length c0) := (blk_cell BKg4.out 0).trans rfl; have hfzg4 := blk_frozen BKg4.out 0) | ((with_reducible refine gate_dst (N := 5) rfl ?_); refine box_event ?hg (N := 5) ?hd (cs := #[.slice A1 l1.length c1]) (t := 24) ?hr ?_; (case hd => rfl); (case hg => rfl); (case hr => first | (go_simp; done) | (go_simp; rfl)); intro g5 hg w2 hbox hb; (try clear hczg4 hfzg4); have HNg5 := Aside0.mk (by rw [hg]; exact HT.out : g4 + 1 ≤ g5); have HXg5 := Aside0.mk (show g5 + 1 ≤ w2.heap.size from blk_lt hbox); have nBg4 := Aside0.mk (blk_below (g := g4) (o := .cells #[.slice A0 l0.length c0] 24 (0, 0)) BKg4.out hb); have nHB := Aside0.mk (below_step HB.out hb); have nHT := Aside0.mk (top_below HT.out hb); clear HB HT  BKg4; have BKg4 := nBg4; have HB := nHB; have HT := nHT; clear nHB nHT  nBg4; clear HT; have HT := HXg5; clear HXg5; have BKg5 := Aside0.mk hbox; clear hg hbox hb; have hnbg5_g4 : g5 ≠ g4 := (by have := HNg4.out; have := HNg5.out; omega); have hnbg4_g5 : g4 ≠ g5 := (by have := HNg4.out; have := HNg5.out; omega); have hczg4 : w2.cell? ⟨g4, 0, none⟩ = some (.slice A0 l0.length c0) := (blk_cell BKg4.out 0).trans rfl; have hfzg4 := blk_frozen BKg4.out 0; have hczg5 : w2.cell? ⟨g5, 0, none⟩ = some (.slice A1 l1.length c1) := (blk_cell BKg5.out 0).trans rfl; have hfzg5 := blk_frozen BKg5.out 0) | ((with_reducible refine gate_callee (f := 15) rfl ?_); refine goesL_ (some 24) rfl rfl Try.func15 (by kernel_rfl) rfl #[.agg #[.slice A0 l0.length c0], .int .i64 1048576] rfl (by (try simp only [yiy, yjy, yky]); first | done | rfl | (simp only [yly, ymy]; rfl)) ?_; (with_reducible refine (laws_szTriangulation.calls k _ _ l0 1048576 t4 _ ?side1 ?side2 H3.out).mono ?_); (case side1 => exact Kd.C_below HR0.out HB.out); (case side2 => exact HC0.out); rintro e w3 ⟨rfl, hb⟩; refine ⟨_, rfl, ?_⟩; (try clear hczg4 hfzg4 hczg5 hfzg5); have nBg4 := Aside0.mk (blk_below (g := g4) (o := .cells #[.slice A0 l0.length c0] 24 (0, 0)) BKg4.out hb); have nBg5 := Aside0.mk (blk_below (g := g5) (o := .cells #[.slice A1 l1.length c1] 24 (0, 0)) BKg5.out hb); have nHB := Aside0.mk (below_step HB.out hb); have nHT := Aside0.mk (top_below HT.out hb); clear HB HT  BKg4 BKg5; have BKg4 := nBg4; have BKg5 := nBg5; have HB := nHB; have HT := nHT; clear nHB nHT  nBg4 nBg5; (try clear hb); (try clear hnd); have hczg4 : w3.cell? ⟨g4, 0, none⟩ = some (.slice A0 l0.length c0) := (blk_cell BKg4.out 0).trans rfl; have hfzg4 := blk_frozen BKg4.out 0; have hczg5 : w3.cell? ⟨g5, 0, none⟩ = some (.slice A1 l1.length c1) := (blk_cell BKg5.out 0).trans rfl; have hfzg5 := blk_frozen BKg5.out 0) | ((with_reducible refine gate_callee (f := 15) rfl ?_); refine goesL_ (some 29) rfl rfl Try.func15 (by kernel_rfl) rfl #[.agg #[.slice A1 l1.length c1], .int .i64 t4] rfl (by (try simp only [yiy, yjy, yky]); first | done | rfl | (simp only [yly, ymy]; rfl)) ?_; (with_reducible refine (laws_szTriangulation.calls k _ _ l1 t4 t7 _ ?side1 ?side2 H6.out).mono ?_); (case side1 => exact Kd.C_below HR1.out HB.out); (case side2 => exact HC1.out); rintro e w4 ⟨rfl, hb⟩; refine ⟨_, rfl, ?_⟩; (try clear hczg4 hfzg4 hczg5 hfzg5); have nBg4 := Aside0.mk (blk_below (g := g4) (o := .cells #[.slice A0 l0.length c0] 24 (0, 0)) BKg4.out hb); have nBg5 := Aside0.mk (blk_below (g := g5) (o := .cells #[.slice A1 l1.length c1] 24 (0, 0)) BKg5.out hb); have nHB := Aside0.mk (below_step HB.out hb); have nHT := Aside0.mk (top_below HT.out hb); clear HB HT  BKg4 BKg5; have BKg4 := nBg4; have BKg5 := nBg5; have HB := nHB; have HT := nHT; clear nHB nHT  nBg4 nBg5; (try clear hb); (try clear hnd); have hczg4 : w4.cell? ⟨g4, 0, none⟩ = some (.slice A0 l0.length c0) := (blk_cell BKg4.out 0).trans rfl; have hfzg4 := blk_frozen BKg4.out 0; have hczg5 : w4.cell? ⟨g5, 0, none⟩ = some (.slice A1 l1.length c1) := (blk_cell BKg5.out 0).trans rfl; have hfzg5 := blk_frozen BKg5.out 0))
  go_ret
  exact ⟨by first | rfl | (simp <;> rfl), HB.out⟩
 rw [if_neg cC8] at H
 have dC8 : decide (t7 < 0) = false := yhy cC8
 clear cC8
 obtain ⟨t10, H90, H⟩ := ydy.mp H
 have H9 := Aside0.mk H90
 clear H90
 obtain ⟨t13, H120, H⟩ := ydy.mp H
 have H12 := Aside0.mk H120
 clear H120
 obtain ⟨t16, H150, H⟩ := ydy.mp H
 have H15 := Aside0.mk H150
 clear H150
 obtain ⟨t19, H180, H⟩ := ydy.mp H
 have H18 := Aside0.mk H180
 clear H180
 obtain ⟨t22, H210, H⟩ := ydy.mp H
 have H21 := Aside0.mk H210
 clear H210
 obtain ⟨t24, H230, H⟩ := ydy.mp H
 have H23 := Aside0.mk H230
 clear H230
 obtain ⟨t27, H260, H⟩ := ydy.mp H
 have H26 := Aside0.mk H260
 clear H260
 obtain ⟨t30, H290, H⟩ := ydy.mp H
 have H29 := Aside0.mk H290
 clear H290
 obtain ⟨t33, H320, H⟩ := ydy.mp H
 have H32 := Aside0.mk H320
 clear H320
 obtain ⟨t36, H350, H⟩ := ydy.mp H
 have H35 := Aside0.mk H350
 clear H350
 have cC37 : t36 = t22 := by by_cases c_ : t36 = t22; exact c_; rw [if_neg c_] at H; cases H
 rw [if_pos cC37] at H
 have dC37 : (t36 != t22) = false := by rw [cC37]; exact bne_self_eq_false _
 have eC37 : (t36 == t22) = true := by rw [cC37]; exact beq_self_eq_true _
 clear cC37
 obtain ⟨t39, H380, H⟩ := ydy.mp H
 have H38 := Aside0.mk H380
 clear H380
 obtain ⟨t42, H410, H⟩ := ydy.mp H
 obtain rfl : t42 = true := by cases t42 with | true => rfl | false => exact absurd H (by simp)
 replace H := H
 have H41 := Aside0.mk H410
 clear H410
 rw [if_pos rfl] at H
 obtain ⟨t44, H430, H⟩ := ydy.mp H
 have H43 := Aside0.mk H430
 clear H430
 obtain ⟨t47, H460, H⟩ := ydy.mp H
 obtain rfl : t47 = true := by cases t47 with | true => rfl | false => exact absurd H (by simp)
 replace H := H
 have H46 := Aside0.mk H460
 clear H460
 rw [if_pos rfl] at H
 obtain ⟨t49, H480, H⟩ := ydy.mp H
 have H48 := Aside0.mk H480
 clear H480
 obtain ⟨t52, H510, H⟩ := ydy.mp H
 obtain rfl : t52 = true := by cases t52 with | true => rfl | false => exact absurd H (by simp)
 replace H := H
 have H51 := Aside0.mk H510
 clear H510
 rw [if_pos rfl] at H
 obtain ⟨t54, H530, H⟩ := ydy.mp H
 have H53 := Aside0.mk H530
 clear H530
 obtain ⟨t57, H560, H⟩ := ydy.mp H
 obtain rfl : t57 = true := by cases t57 with | true => rfl | false => exact absurd H (by simp)
 replace H := H
 have H56 := Aside0.mk H560
 clear H560
 rw [if_pos rfl] at H
 clear H
 go_enter Try.func11, Try.ntmps11
 try go_wp2_with (first | ((with_reducible refine gate_dst (N := 4) rfl ?_); refine box_event ?hg (N := 4) ?hd (cs := #[.slice A0 l0.length c0]) (t := 24) ?hr ?_; (case hd => rfl); (case hg => rfl); (case hr => first | (go_simp; done) | (go_simp; rfl)); intro g4 hg w1 hbox hb; have HNg4 := Aside0.mk (by rw [hg]; exact HT.out : w.heap.size ≤ g4); have HXg4 := Aside0.mk (show g4 + 1 ≤ w1.heap.size from blk_lt hbox); have nHB := Aside0.mk (below_step HB.out hb); have nHT := Aside0.mk (top_below HT.out hb); clear HB HT  ; have HB := nHB; have HT := nHT; clear nHB nHT  ; clear HT; have HT := HXg4; clear HXg4; have BKg4 := Aside0.mk hbox; clear hg hbox hb; have hczg4 : w1.cell? ⟨g4, 0, none⟩ = some (.slice A0 l0.length c0) := (blk_cell BKg4.out 0).trans rfl; have hfzg4 := blk_frozen BKg4.out 0) | ((with_reducible refine gate_dst (N := 5) rfl ?_); refine box_event ?hg (N := 5) ?hd (cs := #[.slice A1 l1.length c1]) (t := 24) ?hr ?_; (case hd => rfl); (case hg => rfl); (case hr => first | (go_simp; done) | (go_simp; rfl)); intro g5 hg w2 hbox hb; (try clear hczg4 hfzg4); have HNg5 := Aside0.mk (by rw [hg]; exact HT.out : g4 + 1 ≤ g5); have HXg5 := Aside0.mk (show g5 + 1 ≤ w2.heap.size from blk_lt hbox); have nBg4 := Aside0.mk (blk_below (g := g4) (o := .cells #[.slice A0 l0.length c0] 24 (0, 0)) BKg4.out hb); have nHB := Aside0.mk (below_step HB.out hb); have nHT := Aside0.mk (top_below HT.out hb); clear HB HT  BKg4; have BKg4 := nBg4; have HB := nHB; have HT := nHT; clear nHB nHT  nBg4; clear HT; have HT := HXg5; clear HXg5; have BKg5 := Aside0.mk hbox; clear hg hbox hb; have hnbg5_g4 : g5 ≠ g4 := (by have := HNg4.out; have := HNg5.out; omega); have hnbg4_g5 : g4 ≠ g5 := (by have := HNg4.out; have := HNg5.out; omega); have hczg4 : w2.cell? ⟨g4, 0, none⟩ = some (.slice A0 l0.length c0) := (blk_cell BKg4.out 0).trans rfl; have hfzg4 := blk_frozen BKg4.out 0; have hczg5 : w2.cell? ⟨g5, 0, none⟩ = some (.slice A1 l1.length c1) := (blk_cell BKg5.out 0).trans rfl; have hfzg5 := blk_frozen BKg5.out 0) | ((with_reducible refine gate_callee (f := 15) rfl ?_); refine goesL_ (some 24) rfl rfl Try.func15 (by kernel_rfl) rfl #[.agg #[.slice A0 l0.length c0], .int .i64 1048576] rfl (by (try simp only [yiy, yjy, yky]); first | done | rfl | (simp only [yly, ymy]; rfl)) ?_; (with_reducible refine (laws_szTriangulation.calls k _ _ l0 1048576 t4 _ ?side1 ?side2 H3.out).mono ?_); (case side1 => exact Kd.C_below HR0.out HB.out); (case side2 => exact HC0.out); rintro e w3 ⟨rfl, hb⟩; refine ⟨_, rfl, ?_⟩; (try clear hczg4 hfzg4 hczg5 hfzg5); have nBg4 := Aside0.mk (blk_below (g := g4) (o := .cells #[.slice A0 l0.length c0] 24 (0, 0)) BKg4.out hb); have nBg5 := Aside0.mk (blk_below (g := g5) (o := .cells #[.slice A1 l1.length c1] 24 (0, 0)) BKg5.out hb); have nHB := Aside0.mk (below_step HB.out hb); have nHT := Aside0.mk (top_below HT.out hb); clear HB HT  BKg4 BKg5; have BKg4 := nBg4; have BKg5 := nBg5; have HB := nHB; have HT := nHT; clear nHB nHT  nBg4 nBg5; (try clear hb); (try clear hnd); have hczg4 : w3.cell? ⟨g4, 0, none⟩ = some (.slice A0 l0.length c0) := (blk_cell BKg4.out 0).trans rfl; have hfzg4 := blk_frozen BKg4.out 0; have hczg5 : w3.cell? ⟨g5, 0, none⟩ = some (.slice A1 l1.length c1) := (blk_cell BKg5.out 0).trans rfl; have hfzg5 := blk_frozen BKg5.out 0) | ((with_reducible refine gate_callee (f := 15) rfl ?_); refine goesL_ (some 29) rfl rfl Try.func15 (by kernel_rfl) rfl #[.agg #[.slice A1 l1.length c1], .int .i64 t4] rfl (by (try simp only [yiy, yjy, yky]); first | done | rfl | (simp only [yly, ymy]; rfl)) ?_; (with_reducible refine (laws_szTriangulation.calls k _ _ l1 t4 t7 _ ?side1 ?side2 H6.out).mono ?_); (case side1 => exact Kd.C_below HR1.out HB.out); (case side2 => exact HC1.out); rintro e w4 ⟨rfl, hb⟩; refine ⟨_, rfl, ?_⟩; (try clear hczg4 hfzg4 hczg5 hfzg5); have nBg4 := Aside0.mk (blk_below (g := g4) (o := .cells #[.slice A0 l0.length c0] 24 (0, 0)) BKg4.out hb); have nBg5 := Aside0.mk (blk_below (g := g5) (o := .cells #[.slice A1 l1.length c1] 24 (0, 0)) BKg5.out hb); have nHB := Aside0.mk (below_step HB.out hb); have nHT := Aside0.mk (top_below HT.out hb); clear HB HT  BKg4 BKg5; have BKg4 := nBg4; have BKg5 := nBg5; have HB := nHB; have HT := nHT; clear nHB nHT  nBg4 nBg5; (try clear hb); (try clear hnd); have hczg4 : w4.cell? ⟨g4, 0, none⟩ = some (.slice A0 l0.length c0) := (blk_cell BKg4.out 0).trans rfl; have hfzg4 := blk_frozen BKg4.out 0; have hczg5 : w4.cell? ⟨g5, 0, none⟩ = some (.slice A1 l1.length c1) := (blk_cell BKg5.out 0).trans rfl; have hfzg5 := blk_frozen BKg5.out 0))
 (try clear hczg4 hfzg4 hczg5 hfzg5)
 have nBg4 := Aside0.mk (blk_drew BKg4.out)
 have nBg5 := Aside0.mk (blk_drew BKg5.out)
 have nHB := Aside0.mk (below_drew1 HB.out)
 have nHT := Aside0.mk (top_drew HT.out)
 clear HB HT  BKg4 BKg5
 have BKg4 := nBg4
 have BKg5 := nBg5
 have HB := nHB
 have HT := nHT
 clear nHB nHT  nBg4 nBg5
 refine start_ (n := 10) (S := fun w' => w'.cell? ⟨g4, 0, none⟩ = some (.slice A0 l0.length c0) ∧ w'.cell? ⟨g5, 0, none⟩ = some (.slice A1 l1.length c1)) (ds := []) #[false, false, false, false, false, false, false, false, false, false] (by kernel_rfl) rfl rfl ⟨(blk_cell BKg4.out 0).trans rfl, (blk_cell BKg5.out 0).trans rfl⟩ (fun hHeld => ?_)
 generalize hdr_ : World.drew _ = w5 at BKg4 BKg5 HB HT hHeld ⊢
 (try clear hdr_)
 refine take_ (i := 0) (N := some 32) (v := ?_) (a' := ?_) #[true, false, false, false, false, false, false, false, false, false] rfl rfl (by kernel_rfl) (fun _ _ _ h => h) (Or.inl ⟨by rfl, ?_⟩) hHeld ?_ ?_
 rotate_left
 next =>
  rintro w' ⟨s0, s1⟩
  go_simp
  with_reducible rfl
 rotate_left
 next =>
  simp only [Act.put, yay, yby, ycy, i64_w, i32_w]
  rfl
 refine take_ (i := 2) (N := some 34) (v := ?_) (a' := ?_) #[true, false, true, false, false, false, false, false, false, false] rfl rfl (by kernel_rfl) (fun _ _ _ h => h) (Or.inl ⟨by rfl, ?_⟩) hHeld ?_ ?_
 rotate_left
 next =>
  rintro w' ⟨s0, s1⟩
  go_simp
  with_reducible rfl
 rotate_left
 next =>
  simp only [Act.put, yay, yby, ycy, i64_w, i32_w]
  rfl
 refine take_ (i := 4) (N := some 36) (v := ?_) (a' := ?_) #[true, false, true, false, true, false, false, false, false, false] rfl rfl (by kernel_rfl) (fun _ _ _ h => h) (Or.inl ⟨by rfl, ?_⟩) hHeld ?_ ?_
 rotate_left
 next =>
  rintro w' ⟨s0, s1⟩
  go_simp
  with_reducible rfl
 rotate_left
 next =>
  simp only [Act.put, yay, yby, ycy, i64_w, i32_w]
  rfl
 refine take_ (i := 6) (N := some 38) (v := ?_) (a' := ?_) #[true, false, true, false, true, false, true, false, false, false] rfl rfl (by kernel_rfl) (fun _ _ _ h => h) (Or.inl ⟨by rfl, ?_⟩) hHeld ?_ ?_
 rotate_left
 next =>
  rintro w' ⟨s0, s1⟩
  go_simp
  with_reducible rfl
 rotate_left
 next =>
  simp only [Act.put, yay, yby, ycy, i64_w, i32_w]
  rfl
 refine one_ (i := 1) (N := some 33) #[true, true, true, false, true, false, true, false, false, false] rfl rfl (by kernel_rfl) (by decide) (fun K hK => ?_)
 refine goes_ Try.func17 (by kernel_rfl) rfl #[.agg #[.slice A0 l0.length c0]] (by rfl) rfl rfl (by (try simp only [yiy, yjy, yky]); first | done | rfl | (simp only [yly, ymy]; rfl)) ?_
 with_reducible refine (laws_toTriangulation.calls k _ _ l0 t10 _ ?side1 ?side2 H9.out).mono ?_
 (case side1 => exact Kd.C_below HR0.out HB.out)
 (case side2 => exact HC0.out)
 rintro e w6 ⟨vo11, rfl, ho0, hb⟩
 refine ⟨_, rfl, ?_⟩
 (try clear hczg4 hfzg4 hczg5 hfzg5)
 obtain ⟨loo11, hio11, hno11⟩ := ObS.made ho0 hb HT.out (below_size HB.out)
 have nBg4 := Aside0.mk (blk_below (g := g4) (o := .cells #[.slice A0 l0.length c0] 24 (0, 0)) BKg4.out hb)
 have nBg5 := Aside0.mk (blk_below (g := g5) (o := .cells #[.slice A1 l1.length c1] 24 (0, 0)) BKg5.out hb)
 have nHB := Aside0.mk (below_step HB.out hb)
 have nHT := Aside0.mk (top_below HT.out hb)
 clear HB HT  BKg4 BKg5
 have BKg4 := nBg4
 have BKg5 := nBg5
 have HB := nHB
 have HT := nHT
 clear nHB nHT  nBg4 nBg5
 have HNo11 := Aside0.mk hno11.1
 clear HT
 have HT := Aside0.mk hno11.2.1
 have HOo11 := Aside0.mk hno11.2.2
 clear hno11 ho0
 obtain ⟨Ao11, co11, eeo11⟩ := HOo11.out.slice
 subst eeo11
 (try clear hb)
 (try clear hnd)
 refine hK.out _ _ ⟨(blk_cell BKg4.out 0).trans rfl, (blk_cell BKg5.out 0).trans rfl⟩ (fun hHeld => ?_)
 clear hK K
 refine norm_ (a' := ?_) ?_ ?_
 rotate_left
 next =>
  show Act.put _ (some 33) _ = _
  simp only [Act.put, yay, yby, ycy, i64_w, i32_w]
  rfl
 refine one_ (i := 3) (N := some 35) #[true, true, true, true, true, false, true, false, false, false] rfl rfl (by kernel_rfl) (by decide) (fun K hK => ?_)
 refine goes_ Try.func17 (by kernel_rfl) rfl #[.agg #[.slice A1 l1.length c1]] (by rfl) rfl rfl (by (try simp only [yiy, yjy, yky]); first | done | rfl | (simp only [yly, ymy]; rfl)) ?_
 with_reducible refine (laws_toTriangulation.calls k _ _ l1 t13 _ ?side1 ?side2 H12.out).mono ?_
 (case side1 => exact Kd.C_below HR1.out HB.out)
 (case side2 => exact HC1.out)
 rintro e w7 ⟨vo14, rfl, ho0, hb⟩
 refine ⟨_, rfl, ?_⟩
 (try clear hczg4 hfzg4 hczg5 hfzg5)
 obtain ⟨loo14, hio14, hno14⟩ := ObS.made ho0 hb HT.out (below_size HB.out)
 have nOo11 := Aside0.mk (ObS.below HOo11.out hb)
 have nBg4 := Aside0.mk (blk_below (g := g4) (o := .cells #[.slice A0 l0.length c0] 24 (0, 0)) BKg4.out hb)
 have nBg5 := Aside0.mk (blk_below (g := g5) (o := .cells #[.slice A1 l1.length c1] 24 (0, 0)) BKg5.out hb)
 have nHB := Aside0.mk (below_step HB.out hb)
 have nHT := Aside0.mk (top_below HT.out hb)
 clear HB HT HOo11 BKg4 BKg5
 have HOo11 := nOo11
 have BKg4 := nBg4
 have BKg5 := nBg5
 have HB := nHB
 have HT := nHT
 clear nHB nHT nOo11 nBg4 nBg5
 have HNo14 := Aside0.mk hno14.1
 clear HT
 have HT := Aside0.mk hno14.2.1
 have HOo14 := Aside0.mk hno14.2.2
 clear hno14 ho0
 obtain ⟨Ao14, co14, eeo14⟩ := HOo14.out.slice
 subst eeo14
 (try clear hb)
 (try clear hnd)
 refine hK.out _ _ ⟨(blk_cell BKg4.out 0).trans rfl, (blk_cell BKg5.out 0).trans rfl⟩ (fun hHeld => ?_)
 clear hK K
 refine norm_ (a' := ?_) ?_ ?_
 rotate_left
 next =>
  show Act.put _ (some 35) _ = _
  simp only [Act.put, yay, yby, ycy, i64_w, i32_w]
  rfl
 refine one_ (i := 5) (N := some 37) #[true, true, true, true, true, true, true, false, false, false] rfl rfl (by kernel_rfl) (by decide) (fun K hK => ?_)
 refine goes_ Try.func31 (by kernel_rfl) rfl #[.slice A2 l2.length c2] (by rfl) rfl rfl (by (try simp only [yiy, yjy, yky]); first | done | rfl | (simp only [yly, ymy]; rfl)) ?_
 with_reducible refine (laws_toInt64S.calls k _ _ l2 t16 _ ?side1 ?side2 H15.out).mono ?_
 (case side1 => exact Kd.C_below HR2.out HB.out)
 (case side2 => exact HC2.out)
 rintro e w8 ⟨vo17, rfl, ho0, hb⟩
 refine ⟨_, rfl, ?_⟩
 (try clear hczg4 hfzg4 hczg5 hfzg5)
 obtain ⟨loo17, hio17, hno17⟩ := ObR.made ho0 hb HT.out (below_size HB.out)
 have nOo11 := Aside0.mk (ObS.below HOo11.out hb)
 have nOo14 := Aside0.mk (ObS.below HOo14.out hb)
 have nBg4 := Aside0.mk (blk_below (g := g4) (o := .cells #[.slice A0 l0.length c0] 24 (0, 0)) BKg4.out hb)
 have nBg5 := Aside0.mk (blk_below (g := g5) (o := .cells #[.slice A1 l1.length c1] 24 (0, 0)) BKg5.out hb)
 have nHB := Aside0.mk (below_step HB.out hb)
 have nHT := Aside0.mk (top_below HT.out hb)
 clear HB HT HOo11 HOo14 BKg4 BKg5
 have HOo11 := nOo11
 have HOo14 := nOo14
 have BKg4 := nBg4
 have BKg5 := nBg5
 have HB := nHB
 have HT := nHT
 clear nHB nHT nOo11 nOo14 nBg4 nBg5
 have HNo17 := Aside0.mk hno17.1
 clear HT
 have HT := Aside0.mk hno17.2.1
 have HOo17 := Aside0.mk hno17.2.2
 clear hno17 ho0
 obtain ⟨Ao17, co17, eeo17⟩ := HOo17.out.slice
 subst eeo17
 (try clear hb)
 (try clear hnd)
 refine hK.out _ _ ⟨(blk_cell BKg4.out 0).trans rfl, (blk_cell BKg5.out 0).trans rfl⟩ (fun hHeld => ?_)
 clear hK K
 refine norm_ (a' := ?_) ?_ ?_
 rotate_left
 next =>
  show Act.put _ (some 37) _ = _
  simp only [Act.put, yay, yby, ycy, i64_w, i32_w]
  rfl
 refine one_ (i := 7) (N := some 39) #[true, true, true, true, true, true, true, true, false, false] rfl rfl (by kernel_rfl) (by decide) (fun K hK => ?_)
 refine goes_ Try.func31 (by kernel_rfl) rfl #[.slice A3 l3.length c3] (by rfl) rfl rfl (by (try simp only [yiy, yjy, yky]); first | done | rfl | (simp only [yly, ymy]; rfl)) ?_
 with_reducible refine (laws_toInt64S.calls k _ _ l3 t19 _ ?side1 ?side2 H18.out).mono ?_
 (case side1 => exact Kd.C_below HR3.out HB.out)
 (case side2 => exact HC3.out)
 rintro e w9 ⟨vo20, rfl, ho0, hb⟩
 refine ⟨_, rfl, ?_⟩
 (try clear hczg4 hfzg4 hczg5 hfzg5)
 obtain ⟨loo20, hio20, hno20⟩ := ObR.made ho0 hb HT.out (below_size HB.out)
 have nOo11 := Aside0.mk (ObS.below HOo11.out hb)
 have nOo14 := Aside0.mk (ObS.below HOo14.out hb)
 have nOo17 := Aside0.mk (ObR.below HOo17.out hb)
 have nBg4 := Aside0.mk (blk_below (g := g4) (o := .cells #[.slice A0 l0.length c0] 24 (0, 0)) BKg4.out hb)
 have nBg5 := Aside0.mk (blk_below (g := g5) (o := .cells #[.slice A1 l1.length c1] 24 (0, 0)) BKg5.out hb)
 have nHB := Aside0.mk (below_step HB.out hb)
 have nHT := Aside0.mk (top_below HT.out hb)
 clear HB HT HOo11 HOo14 HOo17 BKg4 BKg5
 have HOo11 := nOo11
 have HOo14 := nOo14
 have HOo17 := nOo17
 have BKg4 := nBg4
 have BKg5 := nBg5
 have HB := nHB
 have HT := nHT
 clear nHB nHT nOo11 nOo14 nOo17 nBg4 nBg5
 have HNo20 := Aside0.mk hno20.1
 clear HT
 have HT := Aside0.mk hno20.2.1
 have HOo20 := Aside0.mk hno20.2.2
 clear hno20 ho0
 obtain ⟨Ao20, co20, eeo20⟩ := HOo20.out.slice
 subst eeo20
 (try clear hb)
 (try clear hnd)
 refine hK.out _ _ ⟨(blk_cell BKg4.out 0).trans rfl, (blk_cell BKg5.out 0).trans rfl⟩ (fun hHeld => ?_)
 clear hK K
 refine norm_ (a' := ?_) ?_ ?_
 rotate_left
 next =>
  show Act.put _ (some 39) _ = _
  simp only [Act.put, yay, yby, ycy, i64_w, i32_w]
  rfl
 refine one_ (i := 8) (N := some 40) #[true, true, true, true, true, true, true, true, true, false] rfl rfl (by kernel_rfl) (by decide) (fun K hK => ?_)
 refine goes_ Try.func39 (by kernel_rfl) rfl #[.agg #[.slice Ao11 t10.length co11], .agg #[.slice Ao14 t13.length co14], .slice Ao17 t16.length co17, .slice Ao20 t19.length co20] (by rfl) rfl rfl (by (try simp only [yiy, yjy, yky]); first | done | rfl | (simp only [yly, ymy]; rfl)) ?_
 with_reducible refine (spec_IsIsomorphism.calls k _ _ t10 _ _ t13 _ _ t16 _ _ t19 t22 _ ?side1 ?side2 ?side3 ?side4 ?side5 ?side6 ?side7 ?side8 H21.out).mono ?_
 (case side1 => exact (ObS.reads HOo11.out).2.2)
 (case side2 => exact ObS.room HOo11.out)
 (case side3 => exact (ObS.reads HOo14.out).2.2)
 (case side4 => exact ObS.room HOo14.out)
 (case side5 => exact (ObR.reads HOo17.out).2.2)
 (case side6 => exact ObR.room HOo17.out)
 (case side7 => exact (ObR.reads HOo20.out).2.2)
 (case side8 => exact ObR.room HOo20.out)
 rintro e w10 ⟨rfl, hb⟩
 refine ⟨_, rfl, ?_⟩
 (try clear hczg4 hfzg4 hczg5 hfzg5)
 have nOo11 := Aside0.mk (ObS.below HOo11.out hb)
 have nOo14 := Aside0.mk (ObS.below HOo14.out hb)
 have nOo17 := Aside0.mk (ObR.below HOo17.out hb)
 have nOo20 := Aside0.mk (ObR.below HOo20.out hb)
 have nBg4 := Aside0.mk (blk_below (g := g4) (o := .cells #[.slice A0 l0.length c0] 24 (0, 0)) BKg4.out hb)
 have nBg5 := Aside0.mk (blk_below (g := g5) (o := .cells #[.slice A1 l1.length c1] 24 (0, 0)) BKg5.out hb)
 have nHB := Aside0.mk (below_step HB.out hb)
 have nHT := Aside0.mk (top_below HT.out hb)
 clear HB HT HOo11 HOo14 HOo17 HOo20 BKg4 BKg5
 have HOo11 := nOo11
 have HOo14 := nOo14
 have HOo17 := nOo17
 have HOo20 := nOo20
 have BKg4 := nBg4
 have BKg5 := nBg5
 have HB := nHB
 have HT := nHT
 clear nHB nHT nOo11 nOo14 nOo17 nOo20 nBg4 nBg5
 (try clear hb)
 (try clear hnd)
 refine hK.out _ _ ⟨(blk_cell BKg4.out 0).trans rfl, (blk_cell BKg5.out 0).trans rfl⟩ (fun hHeld => ?_)
 clear hK K
 refine norm_ (a' := ?_) ?_ ?_
 rotate_left
 next =>
  show Act.put _ (some 40) _ = _
  simp only [Act.put, yay, yby, ycy, i64_w, i32_w]
  rfl
 refine take_ (i := 9) (N := some 10) (v := ?_) (a' := ?_) #[true, true, true, true, true, true, true, true, true, true] rfl rfl (by kernel_rfl) (fun _ _ _ h => h) (Or.inl ⟨by rfl, ?_⟩) hHeld ?_ ?_
 rotate_left
 next =>
  rintro w' ⟨s0, s1⟩
  go_simp
  with_reducible rfl
 rotate_left
 next =>
  simp only [Act.put, yay, yby, ycy, i64_w, i32_w]
  rfl
 refine done_ (by kernel_rfl) ?_
 have hczg4 : w10.cell? ⟨g4, 0, none⟩ = some (.slice A0 l0.length c0) := (blk_cell BKg4.out 0).trans rfl
 have hfzg4 := blk_frozen BKg4.out 0
 have hczg5 : w10.cell? ⟨g5, 0, none⟩ = some (.slice A1 l1.length c1) := (blk_cell BKg5.out 0).trans rfl
 have hfzg5 := blk_frozen BKg5.out 0
 try go_wp2_with (first | ((with_reducible refine gate_callee (f := 17) rfl ?_); refine goesL_ (some 42) rfl rfl Try.func17 (by kernel_rfl) rfl #[.agg #[.slice A0 l0.length c0]] rfl (by (try simp only [yiy, yjy, yky]); first | done | rfl | (simp only [yly, ymy]; rfl)) ?_; (with_reducible refine (laws_toTriangulation.calls k _ _ l0 t24 _ ?side1 ?side2 H23.out).mono ?_); (case side1 => exact Kd.C_below HR0.out HB.out); (case side2 => exact HC0.out); rintro e w11 ⟨vo25, rfl, ho0, hb⟩; refine ⟨_, rfl, ?_⟩; (try clear hczg4 hfzg4 hczg5 hfzg5); obtain ⟨loo25, hio25, hno25⟩ := ObS.made ho0 hb HT.out (below_size HB.out); have nOo11 := Aside0.mk (ObS.below HOo11.out hb); have nOo14 := Aside0.mk (ObS.below HOo14.out hb); have nOo17 := Aside0.mk (ObR.below HOo17.out hb); have nOo20 := Aside0.mk (ObR.below HOo20.out hb); have nBg4 := Aside0.mk (blk_below (g := g4) (o := .cells #[.slice A0 l0.length c0] 24 (0, 0)) BKg4.out hb); have nBg5 := Aside0.mk (blk_below (g := g5) (o := .cells #[.slice A1 l1.length c1] 24 (0, 0)) BKg5.out hb); have nHB := Aside0.mk (below_step HB.out hb); have nHT := Aside0.mk (top_below HT.out hb); clear HB HT HOo11 HOo14 HOo17 HOo20 BKg4 BKg5; have HOo11 := nOo11; have HOo14 := nOo14; have HOo17 := nOo17; have HOo20 := nOo20; have BKg4 := nBg4; have BKg5 := nBg5; have HB := nHB; have HT := nHT; clear nHB nHT nOo11 nOo14 nOo17 nOo20 nBg4 nBg5; have HNo25 := Aside0.mk hno25.1; clear HT; have HT := Aside0.mk hno25.2.1; have HOo25 := Aside0.mk hno25.2.2; clear hno25 ho0; obtain ⟨Ao25, co25, eeo25⟩ := HOo25.out.slice; subst eeo25; (try clear hb); (try clear hnd); have hczg4 : w11.cell? ⟨g4, 0, none⟩ = some (.slice A0 l0.length c0) := (blk_cell BKg4.out 0).trans rfl; have hfzg4 := blk_frozen BKg4.out 0; have hczg5 : w11.cell? ⟨g5, 0, none⟩ = some (.slice A1 l1.length c1) := (blk_cell BKg5.out 0).trans rfl; have hfzg5 := blk_frozen BKg5.out 0) | ((with_reducible refine gate_dst (N := 11) rfl ?_); refine box_event ?hg (N := 11) ?hd (cs := #[.slice none 0 0]) (t := 28) ?hr ?_; (case hd => rfl); (case hg => rfl); (case hr => first | (go_simp; done) | (go_simp; rfl)); intro g11 hg w12 hbox hb; (try clear hczg4 hfzg4 hczg5 hfzg5); have HNg11 := Aside0.mk (by rw [hg]; exact HT.out : hio25 ≤ g11); have HXg11 := Aside0.mk (show g11 + 1 ≤ w12.heap.size from blk_lt hbox); have nOo11 := Aside0.mk (ObS.below HOo11.out hb); have nOo14 := Aside0.mk (ObS.below HOo14.out hb); have nOo17 := Aside0.mk (ObR.below HOo17.out hb); have nOo20 := Aside0.mk (ObR.below HOo20.out hb); have nOo25 := Aside0.mk (ObS.below HOo25.out hb); have nBg4 := Aside0.mk (blk_below (g := g4) (o := .cells #[.slice A0 l0.length c0] 24 (0, 0)) BKg4.out hb); have nBg5 := Aside0.mk (blk_below (g := g5) (o := .cells #[.slice A1 l1.length c1] 24 (0, 0)) BKg5.out hb); have nHB := Aside0.mk (below_step HB.out hb); have nHT := Aside0.mk (top_below HT.out hb); clear HB HT HOo11 HOo14 HOo17 HOo20 HOo25 BKg4 BKg5; have HOo11 := nOo11; have HOo14 := nOo14; have HOo17 := nOo17; have HOo20 := nOo20; have HOo25 := nOo25; have BKg4 := nBg4; have BKg5 := nBg5; have HB := nHB; have HT := nHT; clear nHB nHT nOo11 nOo14 nOo17 nOo20 nOo25 nBg4 nBg5; clear HT; have HT := HXg11; clear HXg11; have BKg11 := Aside0.mk hbox; clear hg hbox hb; have hnbg11_g4 : g11 ≠ g4 := (by have := HNg4.out; have := HNg5.out; have := HNo11.out; have := HNo14.out; have := HNo17.out; have := HNo20.out; have := HNo25.out; have := HNg11.out; omega); have hnbg4_g11 : g4 ≠ g11 := (by have := HNg4.out; have := HNg5.out; have := HNo11.out; have := HNo14.out; have := HNo17.out; have := HNo20.out; have := HNo25.out; have := HNg11.out; omega); have hnbg11_g5 : g11 ≠ g5 := (by have := HNg4.out; have := HNg5.out; have := HNo11.out; have := HNo14.out; have := HNo17.out; have := HNo20.out; have := HNo25.out; have := HNg11.out; omega); have hnbg5_g11 : g5 ≠ g11 := (by have := HNg4.out; have := HNg5.out; have := HNo11.out; have := HNo14.out; have := HNo17.out; have := HNo20.out; have := HNo25.out; have := HNg11.out; omega); have hczg4 : w12.cell? ⟨g4, 0, none⟩ = some (.slice A0 l0.length c0) := (blk_cell BKg4.out 0).trans rfl; have hfzg4 := blk_frozen BKg4.out 0; have hczg5 : w12.cell? ⟨g5, 0, none⟩ = some (.slice A1 l1.length c1) := (blk_cell BKg5.out 0).trans rfl; have hfzg5 := blk_frozen BKg5.out 0; have hczg11 : w12.cell? ⟨g11, 0, none⟩ = some (.slice none 0 0) := (blk_cell BKg11.out 0).trans rfl; have hfzg11 := blk_frozen BKg11.out 0) | ((with_reducible refine gate_callee (f := 17) rfl ?_); refine goesL_ (some 44) rfl rfl Try.func17 (by kernel_rfl) rfl #[.agg #[.slice A1 l1.length c1]] rfl (by (try simp only [yiy, yjy, yky]); first | done | rfl | (simp only [yly, ymy]; rfl)) ?_; (with_reducible refine (laws_toTriangulation.calls k _ _ l1 t27 _ ?side1 ?side2 H26.out).mono ?_); (case side1 => exact Kd.C_below HR1.out (below_set HB.out (show w.heap.size ≤ g11 from (by have := HNg4.out; have := HNg5.out; have := HNo11.out; have := HNo14.out; have := HNo17.out; have := HNo20.out; have := HNo25.out; have := HNg11.out; omega)))); (case side2 => exact HC1.out); rintro e w13 ⟨vo28, rfl, ho0, hb⟩; refine ⟨_, rfl, ?_⟩; (try clear hczg4 hfzg4 hczg5 hfzg5 hczg11 hfzg11); obtain ⟨loo28, hio28, hno28⟩ := ObS.made ho0 hb (top_far HT.out) (below_size (below_set HB.out (show w.heap.size ≤ g11 from (by have := HNg4.out; have := HNg5.out; have := HNo11.out; have := HNo14.out; have := HNo17.out; have := HNo20.out; have := HNo25.out; have := HNg11.out; omega)))); have nOo11 := Aside0.mk (ObS.below (ObS.far (g := g11) (i := 0) HOo11.out (by have := HNg4.out; have := HNg5.out; have := HNo11.out; have := HNo14.out; have := HNo17.out; have := HNo20.out; have := HNo25.out; have := HNg11.out; omega) _) hb); have nOo14 := Aside0.mk (ObS.below (ObS.far (g := g11) (i := 0) HOo14.out (by have := HNg4.out; have := HNg5.out; have := HNo11.out; have := HNo14.out; have := HNo17.out; have := HNo20.out; have := HNo25.out; have := HNg11.out; omega) _) hb); have nOo17 := Aside0.mk (ObR.below (ObR.far (g := g11) (i := 0) HOo17.out (by have := HNg4.out; have := HNg5.out; have := HNo11.out; have := HNo14.out; have := HNo17.out; have := HNo20.out; have := HNo25.out; have := HNg11.out; omega) _) hb); have nOo20 := Aside0.mk (ObR.below (ObR.far (g := g11) (i := 0) HOo20.out (by have := HNg4.out; have := HNg5.out; have := HNo11.out; have := HNo14.out; have := HNo17.out; have := HNo20.out; have := HNo25.out; have := HNg11.out; omega) _) hb); have nOo25 := Aside0.mk (ObS.below (ObS.far (g := g11) (i := 0) HOo25.out (by have := HNg4.out; have := HNg5.out; have := HNo11.out; have := HNo14.out; have := HNo17.out; have := HNo20.out; have := HNo25.out; have := HNg11.out; omega) _) hb); have nBg4 := Aside0.mk (blk_below (g := g4) (o := .cells #[.slice A0 l0.length c0] 24 (0, 0)) (blk_far (p := ⟨g11, 0, none⟩) BKg4.out (show g4 ≠ g11 from (by have := HNg4.out; have := HNg5.out; have := HNo11.out; have := HNo14.out; have := HNo17.out; have := HNo20.out; have := HNo25.out; have := HNg11.out; omega)) _) hb); have nBg5 := Aside0.mk (blk_below (g := g5) (o := .cells #[.slice A1 l1.length c1] 24 (0, 0)) (blk_far (p := ⟨g11, 0, none⟩) BKg5.out (show g5 ≠ g11 from (by have := HNg4.out; have := HNg5.out; have := HNo11.out; have := HNo14.out; have := HNo17.out; have := HNo20.out; have := HNo25.out; have := HNg11.out; omega)) _) hb); have nBg11 := Aside0.mk (blk_below (g := g11) (o := .cells #[.slice Ao25 t24.length co25] 28 (0, 0)) (blk_put (cs := #[.slice none 0 0]) BKg11.out 0 _ rfl) hb); have nHB := Aside0.mk (below_step (below_set HB.out (show w.heap.size ≤ g11 from (by have := HNg4.out; have := HNg5.out; have := HNo11.out; have := HNo14.out; have := HNo17.out; have := HNo20.out; have := HNo25.out; have := HNg11.out; omega))) hb); have nHT := Aside0.mk (top_below (top_far HT.out) hb); clear HB HT HOo11 HOo14 HOo17 HOo20 HOo25 BKg4 BKg5 BKg11; have HOo11 := nOo11; have HOo14 := nOo14; have HOo17 := nOo17; have HOo20 := nOo20; have HOo25 := nOo25; have BKg4 := nBg4; have BKg5 := nBg5; have BKg11 := nBg11; have HB := nHB; have HT := nHT; clear nHB nHT nOo11 nOo14 nOo17 nOo20 nOo25 nBg4 nBg5 nBg11; have HNo28 := Aside0.mk hno28.1; clear HT; have HT := Aside0.mk hno28.2.1; have HOo28 := Aside0.mk hno28.2.2; clear hno28 ho0; obtain ⟨Ao28, co28, eeo28⟩ := HOo28.out.slice; subst eeo28; (try clear hb); (try clear hnd); have hczg4 : w13.cell? ⟨g4, 0, none⟩ = some (.slice A0 l0.length c0) := (blk_cell BKg4.out 0).trans rfl; have hfzg4 := blk_frozen BKg4.out 0; have hczg5 : w13.cell? ⟨g5, 0, none⟩ = some (.slice A1 l1.length c1) := (blk_cell BKg5.out 0).trans rfl; have hfzg5 := blk_frozen BKg5.out 0; have hczg11 : w13.cell? ⟨g11, 0, none⟩ = some (.slice Ao25 t24.length co25) := (blk_cell BKg11.out 0).trans rfl; have hfzg11 := blk_frozen BKg11.out 0) | ((with_reducible refine gate_dst (N := 12) rfl ?_); refine box_event ?hg (N := 12) ?hd (cs := #[.slice none 0 0]) (t := 28) ?hr ?_; (case hd => rfl); (case hg => rfl); (case hr => first | (go_simp; done) | (go_simp; rfl)); intro g12 hg w14 hbox hb; (try clear hczg4 hfzg4 hczg5 hfzg5 hczg11 hfzg11); have HNg12 := Aside0.mk (by rw [hg]; exact HT.out : hio28 ≤ g12); have HXg12 := Aside0.mk (show g12 + 1 ≤ w14.heap.size from blk_lt hbox); have nOo11 := Aside0.mk (ObS.below HOo11.out hb); have nOo14 := Aside0.mk (ObS.below HOo14.out hb); have nOo17 := Aside0.mk (ObR.below HOo17.out hb); have nOo20 := Aside0.mk (ObR.below HOo20.out hb); have nOo25 := Aside0.mk (ObS.below HOo25.out hb); have nOo28 := Aside0.mk (ObS.below HOo28.out hb); have nBg4 := Aside0.mk (blk_below (g := g4) (o := .cells #[.slice A0 l0.length c0] 24 (0, 0)) BKg4.out hb); have nBg5 := Aside0.mk (blk_below (g := g5) (o := .cells #[.slice A1 l1.length c1] 24 (0, 0)) BKg5.out hb); have nBg11 := Aside0.mk (blk_below (g := g11) (o := .cells #[.slice Ao25 t24.length co25] 28 (0, 0)) BKg11.out hb); have nHB := Aside0.mk (below_step HB.out hb); have nHT := Aside0.mk (top_below HT.out hb); clear HB HT HOo11 HOo14 HOo17 HOo20 HOo25 HOo28 BKg4 BKg5 BKg11; have HOo11 := nOo11; have HOo14 := nOo14; have HOo17 := nOo17; have HOo20 := nOo20; have HOo25 := nOo25; have HOo28 := nOo28; have BKg4 := nBg4; have BKg5 := nBg5; have BKg11 := nBg11; have HB := nHB; have HT := nHT; clear nHB nHT nOo11 nOo14 nOo17 nOo20 nOo25 nOo28 nBg4 nBg5 nBg11; clear HT; have HT := HXg12; clear HXg12; have BKg12 := Aside0.mk hbox; clear hg hbox hb; have hnbg12_g4 : g12 ≠ g4 := (by have := HNg4.out; have := HNg5.out; have := HNo11.out; have := HNo14.out; have := HNo17.out; have := HNo20.out; have := HNo25.out; have := HNg11.out; have := HNo28.out; have := HNg12.out; omega); have hnbg4_g12 : g4 ≠ g12 := (by have := HNg4.out; have := HNg5.out; have := HNo11.out; have := HNo14.out; have := HNo17.out; have := HNo20.out; have := HNo25.out; have := HNg11.out; have := HNo28.out; have := HNg12.out; omega); have hnbg12_g5 : g12 ≠ g5 := (by have := HNg4.out; have := HNg5.out; have := HNo11.out; have := HNo14.out; have := HNo17.out; have := HNo20.out; have := HNo25.out; have := HNg11.out; have := HNo28.out; have := HNg12.out; omega); have hnbg5_g12 : g5 ≠ g12 := (by have := HNg4.out; have := HNg5.out; have := HNo11.out; have := HNo14.out; have := HNo17.out; have := HNo20.out; have := HNo25.out; have := HNg11.out; have := HNo28.out; have := HNg12.out; omega); have hnbg12_g11 : g12 ≠ g11 := (by have := HNg4.out; have := HNg5.out; have := HNo11.out; have := HNo14.out; have := HNo17.out; have := HNo20.out; have := HNo25.out; have := HNg11.out; have := HNo28.out; have := HNg12.out; omega); have hnbg11_g12 : g11 ≠ g12 := (by have := HNg4.out; have := HNg5.out; have := HNo11.out; have := HNo14.out; have := HNo17.out; have := HNo20.out; have := HNo25.out; have := HNg11.out; have := HNo28.out; have := HNg12.out; omega); have hczg4 : w14.cell? ⟨g4, 0, none⟩ = some (.slice A0 l0.length c0) := (blk_cell BKg4.out 0).trans rfl; have hfzg4 := blk_frozen BKg4.out 0; have hczg5 : w14.cell? ⟨g5, 0, none⟩ = some (.slice A1 l1.length c1) := (blk_cell BKg5.out 0).trans rfl; have hfzg5 := blk_frozen BKg5.out 0; have hczg11 : w14.cell? ⟨g11, 0, none⟩ = some (.slice Ao25 t24.length co25) := (blk_cell BKg11.out 0).trans rfl; have hfzg11 := blk_frozen BKg11.out 0; have hczg12 : w14.cell? ⟨g12, 0, none⟩ = some (.slice none 0 0) := (blk_cell BKg12.out 0).trans rfl; have hfzg12 := blk_frozen BKg12.out 0) | ((with_reducible refine gate_callee (f := 31) rfl ?_); refine goesL_ (some 46) rfl rfl Try.func31 (by kernel_rfl) rfl #[.slice A2 l2.length c2] rfl (by (try simp only [yiy, yjy, yky]); first | done | rfl | (simp only [yly, ymy]; rfl)) ?_; (with_reducible refine (laws_toInt64S.calls k _ _ l2 t30 _ ?side1 ?side2 H29.out).mono ?_); (case side1 => exact Kd.C_below HR2.out (below_set HB.out (show w.heap.size ≤ g12 from (by have := HNg4.out; have := HNg5.out; have := HNo11.out; have := HNo14.out; have := HNo17.out; have := HNo20.out; have := HNo25.out; have := HNg11.out; have := HNo28.out; have := HNg12.out; omega)))); (case side2 => exact HC2.out); rintro e w15 ⟨vo31, rfl, ho0, hb⟩; refine ⟨_, rfl, ?_⟩; (try clear hczg4 hfzg4 hczg5 hfzg5 hczg11 hfzg11 hczg12 hfzg12); obtain ⟨loo31, hio31, hno31⟩ := ObR.made ho0 hb (top_far HT.out) (below_size (below_set HB.out (show w.heap.size ≤ g12 from (by have := HNg4.out; have := HNg5.out; have := HNo11.out; have := HNo14.out; have := HNo17.out; have := HNo20.out; have := HNo25.out; have := HNg11.out; have := HNo28.out; have := HNg12.out; omega)))); have nOo11 := Aside0.mk (ObS.below (ObS.far (g := g12) (i := 0) HOo11.out (by have := HNg4.out; have := HNg5.out; have := HNo11.out; have := HNo14.out; have := HNo17.out; have := HNo20.out; have := HNo25.out; have := HNg11.out; have := HNo28.out; have := HNg12.out; omega) _) hb); have nOo14 := Aside0.mk (ObS.below (ObS.far (g := g12) (i := 0) HOo14.out (by have := HNg4.out; have := HNg5.out; have := HNo11.out; have := HNo14.out; have := HNo17.out; have := HNo20.out; have := HNo25.out; have := HNg11.out; have := HNo28.out; have := HNg12.out; omega) _) hb); have nOo17 := Aside0.mk (ObR.below (ObR.far (g := g12) (i := 0) HOo17.out (by have := HNg4.out; have := HNg5.out; have := HNo11.out; have := HNo14.out; have := HNo17.out; have := HNo20.out; have := HNo25.out; have := HNg11.out; have := HNo28.out; have := HNg12.out; omega) _) hb); have nOo20 := Aside0.mk (ObR.below (ObR.far (g := g12) (i := 0) HOo20.out (by have := HNg4.out; have := HNg5.out; have := HNo11.out; have := HNo14.out; have := HNo17.out; have := HNo20.out; have := HNo25.out; have := HNg11.out; have := HNo28.out; have := HNg12.out; omega) _) hb); have nOo25 := Aside0.mk (ObS.below (ObS.far (g := g12) (i := 0) HOo25.out (by have := HNg4.out; have := HNg5.out; have := HNo11.out; have := HNo14.out; have := HNo17.out; have := HNo20.out; have := HNo25.out; have := HNg11.out; have := HNo28.out; have := HNg12.out; omega) _) hb); have nOo28 := Aside0.mk (ObS.below (ObS.far (g := g12) (i := 0) HOo28.out (by have := HNg4.out; have := HNg5.out; have := HNo11.out; have := HNo14.out; have := HNo17.out; have := HNo20.out; have := HNo25.out; have := HNg11.out; have := HNo28.out; have := HNg12.out; omega) _) hb); have nBg4 := Aside0.mk (blk_below (g := g4) (o := .cells #[.slice A0 l0.length c0] 24 (0, 0)) (blk_far (p := ⟨g12, 0, none⟩) BKg4.out (show g4 ≠ g12 from (by have := HNg4.out; have := HNg5.out; have := HNo11.out; have := HNo14.out; have := HNo17.out; have := HNo20.out; have := HNo25.out; have := HNg11.out; have := HNo28.out; have := HNg12.out; omega)) _) hb); have nBg5 := Aside0.mk (blk_below (g := g5) (o := .cells #[.slice A1 l1.length c1] 24 (0, 0)) (blk_far (p := ⟨g12, 0, none⟩) BKg5.out (show g5 ≠ g12 from (by have := HNg4.out; have := HNg5.out; have := HNo11.out; have := HNo14.out; have := HNo17.out; have := HNo20.out; have := HNo25.out; have := HNg11.out; have := HNo28.out; have := HNg12.out; omega)) _) hb); have nBg11 := Aside0.mk (blk_below (g := g11) (o := .cells #[.slice Ao25 t24.length co25] 28 (0, 0)) (blk_far (p := ⟨g12, 0, none⟩) BKg11.out (show g11 ≠ g12 from (by have := HNg4.out; have := HNg5.out; have := HNo11.out; have := HNo14.out; have := HNo17.out; have := HNo20.out; have := HNo25.out; have := HNg11.out; have := HNo28.out; have := HNg12.out; omega)) _) hb); have nBg12 := Aside0.mk (blk_below (g := g12) (o := .cells #[.slice Ao28 t27.length co28] 28 (0, 0)) (blk_put (cs := #[.slice none 0 0]) BKg12.out 0 _ rfl) hb); have nHB := Aside0.mk (below_step (below_set HB.out (show w.heap.size ≤ g12 from (by have := HNg4.out; have := HNg5.out; have := HNo11.out; have := HNo14.out; have := HNo17.out; have := HNo20.out; have := HNo25.out; have := HNg11.out; have := HNo28.out; have := HNg12.out; omega))) hb); have nHT := Aside0.mk (top_below (top_far HT.out) hb); clear HB HT HOo11 HOo14 HOo17 HOo20 HOo25 HOo28 BKg4 BKg5 BKg11 BKg12; have HOo11 := nOo11; have HOo14 := nOo14; have HOo17 := nOo17; have HOo20 := nOo20; have HOo25 := nOo25; have HOo28 := nOo28; have BKg4 := nBg4; have BKg5 := nBg5; have BKg11 := nBg11; have BKg12 := nBg12; have HB := nHB; have HT := nHT; clear nHB nHT nOo11 nOo14 nOo17 nOo20 nOo25 nOo28 nBg4 nBg5 nBg11 nBg12; have HNo31 := Aside0.mk hno31.1; clear HT; have HT := Aside0.mk hno31.2.1; have HOo31 := Aside0.mk hno31.2.2; clear hno31 ho0; obtain ⟨Ao31, co31, eeo31⟩ := HOo31.out.slice; subst eeo31; (try clear hb); (try clear hnd); have hczg4 : w15.cell? ⟨g4, 0, none⟩ = some (.slice A0 l0.length c0) := (blk_cell BKg4.out 0).trans rfl; have hfzg4 := blk_frozen BKg4.out 0; have hczg5 : w15.cell? ⟨g5, 0, none⟩ = some (.slice A1 l1.length c1) := (blk_cell BKg5.out 0).trans rfl; have hfzg5 := blk_frozen BKg5.out 0; have hczg11 : w15.cell? ⟨g11, 0, none⟩ = some (.slice Ao25 t24.length co25) := (blk_cell BKg11.out 0).trans rfl; have hfzg11 := blk_frozen BKg11.out 0; have hczg12 : w15.cell? ⟨g12, 0, none⟩ = some (.slice Ao28 t27.length co28) := (blk_cell BKg12.out 0).trans rfl; have hfzg12 := blk_frozen BKg12.out 0) | ((with_reducible refine gate_callee (f := 31) rfl ?_); refine goesL_ (some 48) rfl rfl Try.func31 (by kernel_rfl) rfl #[.slice A3 l3.length c3] rfl (by (try simp only [yiy, yjy, yky]); first | done | rfl | (simp only [yly, ymy]; rfl)) ?_; (with_reducible refine (laws_toInt64S.calls k _ _ l3 t33 _ ?side1 ?side2 H32.out).mono ?_); (case side1 => exact Kd.C_below HR3.out HB.out); (case side2 => exact HC3.out); rintro e w16 ⟨vo34, rfl, ho0, hb⟩; refine ⟨_, rfl, ?_⟩; (try clear hczg4 hfzg4 hczg5 hfzg5 hczg11 hfzg11 hczg12 hfzg12); obtain ⟨loo34, hio34, hno34⟩ := ObR.made ho0 hb HT.out (below_size HB.out); have nOo11 := Aside0.mk (ObS.below HOo11.out hb); have nOo14 := Aside0.mk (ObS.below HOo14.out hb); have nOo17 := Aside0.mk (ObR.below HOo17.out hb); have nOo20 := Aside0.mk (ObR.below HOo20.out hb); have nOo25 := Aside0.mk (ObS.below HOo25.out hb); have nOo28 := Aside0.mk (ObS.below HOo28.out hb); have nOo31 := Aside0.mk (ObR.below HOo31.out hb); have nBg4 := Aside0.mk (blk_below (g := g4) (o := .cells #[.slice A0 l0.length c0] 24 (0, 0)) BKg4.out hb); have nBg5 := Aside0.mk (blk_below (g := g5) (o := .cells #[.slice A1 l1.length c1] 24 (0, 0)) BKg5.out hb); have nBg11 := Aside0.mk (blk_below (g := g11) (o := .cells #[.slice Ao25 t24.length co25] 28 (0, 0)) BKg11.out hb); have nBg12 := Aside0.mk (blk_below (g := g12) (o := .cells #[.slice Ao28 t27.length co28] 28 (0, 0)) BKg12.out hb); have nHB := Aside0.mk (below_step HB.out hb); have nHT := Aside0.mk (top_below HT.out hb); clear HB HT HOo11 HOo14 HOo17 HOo20 HOo25 HOo28 HOo31 BKg4 BKg5 BKg11 BKg12; have HOo11 := nOo11; have HOo14 := nOo14; have HOo17 := nOo17; have HOo20 := nOo20; have HOo25 := nOo25; have HOo28 := nOo28; have HOo31 := nOo31; have BKg4 := nBg4; have BKg5 := nBg5; have BKg11 := nBg11; have BKg12 := nBg12; have HB := nHB; have HT := nHT; clear nHB nHT nOo11 nOo14 nOo17 nOo20 nOo25 nOo28 nOo31 nBg4 nBg5 nBg11 nBg12; have HNo34 := Aside0.mk hno34.1; clear HT; have HT := Aside0.mk hno34.2.1; have HOo34 := Aside0.mk hno34.2.2; clear hno34 ho0; obtain ⟨Ao34, co34, eeo34⟩ := HOo34.out.slice; subst eeo34; (try clear hb); (try clear hnd); have hczg4 : w16.cell? ⟨g4, 0, none⟩ = some (.slice A0 l0.length c0) := (blk_cell BKg4.out 0).trans rfl; have hfzg4 := blk_frozen BKg4.out 0; have hczg5 : w16.cell? ⟨g5, 0, none⟩ = some (.slice A1 l1.length c1) := (blk_cell BKg5.out 0).trans rfl; have hfzg5 := blk_frozen BKg5.out 0; have hczg11 : w16.cell? ⟨g11, 0, none⟩ = some (.slice Ao25 t24.length co25) := (blk_cell BKg11.out 0).trans rfl; have hfzg11 := blk_frozen BKg11.out 0; have hczg12 : w16.cell? ⟨g12, 0, none⟩ = some (.slice Ao28 t27.length co28) := (blk_cell BKg12.out 0).trans rfl; have hfzg12 := blk_frozen BKg12.out 0) | ((with_reducible refine gate_callee (f := 40) rfl ?_); refine goesL_ (some 53) rfl rfl Try.func40 (by kernel_rfl) rfl #[.agg #[.slice Ao25 t24.length co25], .agg #[.slice Ao28 t27.length co28], .slice Ao31 t30.length co31, .slice Ao34 t33.length co34] rfl (by (try simp only [yiy, yjy, yky]); first | done | rfl | (simp only [yly, ymy]; rfl)) ?_; (with_reducible refine (impl_IsIsomorphism.calls k _ _ t24 _ _ t27 _ _ t30 _ _ t33 t36 _ ?side1 ?side2 ?side3 ?side4 ?side5 ?side6 ?side7 ?side8 H35.out).mono ?_); (case side1 => exact (ObS.reads HOo25.out).2.2); (case side2 => exact ObS.room HOo25.out); (case side3 => exact (ObS.reads HOo28.out).2.2); (case side4 => exact ObS.room HOo28.out); (case side5 => exact (ObR.reads HOo31.out).2.2); (case side6 => exact ObR.room HOo31.out); (case side7 => exact (ObR.reads HOo34.out).2.2); (case side8 => exact ObR.room HOo34.out); rintro e w17 ⟨rfl, hb⟩; refine ⟨_, rfl, ?_⟩; (try clear hczg4 hfzg4 hczg5 hfzg5 hczg11 hfzg11 hczg12 hfzg12); have nOo11 := Aside0.mk (ObS.below HOo11.out hb); have nOo14 := Aside0.mk (ObS.below HOo14.out hb); have nOo17 := Aside0.mk (ObR.below HOo17.out hb); have nOo20 := Aside0.mk (ObR.below HOo20.out hb); have nOo25 := Aside0.mk (ObS.below HOo25.out hb); have nOo28 := Aside0.mk (ObS.below HOo28.out hb); have nOo31 := Aside0.mk (ObR.below HOo31.out hb); have nOo34 := Aside0.mk (ObR.below HOo34.out hb); have nBg4 := Aside0.mk (blk_below (g := g4) (o := .cells #[.slice A0 l0.length c0] 24 (0, 0)) BKg4.out hb); have nBg5 := Aside0.mk (blk_below (g := g5) (o := .cells #[.slice A1 l1.length c1] 24 (0, 0)) BKg5.out hb); have nBg11 := Aside0.mk (blk_below (g := g11) (o := .cells #[.slice Ao25 t24.length co25] 28 (0, 0)) BKg11.out hb); have nBg12 := Aside0.mk (blk_below (g := g12) (o := .cells #[.slice Ao28 t27.length co28] 28 (0, 0)) BKg12.out hb); have nHB := Aside0.mk (below_step HB.out hb); have nHT := Aside0.mk (top_below HT.out hb); clear HB HT HOo11 HOo14 HOo17 HOo20 HOo25 HOo28 HOo31 HOo34 BKg4 BKg5 BKg11 BKg12; have HOo11 := nOo11; have HOo14 := nOo14; have HOo17 := nOo17; have HOo20 := nOo20; have HOo25 := nOo25; have HOo28 := nOo28; have HOo31 := nOo31; have HOo34 := nOo34; have BKg4 := nBg4; have BKg5 := nBg5; have BKg11 := nBg11; have BKg12 := nBg12; have HB := nHB; have HT := nHT; clear nHB nHT nOo11 nOo14 nOo17 nOo20 nOo25 nOo28 nOo31 nOo34 nBg4 nBg5 nBg11 nBg12; (try clear hb); (try clear hnd); have hczg4 : w17.cell? ⟨g4, 0, none⟩ = some (.slice A0 l0.length c0) := (blk_cell BKg4.out 0).trans rfl; have hfzg4 := blk_frozen BKg4.out 0; have hczg5 : w17.cell? ⟨g5, 0, none⟩ = some (.slice A1 l1.length c1) := (blk_cell BKg5.out 0).trans rfl; have hfzg5 := blk_frozen BKg5.out 0; have hczg11 : w17.cell? ⟨g11, 0, none⟩ = some (.slice Ao25 t24.length co25) := (blk_cell BKg11.out 0).trans rfl; have hfzg11 := blk_frozen BKg11.out 0; have hczg12 : w17.cell? ⟨g12, 0, none⟩ = some (.slice Ao28 t27.length co28) := (blk_cell BKg12.out 0).trans rfl; have hfzg12 := blk_frozen BKg12.out 0))
 (try clear hczg4 hfzg4 hczg5 hfzg5 hczg11 hfzg11 hczg12 hfzg12)
 have nOo11 := Aside0.mk (ObS.drew HOo11.out)
 have nOo14 := Aside0.mk (ObS.drew HOo14.out)
 have nOo17 := Aside0.mk (ObR.drew HOo17.out)
 have nOo20 := Aside0.mk (ObR.drew HOo20.out)
 have nOo25 := Aside0.mk (ObS.drew HOo25.out)
 have nOo28 := Aside0.mk (ObS.drew HOo28.out)
 have nOo31 := Aside0.mk (ObR.drew HOo31.out)
 have nOo34 := Aside0.mk (ObR.drew HOo34.out)
 have nBg4 := Aside0.mk (blk_drew BKg4.out)
 have nBg5 := Aside0.mk (blk_drew BKg5.out)
 have nBg11 := Aside0.mk (blk_drew BKg11.out)
 have nBg12 := Aside0.mk (blk_drew BKg12.out)
 have nHB := Aside0.mk (below_drew1 HB.out)
 have nHT := Aside0.mk (top_drew HT.out)
 clear HB HT HOo11 HOo14 HOo17 HOo20 HOo25 HOo28 HOo31 HOo34 BKg4 BKg5 BKg11 BKg12
 have HOo11 := nOo11
 have HOo14 := nOo14
 have HOo17 := nOo17
 have HOo20 := nOo20
 have HOo25 := nOo25
 have HOo28 := nOo28
 have HOo31 := nOo31
 have HOo34 := nOo34
 have BKg4 := nBg4
 have BKg5 := nBg5
 have BKg11 := nBg11
 have BKg12 := nBg12
 have HB := nHB
 have HT := nHT
 clear nHB nHT nOo11 nOo14 nOo17 nOo20 nOo25 nOo28 nOo31 nOo34 nBg4 nBg5 nBg11 nBg12
 refine start_ (n := 5) (S := fun w' => w'.cell? ⟨g11, 0, none⟩ = some (.slice Ao25 t24.length co25) ∧ w'.cell? ⟨g4, 0, none⟩ = some (.slice A0 l0.length c0)) (ds := []) #[false, false, false, false, false] (by kernel_rfl) rfl rfl ⟨(blk_cell BKg11.out 0).trans rfl, (blk_cell BKg4.out 0).trans rfl⟩ (fun hHeld => ?_)
 generalize hdr_ : World.drew _ = w18 at HOo11 HOo14 HOo17 HOo20 HOo25 HOo28 HOo31 HOo34 BKg4 BKg5 BKg11 BKg12 HB HT hHeld ⊢
 (try clear hdr_)
 refine take_ (i := 0) (N := some 57) (v := ?_) (a' := ?_) #[true, false, false, false, false] rfl rfl (by kernel_rfl) (fun _ _ _ h => h) (Or.inl ⟨by rfl, ?_⟩) hHeld ?_ ?_
 rotate_left
 next =>
  rintro w' ⟨s0, s1⟩
  go_simp
  with_reducible rfl
 rotate_left
 next =>
  simp only [Act.put, yay, yby, ycy, i64_w, i32_w]
  rfl
 refine take_ (i := 1) (N := some 58) (v := ?_) (a' := ?_) #[true, true, false, false, false] rfl rfl (by kernel_rfl) (fun _ _ _ h => h) (Or.inl ⟨by rfl, ?_⟩) hHeld ?_ ?_
 rotate_left
 next =>
  rintro w' ⟨s0, s1⟩
  go_simp
  with_reducible rfl
 rotate_left
 next =>
  simp only [Act.put, yay, yby, ycy, i64_w, i32_w]
  rfl
 refine one_ (i := 2) (N := some 59) #[true, true, true, false, false] rfl rfl (by kernel_rfl) (by decide) (fun K hK => ?_)
 refine goes_ Try.func17 (by kernel_rfl) rfl #[.agg #[.slice A0 l0.length c0]] (by rfl) rfl rfl (by (try simp only [yiy, yjy, yky]); first | done | rfl | (simp only [yly, ymy]; rfl)) ?_
 with_reducible refine (laws_toTriangulation.calls k _ _ l0 t39 _ ?side1 ?side2 H38.out).mono ?_
 (case side1 => exact Kd.C_below HR0.out HB.out)
 (case side2 => exact HC0.out)
 rintro e w19 ⟨vo40, rfl, ho0, hb⟩
 refine ⟨_, rfl, ?_⟩
 (try clear hczg4 hfzg4 hczg5 hfzg5 hczg11 hfzg11 hczg12 hfzg12)
 obtain ⟨loo40, hio40, hno40⟩ := ObS.made ho0 hb HT.out (below_size HB.out)
 have nOo11 := Aside0.mk (ObS.below HOo11.out hb)
 have nOo14 := Aside0.mk (ObS.below HOo14.out hb)
 have nOo17 := Aside0.mk (ObR.below HOo17.out hb)
 have nOo20 := Aside0.mk (ObR.below HOo20.out hb)
 have nOo25 := Aside0.mk (ObS.below HOo25.out hb)
 have nOo28 := Aside0.mk (ObS.below HOo28.out hb)
 have nOo31 := Aside0.mk (ObR.below HOo31.out hb)
 have nOo34 := Aside0.mk (ObR.below HOo34.out hb)
 have nBg4 := Aside0.mk (blk_below (g := g4) (o := .cells #[.slice A0 l0.length c0] 24 (0, 0)) BKg4.out hb)
 have nBg5 := Aside0.mk (blk_below (g := g5) (o := .cells #[.slice A1 l1.length c1] 24 (0, 0)) BKg5.out hb)
 have nBg11 := Aside0.mk (blk_below (g := g11) (o := .cells #[.slice Ao25 t24.length co25] 28 (0, 0)) BKg11.out hb)
 have nBg12 := Aside0.mk (blk_below (g := g12) (o := .cells #[.slice Ao28 t27.length co28] 28 (0, 0)) BKg12.out hb)
 have nHB := Aside0.mk (below_step HB.out hb)
 have nHT := Aside0.mk (top_below HT.out hb)
 clear HB HT HOo11 HOo14 HOo17 HOo20 HOo25 HOo28 HOo31 HOo34 BKg4 BKg5 BKg11 BKg12
 have HOo11 := nOo11
 have HOo14 := nOo14
 have HOo17 := nOo17
 have HOo20 := nOo20
 have HOo25 := nOo25
 have HOo28 := nOo28
 have HOo31 := nOo31
 have HOo34 := nOo34
 have BKg4 := nBg4
 have BKg5 := nBg5
 have BKg11 := nBg11
 have BKg12 := nBg12
 have HB := nHB
 have HT := nHT
 clear nHB nHT nOo11 nOo14 nOo17 nOo20 nOo25 nOo28 nOo31 nOo34 nBg4 nBg5 nBg11 nBg12
 have HNo40 := Aside0.mk hno40.1
 clear HT
 have HT := Aside0.mk hno40.2.1
 have HOo40 := Aside0.mk hno40.2.2
 clear hno40 ho0
 obtain ⟨Ao40, co40, eeo40⟩ := HOo40.out.slice
 subst eeo40
 (try clear hb)
 (try clear hnd)
 refine hK.out _ _ ⟨(blk_cell BKg11.out 0).trans rfl, (blk_cell BKg4.out 0).trans rfl⟩ (fun hHeld => ?_)
 clear hK K
 refine norm_ (a' := ?_) ?_ ?_
 rotate_left
 next =>
  show Act.put _ (some 59) _ = _
  simp only [Act.put, yay, yby, ycy, i64_w, i32_w]
  rfl
 refine one_ (i := 3) (N := some 60) #[true, true, true, true, false] rfl rfl (by kernel_rfl) (by decide) (fun K hK => ?_)
 refine goes_ Try.func19 (by kernel_rfl) rfl #[.agg #[.slice Ao25 t24.length co25], .agg #[.slice Ao40 t39.length co40]] (by rfl) rfl rfl (by (try simp only [yiy, yjy, yky]); first | done | rfl | (simp only [yly, ymy]; rfl)) ?_
 with_reducible refine (laws_eqTriangulation.calls k _ _ t24 _ _ t39 true _ ?side1 ?side2 ?side3 ?side4 H41.out).mono ?_
 (case side1 => exact (ObS.reads HOo25.out).2.2)
 (case side2 => exact ObS.room HOo25.out)
 (case side3 => exact (ObS.reads HOo40.out).2.2)
 (case side4 => exact ObS.room HOo40.out)
 rintro e w20 ⟨rfl, hb⟩
 refine ⟨_, rfl, ?_⟩
 (try clear hczg4 hfzg4 hczg5 hfzg5 hczg11 hfzg11 hczg12 hfzg12)
 have nOo11 := Aside0.mk (ObS.below HOo11.out hb)
 have nOo14 := Aside0.mk (ObS.below HOo14.out hb)
 have nOo17 := Aside0.mk (ObR.below HOo17.out hb)
 have nOo20 := Aside0.mk (ObR.below HOo20.out hb)
 have nOo25 := Aside0.mk (ObS.below HOo25.out hb)
 have nOo28 := Aside0.mk (ObS.below HOo28.out hb)
 have nOo31 := Aside0.mk (ObR.below HOo31.out hb)
 have nOo34 := Aside0.mk (ObR.below HOo34.out hb)
 have nOo40 := Aside0.mk (ObS.below HOo40.out hb)
 have nBg4 := Aside0.mk (blk_below (g := g4) (o := .cells #[.slice A0 l0.length c0] 24 (0, 0)) BKg4.out hb)
 have nBg5 := Aside0.mk (blk_below (g := g5) (o := .cells #[.slice A1 l1.length c1] 24 (0, 0)) BKg5.out hb)
 have nBg11 := Aside0.mk (blk_below (g := g11) (o := .cells #[.slice Ao25 t24.length co25] 28 (0, 0)) BKg11.out hb)
 have nBg12 := Aside0.mk (blk_below (g := g12) (o := .cells #[.slice Ao28 t27.length co28] 28 (0, 0)) BKg12.out hb)
 have nHB := Aside0.mk (below_step HB.out hb)
 have nHT := Aside0.mk (top_below HT.out hb)
 clear HB HT HOo11 HOo14 HOo17 HOo20 HOo25 HOo28 HOo31 HOo34 HOo40 BKg4 BKg5 BKg11 BKg12
 have HOo11 := nOo11
 have HOo14 := nOo14
 have HOo17 := nOo17
 have HOo20 := nOo20
 have HOo25 := nOo25
 have HOo28 := nOo28
 have HOo31 := nOo31
 have HOo34 := nOo34
 have HOo40 := nOo40
 have BKg4 := nBg4
 have BKg5 := nBg5
 have BKg11 := nBg11
 have BKg12 := nBg12
 have HB := nHB
 have HT := nHT
 clear nHB nHT nOo11 nOo14 nOo17 nOo20 nOo25 nOo28 nOo31 nOo34 nOo40 nBg4 nBg5 nBg11 nBg12
 (try clear hb)
 (try clear hnd)
 refine hK.out _ _ ⟨(blk_cell BKg11.out 0).trans rfl, (blk_cell BKg4.out 0).trans rfl⟩ (fun hHeld => ?_)
 clear hK K
 refine norm_ (a' := ?_) ?_ ?_
 rotate_left
 next =>
  show Act.put _ (some 60) _ = _
  simp only [Act.put, yay, yby, ycy, i64_w, i32_w]
  rfl
 refine pure_ (i := 4) (N := some 61) (v := ?_) (a' := ?_) #[true, true, true, true, true] rfl rfl (by kernel_rfl) (fun _ _ _ h => h) (Or.inl ⟨by rfl, ?_⟩) ?_ ?_
 rotate_left
 next =>
  intro w'
  go_simp
  with_reducible rfl
 rotate_left
 next =>
  simp only [Act.put, yay, yby, ycy, i64_w, i32_w]
  rfl
 refine done_ (by kernel_rfl) ?_
 have hczg4 : w20.cell? ⟨g4, 0, none⟩ = some (.slice A0 l0.length c0) := (blk_cell BKg4.out 0).trans rfl
 have hfzg4 := blk_frozen BKg4.out 0
 have hczg5 : w20.cell? ⟨g5, 0, none⟩ = some (.slice A1 l1.length c1) := (blk_cell BKg5.out 0).trans rfl
 have hfzg5 := blk_frozen BKg5.out 0
 have hczg11 : w20.cell? ⟨g11, 0, none⟩ = some (.slice Ao25 t24.length co25) := (blk_cell BKg11.out 0).trans rfl
 have hfzg11 := blk_frozen BKg11.out 0
 have hczg12 : w20.cell? ⟨g12, 0, none⟩ = some (.slice Ao28 t27.length co28) := (blk_cell BKg12.out 0).trans rfl
 have hfzg12 := blk_frozen BKg12.out 0
 try go_wp2
 (try clear hczg4 hfzg4 hczg5 hfzg5 hczg11 hfzg11 hczg12 hfzg12)
 have nOo11 := Aside0.mk (ObS.drew HOo11.out)
 have nOo14 := Aside0.mk (ObS.drew HOo14.out)
 have nOo17 := Aside0.mk (ObR.drew HOo17.out)
 have nOo20 := Aside0.mk (ObR.drew HOo20.out)
 have nOo25 := Aside0.mk (ObS.drew HOo25.out)
 have nOo28 := Aside0.mk (ObS.drew HOo28.out)
 have nOo31 := Aside0.mk (ObR.drew HOo31.out)
 have nOo34 := Aside0.mk (ObR.drew HOo34.out)
 have nOo40 := Aside0.mk (ObS.drew HOo40.out)
 have nBg4 := Aside0.mk (blk_drew BKg4.out)
 have nBg5 := Aside0.mk (blk_drew BKg5.out)
 have nBg11 := Aside0.mk (blk_drew BKg11.out)
 have nBg12 := Aside0.mk (blk_drew BKg12.out)
 have nHB := Aside0.mk (below_drew1 HB.out)
 have nHT := Aside0.mk (top_drew HT.out)
 clear HB HT HOo11 HOo14 HOo17 HOo20 HOo25 HOo28 HOo31 HOo34 HOo40 BKg4 BKg5 BKg11 BKg12
 have HOo11 := nOo11
 have HOo14 := nOo14
 have HOo17 := nOo17
 have HOo20 := nOo20
 have HOo25 := nOo25
 have HOo28 := nOo28
 have HOo31 := nOo31
 have HOo34 := nOo34
 have HOo40 := nOo40
 have BKg4 := nBg4
 have BKg5 := nBg5
 have BKg11 := nBg11
 have BKg12 := nBg12
 have HB := nHB
 have HT := nHT
 clear nHB nHT nOo11 nOo14 nOo17 nOo20 nOo25 nOo28 nOo31 nOo34 nOo40 nBg4 nBg5 nBg11 nBg12
 refine start_ (n := 5) (S := fun w' => w'.cell? ⟨g12, 0, none⟩ = some (.slice Ao28 t27.length co28) ∧ w'.cell? ⟨g5, 0, none⟩ = some (.slice A1 l1.length c1)) (ds := []) #[false, false, false, false, false] (by kernel_rfl) rfl rfl ⟨(blk_cell BKg12.out 0).trans rfl, (blk_cell BKg5.out 0).trans rfl⟩ (fun hHeld => ?_)
 generalize hdr_ : World.drew _ = w21 at HOo11 HOo14 HOo17 HOo20 HOo25 HOo28 HOo31 HOo34 HOo40 BKg4 BKg5 BKg11 BKg12 HB HT hHeld ⊢
 (try clear hdr_)
 refine take_ (i := 0) (N := some 62) (v := ?_) (a' := ?_) #[true, false, false, false, false] rfl rfl (by kernel_rfl) (fun _ _ _ h => h) (Or.inl ⟨by rfl, ?_⟩) hHeld ?_ ?_
 rotate_left
 next =>
  rintro w' ⟨s0, s1⟩
  go_simp
  with_reducible rfl
 rotate_left
 next =>
  simp only [Act.put, yay, yby, ycy, i64_w, i32_w]
  rfl
 refine take_ (i := 1) (N := some 63) (v := ?_) (a' := ?_) #[true, true, false, false, false] rfl rfl (by kernel_rfl) (fun _ _ _ h => h) (Or.inl ⟨by rfl, ?_⟩) hHeld ?_ ?_
 rotate_left
 next =>
  rintro w' ⟨s0, s1⟩
  go_simp
  with_reducible rfl
 rotate_left
 next =>
  simp only [Act.put, yay, yby, ycy, i64_w, i32_w]
  rfl
 refine one_ (i := 2) (N := some 64) #[true, true, true, false, false] rfl rfl (by kernel_rfl) (by decide) (fun K hK => ?_)
 refine goes_ Try.func17 (by kernel_rfl) rfl #[.agg #[.slice A1 l1.length c1]] (by rfl) rfl rfl (by (try simp only [yiy, yjy, yky]); first | done | rfl | (simp only [yly, ymy]; rfl)) ?_
 with_reducible refine (laws_toTriangulation.calls k _ _ l1 t44 _ ?side1 ?side2 H43.out).mono ?_
 (case side1 => exact Kd.C_below HR1.out HB.out)
 (case side2 => exact HC1.out)
 rintro e w22 ⟨vo45, rfl, ho0, hb⟩
 refine ⟨_, rfl, ?_⟩
 (try clear hczg4 hfzg4 hczg5 hfzg5 hczg11 hfzg11 hczg12 hfzg12)
 obtain ⟨loo45, hio45, hno45⟩ := ObS.made ho0 hb HT.out (below_size HB.out)
 have nOo11 := Aside0.mk (ObS.below HOo11.out hb)
 have nOo14 := Aside0.mk (ObS.below HOo14.out hb)
 have nOo17 := Aside0.mk (ObR.below HOo17.out hb)
 have nOo20 := Aside0.mk (ObR.below HOo20.out hb)
 have nOo25 := Aside0.mk (ObS.below HOo25.out hb)
 have nOo28 := Aside0.mk (ObS.below HOo28.out hb)
 have nOo31 := Aside0.mk (ObR.below HOo31.out hb)
 have nOo34 := Aside0.mk (ObR.below HOo34.out hb)
 have nOo40 := Aside0.mk (ObS.below HOo40.out hb)
 have nBg4 := Aside0.mk (blk_below (g := g4) (o := .cells #[.slice A0 l0.length c0] 24 (0, 0)) BKg4.out hb)
 have nBg5 := Aside0.mk (blk_below (g := g5) (o := .cells #[.slice A1 l1.length c1] 24 (0, 0)) BKg5.out hb)
 have nBg11 := Aside0.mk (blk_below (g := g11) (o := .cells #[.slice Ao25 t24.length co25] 28 (0, 0)) BKg11.out hb)
 have nBg12 := Aside0.mk (blk_below (g := g12) (o := .cells #[.slice Ao28 t27.length co28] 28 (0, 0)) BKg12.out hb)
 have nHB := Aside0.mk (below_step HB.out hb)
 have nHT := Aside0.mk (top_below HT.out hb)
 clear HB HT HOo11 HOo14 HOo17 HOo20 HOo25 HOo28 HOo31 HOo34 HOo40 BKg4 BKg5 BKg11 BKg12
 have HOo11 := nOo11
 have HOo14 := nOo14
 have HOo17 := nOo17
 have HOo20 := nOo20
 have HOo25 := nOo25
 have HOo28 := nOo28
 have HOo31 := nOo31
 have HOo34 := nOo34
 have HOo40 := nOo40
 have BKg4 := nBg4
 have BKg5 := nBg5
 have BKg11 := nBg11
 have BKg12 := nBg12
 have HB := nHB
 have HT := nHT
 clear nHB nHT nOo11 nOo14 nOo17 nOo20 nOo25 nOo28 nOo31 nOo34 nOo40 nBg4 nBg5 nBg11 nBg12
 have HNo45 := Aside0.mk hno45.1
 clear HT
 have HT := Aside0.mk hno45.2.1
 have HOo45 := Aside0.mk hno45.2.2
 clear hno45 ho0
 obtain ⟨Ao45, co45, eeo45⟩ := HOo45.out.slice
 subst eeo45
 (try clear hb)
 (try clear hnd)
 refine hK.out _ _ ⟨(blk_cell BKg12.out 0).trans rfl, (blk_cell BKg5.out 0).trans rfl⟩ (fun hHeld => ?_)
 clear hK K
 refine norm_ (a' := ?_) ?_ ?_
 rotate_left
 next =>
  show Act.put _ (some 64) _ = _
  simp only [Act.put, yay, yby, ycy, i64_w, i32_w]
  rfl
 refine one_ (i := 3) (N := some 65) #[true, true, true, true, false] rfl rfl (by kernel_rfl) (by decide) (fun K hK => ?_)
 refine goes_ Try.func19 (by kernel_rfl) rfl #[.agg #[.slice Ao28 t27.length co28], .agg #[.slice Ao45 t44.length co45]] (by rfl) rfl rfl (by (try simp only [yiy, yjy, yky]); first | done | rfl | (simp only [yly, ymy]; rfl)) ?_
 with_reducible refine (laws_eqTriangulation.calls k _ _ t27 _ _ t44 true _ ?side1 ?side2 ?side3 ?side4 H46.out).mono ?_
 (case side1 => exact (ObS.reads HOo28.out).2.2)
 (case side2 => exact ObS.room HOo28.out)
 (case side3 => exact (ObS.reads HOo45.out).2.2)
 (case side4 => exact ObS.room HOo45.out)
 rintro e w23 ⟨rfl, hb⟩
 refine ⟨_, rfl, ?_⟩
 (try clear hczg4 hfzg4 hczg5 hfzg5 hczg11 hfzg11 hczg12 hfzg12)
 have nOo11 := Aside0.mk (ObS.below HOo11.out hb)
 have nOo14 := Aside0.mk (ObS.below HOo14.out hb)
 have nOo17 := Aside0.mk (ObR.below HOo17.out hb)
 have nOo20 := Aside0.mk (ObR.below HOo20.out hb)
 have nOo25 := Aside0.mk (ObS.below HOo25.out hb)
 have nOo28 := Aside0.mk (ObS.below HOo28.out hb)
 have nOo31 := Aside0.mk (ObR.below HOo31.out hb)
 have nOo34 := Aside0.mk (ObR.below HOo34.out hb)
 have nOo40 := Aside0.mk (ObS.below HOo40.out hb)
 have nOo45 := Aside0.mk (ObS.below HOo45.out hb)
 have nBg4 := Aside0.mk (blk_below (g := g4) (o := .cells #[.slice A0 l0.length c0] 24 (0, 0)) BKg4.out hb)
 have nBg5 := Aside0.mk (blk_below (g := g5) (o := .cells #[.slice A1 l1.length c1] 24 (0, 0)) BKg5.out hb)
 have nBg11 := Aside0.mk (blk_below (g := g11) (o := .cells #[.slice Ao25 t24.length co25] 28 (0, 0)) BKg11.out hb)
 have nBg12 := Aside0.mk (blk_below (g := g12) (o := .cells #[.slice Ao28 t27.length co28] 28 (0, 0)) BKg12.out hb)
 have nHB := Aside0.mk (below_step HB.out hb)
 have nHT := Aside0.mk (top_below HT.out hb)
 clear HB HT HOo11 HOo14 HOo17 HOo20 HOo25 HOo28 HOo31 HOo34 HOo40 HOo45 BKg4 BKg5 BKg11 BKg12
 have HOo11 := nOo11
 have HOo14 := nOo14
 have HOo17 := nOo17
 have HOo20 := nOo20
 have HOo25 := nOo25
 have HOo28 := nOo28
 have HOo31 := nOo31
 have HOo34 := nOo34
 have HOo40 := nOo40
 have HOo45 := nOo45
 have BKg4 := nBg4
 have BKg5 := nBg5
 have BKg11 := nBg11
 have BKg12 := nBg12
 have HB := nHB
 have HT := nHT
 clear nHB nHT nOo11 nOo14 nOo17 nOo20 nOo25 nOo28 nOo31 nOo34 nOo40 nOo45 nBg4 nBg5 nBg11 nBg12
 (try clear hb)
 (try clear hnd)
 refine hK.out _ _ ⟨(blk_cell BKg12.out 0).trans rfl, (blk_cell BKg5.out 0).trans rfl⟩ (fun hHeld => ?_)
 clear hK K
 refine norm_ (a' := ?_) ?_ ?_
 rotate_left
 next =>
  show Act.put _ (some 65) _ = _
  simp only [Act.put, yay, yby, ycy, i64_w, i32_w]
  rfl
 refine pure_ (i := 4) (N := some 66) (v := ?_) (a' := ?_) #[true, true, true, true, true] rfl rfl (by kernel_rfl) (fun _ _ _ h => h) (Or.inl ⟨by rfl, ?_⟩) ?_ ?_
 rotate_left
 next =>
  intro w'
  go_simp
  with_reducible rfl
 rotate_left
 next =>
  simp only [Act.put, yay, yby, ycy, i64_w, i32_w]
  rfl
 refine done_ (by kernel_rfl) ?_
 have hczg4 : w23.cell? ⟨g4, 0, none⟩ = some (.slice A0 l0.length c0) := (blk_cell BKg4.out 0).trans rfl
 have hfzg4 := blk_frozen BKg4.out 0
 have hczg5 : w23.cell? ⟨g5, 0, none⟩ = some (.slice A1 l1.length c1) := (blk_cell BKg5.out 0).trans rfl
 have hfzg5 := blk_frozen BKg5.out 0
 have hczg11 : w23.cell? ⟨g11, 0, none⟩ = some (.slice Ao25 t24.length co25) := (blk_cell BKg11.out 0).trans rfl
 have hfzg11 := blk_frozen BKg11.out 0
 have hczg12 : w23.cell? ⟨g12, 0, none⟩ = some (.slice Ao28 t27.length co28) := (blk_cell BKg12.out 0).trans rfl
 have hfzg12 := blk_frozen BKg12.out 0
 try go_wp2_with (first | ((with_reducible refine gate_callee (f := 31) rfl ?_); refine goesL_ (some 69) rfl rfl Try.func31 (by kernel_rfl) rfl #[.slice A2 l2.length c2] rfl (by (try simp only [yiy, yjy, yky]); first | done | rfl | (simp only [yly, ymy]; rfl)) ?_; (with_reducible refine (laws_toInt64S.calls k _ _ l2 t49 _ ?side1 ?side2 H48.out).mono ?_); (case side1 => exact Kd.C_below HR2.out HB.out); (case side2 => exact HC2.out); rintro e w24 ⟨vo50, rfl, ho0, hb⟩; refine ⟨_, rfl, ?_⟩; (try clear hczg4 hfzg4 hczg5 hfzg5 hczg11 hfzg11 hczg12 hfzg12); obtain ⟨loo50, hio50, hno50⟩ := ObR.made ho0 hb HT.out (below_size HB.out); have nOo11 := Aside0.mk (ObS.below HOo11.out hb); have nOo14 := Aside0.mk (ObS.below HOo14.out hb); have nOo17 := Aside0.mk (ObR.below HOo17.out hb); have nOo20 := Aside0.mk (ObR.below HOo20.out hb); have nOo25 := Aside0.mk (ObS.below HOo25.out hb); have nOo28 := Aside0.mk (ObS.below HOo28.out hb); have nOo31 := Aside0.mk (ObR.below HOo31.out hb); have nOo34 := Aside0.mk (ObR.below HOo34.out hb); have nOo40 := Aside0.mk (ObS.below HOo40.out hb); have nOo45 := Aside0.mk (ObS.below HOo45.out hb); have nBg4 := Aside0.mk (blk_below (g := g4) (o := .cells #[.slice A0 l0.length c0] 24 (0, 0)) BKg4.out hb); have nBg5 := Aside0.mk (blk_below (g := g5) (o := .cells #[.slice A1 l1.length c1] 24 (0, 0)) BKg5.out hb); have nBg11 := Aside0.mk (blk_below (g := g11) (o := .cells #[.slice Ao25 t24.length co25] 28 (0, 0)) BKg11.out hb); have nBg12 := Aside0.mk (blk_below (g := g12) (o := .cells #[.slice Ao28 t27.length co28] 28 (0, 0)) BKg12.out hb); have nHB := Aside0.mk (below_step HB.out hb); have nHT := Aside0.mk (top_below HT.out hb); clear HB HT HOo11 HOo14 HOo17 HOo20 HOo25 HOo28 HOo31 HOo34 HOo40 HOo45 BKg4 BKg5 BKg11 BKg12; have HOo11 := nOo11; have HOo14 := nOo14; have HOo17 := nOo17; have HOo20 := nOo20; have HOo25 := nOo25; have HOo28 := nOo28; have HOo31 := nOo31; have HOo34 := nOo34; have HOo40 := nOo40; have HOo45 := nOo45; have BKg4 := nBg4; have BKg5 := nBg5; have BKg11 := nBg11; have BKg12 := nBg12; have HB := nHB; have HT := nHT; clear nHB nHT nOo11 nOo14 nOo17 nOo20 nOo25 nOo28 nOo31 nOo34 nOo40 nOo45 nBg4 nBg5 nBg11 nBg12; have HNo50 := Aside0.mk hno50.1; clear HT; have HT := Aside0.mk hno50.2.1; have HOo50 := Aside0.mk hno50.2.2; clear hno50 ho0; obtain ⟨Ao50, co50, eeo50⟩ := HOo50.out.slice; subst eeo50; (try clear hb); (try clear hnd); have hczg4 : w24.cell? ⟨g4, 0, none⟩ = some (.slice A0 l0.length c0) := (blk_cell BKg4.out 0).trans rfl; have hfzg4 := blk_frozen BKg4.out 0; have hczg5 : w24.cell? ⟨g5, 0, none⟩ = some (.slice A1 l1.length c1) := (blk_cell BKg5.out 0).trans rfl; have hfzg5 := blk_frozen BKg5.out 0; have hczg11 : w24.cell? ⟨g11, 0, none⟩ = some (.slice Ao25 t24.length co25) := (blk_cell BKg11.out 0).trans rfl; have hfzg11 := blk_frozen BKg11.out 0; have hczg12 : w24.cell? ⟨g12, 0, none⟩ = some (.slice Ao28 t27.length co28) := (blk_cell BKg12.out 0).trans rfl; have hfzg12 := blk_frozen BKg12.out 0) | ((with_reducible refine gate_callee (f := 33) rfl ?_); refine goesL_ (some 70) rfl rfl Try.func33 (by kernel_rfl) rfl #[.slice Ao31 t30.length co31, .slice Ao50 t49.length co50] rfl (by (try simp only [yiy, yjy, yky]); first | done | rfl | (simp only [yly, ymy]; rfl)) ?_; (with_reducible refine (laws_eqInt64S.calls k _ _ t30 _ _ t49 true _ ?side1 ?side2 ?side3 ?side4 H51.out).mono ?_); (case side1 => exact (ObR.reads HOo31.out).2.2); (case side2 => exact ObR.room HOo31.out); (case side3 => exact (ObR.reads HOo50.out).2.2); (case side4 => exact ObR.room HOo50.out); rintro e w25 ⟨rfl, ⟨nd, hnd⟩⟩; refine ⟨_, rfl, ?_⟩; have hb := below_of_drewN hnd; (try clear hczg4 hfzg4 hczg5 hfzg5 hczg11 hfzg11 hczg12 hfzg12); have nOo11 := Aside0.mk (ObS.below HOo11.out hb); have nOo14 := Aside0.mk (ObS.below HOo14.out hb); have nOo17 := Aside0.mk (ObR.below HOo17.out hb); have nOo20 := Aside0.mk (ObR.below HOo20.out hb); have nOo25 := Aside0.mk (ObS.below HOo25.out hb); have nOo28 := Aside0.mk (ObS.below HOo28.out hb); have nOo31 := Aside0.mk (ObR.below HOo31.out hb); have nOo34 := Aside0.mk (ObR.below HOo34.out hb); have nOo40 := Aside0.mk (ObS.below HOo40.out hb); have nOo45 := Aside0.mk (ObS.below HOo45.out hb); have nOo50 := Aside0.mk (ObR.below HOo50.out hb); have nBg4 := Aside0.mk (blk_below (g := g4) (o := .cells #[.slice A0 l0.length c0] 24 (0, 0)) BKg4.out hb); have nBg5 := Aside0.mk (blk_below (g := g5) (o := .cells #[.slice A1 l1.length c1] 24 (0, 0)) BKg5.out hb); have nBg11 := Aside0.mk (blk_below (g := g11) (o := .cells #[.slice Ao25 t24.length co25] 28 (0, 0)) BKg11.out hb); have nBg12 := Aside0.mk (blk_below (g := g12) (o := .cells #[.slice Ao28 t27.length co28] 28 (0, 0)) BKg12.out hb); have nHB := Aside0.mk (below_step HB.out hb); have nHT := Aside0.mk (top_below HT.out hb); clear HB HT HOo11 HOo14 HOo17 HOo20 HOo25 HOo28 HOo31 HOo34 HOo40 HOo45 HOo50 BKg4 BKg5 BKg11 BKg12; have HOo11 := nOo11; have HOo14 := nOo14; have HOo17 := nOo17; have HOo20 := nOo20; have HOo25 := nOo25; have HOo28 := nOo28; have HOo31 := nOo31; have HOo34 := nOo34; have HOo40 := nOo40; have HOo45 := nOo45; have HOo50 := nOo50; have BKg4 := nBg4; have BKg5 := nBg5; have BKg11 := nBg11; have BKg12 := nBg12; have HB := nHB; have HT := nHT; clear nHB nHT nOo11 nOo14 nOo17 nOo20 nOo25 nOo28 nOo31 nOo34 nOo40 nOo45 nOo50 nBg4 nBg5 nBg11 nBg12; (try clear hb); (try clear hnd); have hczg4 : w25.cell? ⟨g4, 0, none⟩ = some (.slice A0 l0.length c0) := (blk_cell BKg4.out 0).trans rfl; have hfzg4 := blk_frozen BKg4.out 0; have hczg5 : w25.cell? ⟨g5, 0, none⟩ = some (.slice A1 l1.length c1) := (blk_cell BKg5.out 0).trans rfl; have hfzg5 := blk_frozen BKg5.out 0; have hczg11 : w25.cell? ⟨g11, 0, none⟩ = some (.slice Ao25 t24.length co25) := (blk_cell BKg11.out 0).trans rfl; have hfzg11 := blk_frozen BKg11.out 0; have hczg12 : w25.cell? ⟨g12, 0, none⟩ = some (.slice Ao28 t27.length co28) := (blk_cell BKg12.out 0).trans rfl; have hfzg12 := blk_frozen BKg12.out 0) | ((with_reducible refine gate_callee (f := 31) rfl ?_); refine goesL_ (some 74) rfl rfl Try.func31 (by kernel_rfl) rfl #[.slice A3 l3.length c3] rfl (by (try simp only [yiy, yjy, yky]); first | done | rfl | (simp only [yly, ymy]; rfl)) ?_; (with_reducible refine (laws_toInt64S.calls k _ _ l3 t54 _ ?side1 ?side2 H53.out).mono ?_); (case side1 => exact Kd.C_below HR3.out HB.out); (case side2 => exact HC3.out); rintro e w26 ⟨vo55, rfl, ho0, hb⟩; refine ⟨_, rfl, ?_⟩; (try clear hczg4 hfzg4 hczg5 hfzg5 hczg11 hfzg11 hczg12 hfzg12); obtain ⟨loo55, hio55, hno55⟩ := ObR.made ho0 hb HT.out (below_size HB.out); have nOo11 := Aside0.mk (ObS.below HOo11.out hb); have nOo14 := Aside0.mk (ObS.below HOo14.out hb); have nOo17 := Aside0.mk (ObR.below HOo17.out hb); have nOo20 := Aside0.mk (ObR.below HOo20.out hb); have nOo25 := Aside0.mk (ObS.below HOo25.out hb); have nOo28 := Aside0.mk (ObS.below HOo28.out hb); have nOo31 := Aside0.mk (ObR.below HOo31.out hb); have nOo34 := Aside0.mk (ObR.below HOo34.out hb); have nOo40 := Aside0.mk (ObS.below HOo40.out hb); have nOo45 := Aside0.mk (ObS.below HOo45.out hb); have nOo50 := Aside0.mk (ObR.below HOo50.out hb); have nBg4 := Aside0.mk (blk_below (g := g4) (o := .cells #[.slice A0 l0.length c0] 24 (0, 0)) BKg4.out hb); have nBg5 := Aside0.mk (blk_below (g := g5) (o := .cells #[.slice A1 l1.length c1] 24 (0, 0)) BKg5.out hb); have nBg11 := Aside0.mk (blk_below (g := g11) (o := .cells #[.slice Ao25 t24.length co25] 28 (0, 0)) BKg11.out hb); have nBg12 := Aside0.mk (blk_below (g := g12) (o := .cells #[.slice Ao28 t27.length co28] 28 (0, 0)) BKg12.out hb); have nHB := Aside0.mk (below_step HB.out hb); have nHT := Aside0.mk (top_below HT.out hb); clear HB HT HOo11 HOo14 HOo17 HOo20 HOo25 HOo28 HOo31 HOo34 HOo40 HOo45 HOo50 BKg4 BKg5 BKg11 BKg12; have HOo11 := nOo11; have HOo14 := nOo14; have HOo17 := nOo17; have HOo20 := nOo20; have HOo25 := nOo25; have HOo28 := nOo28; have HOo31 := nOo31; have HOo34 := nOo34; have HOo40 := nOo40; have HOo45 := nOo45; have HOo50 := nOo50; have BKg4 := nBg4; have BKg5 := nBg5; have BKg11 := nBg11; have BKg12 := nBg12; have HB := nHB; have HT := nHT; clear nHB nHT nOo11 nOo14 nOo17 nOo20 nOo25 nOo28 nOo31 nOo34 nOo40 nOo45 nOo50 nBg4 nBg5 nBg11 nBg12; have HNo55 := Aside0.mk hno55.1; clear HT; have HT := Aside0.mk hno55.2.1; have HOo55 := Aside0.mk hno55.2.2; clear hno55 ho0; obtain ⟨Ao55, co55, eeo55⟩ := HOo55.out.slice; subst eeo55; (try clear hb); (try clear hnd); have hczg4 : w26.cell? ⟨g4, 0, none⟩ = some (.slice A0 l0.length c0) := (blk_cell BKg4.out 0).trans rfl; have hfzg4 := blk_frozen BKg4.out 0; have hczg5 : w26.cell? ⟨g5, 0, none⟩ = some (.slice A1 l1.length c1) := (blk_cell BKg5.out 0).trans rfl; have hfzg5 := blk_frozen BKg5.out 0; have hczg11 : w26.cell? ⟨g11, 0, none⟩ = some (.slice Ao25 t24.length co25) := (blk_cell BKg11.out 0).trans rfl; have hfzg11 := blk_frozen BKg11.out 0; have hczg12 : w26.cell? ⟨g12, 0, none⟩ = some (.slice Ao28 t27.length co28) := (blk_cell BKg12.out 0).trans rfl; have hfzg12 := blk_frozen BKg12.out 0) | ((with_reducible refine gate_callee (f := 33) rfl ?_); refine goesL_ (some 75) rfl rfl Try.func33 (by kernel_rfl) rfl #[.slice Ao34 t33.length co34, .slice Ao55 t54.length co55] rfl (by (try simp only [yiy, yjy, yky]); first | done | rfl | (simp only [yly, ymy]; rfl)) ?_; (with_reducible refine (laws_eqInt64S.calls k _ _ t33 _ _ t54 true _ ?side1 ?side2 ?side3 ?side4 H56.out).mono ?_); (case side1 => exact (ObR.reads HOo34.out).2.2); (case side2 => exact ObR.room HOo34.out); (case side3 => exact (ObR.reads HOo55.out).2.2); (case side4 => exact ObR.room HOo55.out); rintro e w27 ⟨rfl, ⟨nd, hnd⟩⟩; refine ⟨_, rfl, ?_⟩; have hb := below_of_drewN hnd; (try clear hczg4 hfzg4 hczg5 hfzg5 hczg11 hfzg11 hczg12 hfzg12); have nOo11 := Aside0.mk (ObS.below HOo11.out hb); have nOo14 := Aside0.mk (ObS.below HOo14.out hb); have nOo17 := Aside0.mk (ObR.below HOo17.out hb); have nOo20 := Aside0.mk (ObR.below HOo20.out hb); have nOo25 := Aside0.mk (ObS.below HOo25.out hb); have nOo28 := Aside0.mk (ObS.below HOo28.out hb); have nOo31 := Aside0.mk (ObR.below HOo31.out hb); have nOo34 := Aside0.mk (ObR.below HOo34.out hb); have nOo40 := Aside0.mk (ObS.below HOo40.out hb); have nOo45 := Aside0.mk (ObS.below HOo45.out hb); have nOo50 := Aside0.mk (ObR.below HOo50.out hb); have nOo55 := Aside0.mk (ObR.below HOo55.out hb); have nBg4 := Aside0.mk (blk_below (g := g4) (o := .cells #[.slice A0 l0.length c0] 24 (0, 0)) BKg4.out hb); have nBg5 := Aside0.mk (blk_below (g := g5) (o := .cells #[.slice A1 l1.length c1] 24 (0, 0)) BKg5.out hb); have nBg11 := Aside0.mk (blk_below (g := g11) (o := .cells #[.slice Ao25 t24.length co25] 28 (0, 0)) BKg11.out hb); have nBg12 := Aside0.mk (blk_below (g := g12) (o := .cells #[.slice Ao28 t27.length co28] 28 (0, 0)) BKg12.out hb); have nHB := Aside0.mk (below_step HB.out hb); have nHT := Aside0.mk (top_below HT.out hb); clear HB HT HOo11 HOo14 HOo17 HOo20 HOo25 HOo28 HOo31 HOo34 HOo40 HOo45 HOo50 HOo55 BKg4 BKg5 BKg11 BKg12; have HOo11 := nOo11; have HOo14 := nOo14; have HOo17 := nOo17; have HOo20 := nOo20; have HOo25 := nOo25; have HOo28 := nOo28; have HOo31 := nOo31; have HOo34 := nOo34; have HOo40 := nOo40; have HOo45 := nOo45; have HOo50 := nOo50; have HOo55 := nOo55; have BKg4 := nBg4; have BKg5 := nBg5; have BKg11 := nBg11; have BKg12 := nBg12; have HB := nHB; have HT := nHT; clear nHB nHT nOo11 nOo14 nOo17 nOo20 nOo25 nOo28 nOo31 nOo34 nOo40 nOo45 nOo50 nOo55 nBg4 nBg5 nBg11 nBg12; (try clear hb); (try clear hnd); have hczg4 : w27.cell? ⟨g4, 0, none⟩ = some (.slice A0 l0.length c0) := (blk_cell BKg4.out 0).trans rfl; have hfzg4 := blk_frozen BKg4.out 0; have hczg5 : w27.cell? ⟨g5, 0, none⟩ = some (.slice A1 l1.length c1) := (blk_cell BKg5.out 0).trans rfl; have hfzg5 := blk_frozen BKg5.out 0; have hczg11 : w27.cell? ⟨g11, 0, none⟩ = some (.slice Ao25 t24.length co25) := (blk_cell BKg11.out 0).trans rfl; have hfzg11 := blk_frozen BKg11.out 0; have hczg12 : w27.cell? ⟨g12, 0, none⟩ = some (.slice Ao28 t27.length co28) := (blk_cell BKg12.out 0).trans rfl; have hfzg12 := blk_frozen BKg12.out 0))
 go_ret
 exact ⟨by first | rfl | (simp <;> rfl), HB.out⟩
end Go.Proofs.Ytdgdnnjigigkcaa.P
namespace Go.Proofs.Ytdgdnnjigigkcaa.Lib
set_option linter.unusedVariables false
open Go.RowKit Go.Proofs.YtdgdnnjigigkcaaW.PrintWords
/-- A loop comes to g of its first state: at each state it ends with g, or goes on at a smaller state of the same g. -/
theorem ev_loop {σ ρ : Type} (L : Nat → σ → Option ρ) (I : σ → Prop) (m : σ → Nat) (g : σ → ρ)
    (h : ∀ s, I s → (∃ K, ∀ k, K ≤ k → L (k + 1) s = some (g s)) ∨ (∃ s' K, I s' ∧ m s' < m s ∧ g s' = g s ∧ ∀ k, K ≤ k → L (k + 1) s = L k s')) :
    ∀ s, I s → Ev (fun k => L k s) (g s) := by
  have key : ∀ (n : Nat) (s : σ), m s < n → I s → Ev (fun k => L k s) (g s) := by
    intro n
    induction n with
    | zero => intro s hs; omega
    | succ n ih =>
      intro s hs hi
      rcases h s hi with ⟨K, hK⟩ | ⟨s', K, hi', hm, hg, hK⟩
      · refine ⟨K + 1, fun k hk => ?_⟩
        obtain ⟨j, rfl⟩ : ∃ j, k = j + 1 := ⟨k - 1, by omega⟩
        exact hK j (by omega)
      · obtain ⟨K', hK'⟩ := ih s' (by omega) hi'
        refine ⟨max K K' + 1, fun k hk => ?_⟩
        obtain ⟨j, rfl⟩ : ∃ j, k = j + 1 := ⟨k - 1, by omega⟩
        show L (j + 1) s = some (g s)
        rw [hK j (by omega), ← hg]
        exact hK' j (by omega)
  intro s hi
  exact key (m s + 1) s (by omega) hi
/-- The same, where a round asks for no number of rounds. -/
theorem ev_loop0 {σ ρ : Type} (L : Nat → σ → Option ρ) (I : σ → Prop) (m : σ → Nat) (g : σ → ρ)
    (h : ∀ s, I s → (∀ k, L (k + 1) s = some (g s)) ∨ (∃ s', I s' ∧ m s' < m s ∧ g s' = g s ∧ ∀ k, L (k + 1) s = L k s')) :
    ∀ s, I s → Ev (fun k => L k s) (g s) :=
  ev_loop L I m g fun s hi => by
    rcases h s hi with h1 | ⟨s', h1, h2, h3, h4⟩
    · exact .inl ⟨0, fun k _ => h1 k⟩
    · exact .inr ⟨s', 0, h1, h2, h3, fun k _ => h4 k⟩
theorem wrap_id {x : Int} (h0 : -9223372036854775808 ≤ x) (h1 : x ≤ 9223372036854775807) : wrap64 x = x := by
  unfold wrap64; omega
theorem wrap_succ {n : Nat} (h : n ≤ 4611686018427387904) : wrap64 ((n : Int) + 1) = ((n + 1 : Nat) : Int) := by
  rw [wrap_id (by omega) (by omega)]; rfl
theorem rd_lt (xs : List Int) (n : Nat) (h : n < xs.length) : rd xs (n : Int) = xs[n] := by simp [rd, h]
theorem ev_neg {α : Type} {c : Prop} [Decidable c] {f g : Nat → Option α} {r : α} (h : ¬ c) (k : Ev g r) : Ev (fun n => if c then f n else g n) r := Ev.congr (fun _ => if_neg h) k
theorem ev_pos {α : Type} {c : Prop} [Decidable c] {f g : Nat → Option α} {r : α} (h : c) (k : Ev f r) : Ev (fun n => if c then f n else g n) r := Ev.congr (fun _ => if_pos h) k
theorem ev_some {α : Type} {r r' : α} (h : r = r') : Ev (fun _ => some r) r' := h ▸ Ev.now r
theorem ev_const {α : Type} {o : Option α} {r : α} (h : o = some r) : Ev (fun _ => o) r := ⟨0, fun _ _ => h⟩
theorem ev_const' {α : Type} {g : Nat → Option α} {r : α} (h : ∀ k, g k = some r) : Ev g r := ⟨0, fun k _ => h k⟩
/-- A function whose first step takes one round. -/
theorem ev_step {α : Type} {g f : Nat → Option α} {r : α} (h : ∀ k, g (k + 1) = f k) (k : Ev f r) : Ev g r := Ev.step h k
theorem idxO_any {α : Type} {f : α → Option Bool} {p : α → Bool} : ∀ (i : Nat) (l : List α), (∀ x ∈ l, f x = some (p x)) → ∃ r, idxO f i l = some r ∧ decide (0 ≤ r) = l.any p
  | i, [], _ => ⟨-1, rfl, rfl⟩
  | i, x :: xs, h => by
    rw [idxO_cons, h x (List.mem_cons_self ..), yfy]
    cases hp : p x with
    | true => exact ⟨i, by rw [if_pos rfl], by simp [hp]⟩
    | false =>
      obtain ⟨r, h1, h2⟩ := idxO_any (i + 1) xs (fun y hy => h y (List.mem_cons_of_mem _ hy))
      exact ⟨r, by rw [if_neg (by simp)]; exact h1, by rw [h2]; simp [hp]⟩
theorem contO {α : Type} {f : α → Option Bool} {p : α → Bool} (l : List α) (h : ∀ x ∈ l, f x = some (p x)) : (idxO f 0 l).bind (fun i => some (decide (0 ≤ i))) = some (l.any p) := by
  obtain ⟨r, h1, h2⟩ := idxO_any 0 l h
  rw [h1, yfy, h2]
end Go.Proofs.Ytdgdnnjigigkcaa.Lib
namespace Go.Proofs.Ytdgdnnjigigkcaa.P
open Go.RowKit Go.Proofs.YtdgdnnjigigkcaaW.PrintWords Go.Proofs.Ytdgdnnjigigkcaa.Lib
set_option linter.unusedVariables false
theorem inRange_eq (a b c : Int) : impl_inRange.f a b c = some (decide (b ≤ a) && decide (a ≤ c)) := by
  unfold impl_inRange.f
  by_cases h : b ≤ a <;> simp [h]
theorem l07In_eq (a b c : Int) : spec_l07In.f a b c = some (decide (b ≤ a) && decide (a ≤ c)) := by
  unfold spec_l07In.f
  by_cases h : b ≤ a <;> simp [h]
theorem l06Valid_eq (a : Int) : spec_l06Valid.f a = some (decide (0 ≤ a) && decide (a ≤ 23)) := by
  unfold spec_l06Valid.f
  by_cases h : 0 ≤ a
  · rw [if_pos h]; simp [h]; omega
  · rw [if_neg h]; simp [h]
theorem isPerm_eq (a : Int) : impl_isPerm.f a = some (decide (0 ≤ a) && decide (a ≤ 23)) := by
  unfold impl_isPerm.f; rw [inRange_eq]; rfl
/-- A number that is the index of a permutation. -/
theorem fin_of {p : Int} (h0 : 0 ≤ p) (h1 : p ≤ 23) : ∃ m : Fin 24, p = (m.val : Int) := ⟨⟨p.toNat, by omega⟩, by simp; omega⟩
theorem l06Images_ev {p : Int} (h0 : 0 ≤ p) (h1 : p ≤ 23) : Ev (fun k => spec_l06Images.f k p) (permL p) := by
  obtain ⟨m, rfl⟩ := fin_of h0 h1
  have key : ∀ m : Fin 24, spec_l06Images.f 5 (m.val : Int) = some (permL (m.val : Int)) := by decide +kernel
  exact Ev.of (fun k => spec_l06Images.mono _ k) (key m)
theorem permL_len (p : Int) : (permL p).length = 4 := rfl
theorem permL_sm {p f : Int} (h0 : 0 ≤ p) (h1 : p ≤ 23) (hf0 : 0 ≤ f) (hf1 : f ≤ 3) : 0 ≤ rd (permL p) f ∧ rd (permL p) f ≤ 3 := by
  obtain ⟨a, b, c, d⟩ := permAt_sm p h0 h1
  exact rd_four_sm a b c d f hf0 hf1
theorem l06At_ev {p f : Int} (h0 : 0 ≤ p) (h1 : p ≤ 23) (hf0 : 0 ≤ f) (hf1 : f ≤ 3) : Ev (fun k => spec_l06At.f k p f) (rd (permL p) f) := by
  refine Ev.bind (l06Images_ev h0 h1) ?_
  exact ev_pos hf0 (ev_pos (by rw [permL_len]; omega) (Ev.now _))
theorem l06Back_ev {p : Int} (h0 : 0 ≤ p) (h1 : p ≤ 23) : Ev (fun k => spec_l06Back.f k p) (invP p) := by
  obtain ⟨m, rfl⟩ := fin_of h0 h1
  have key : ∀ m : Fin 24, spec_l06Back.f 40 (m.val : Int) = some (invP (m.val : Int)) := by decide +kernel
  exact Ev.of (fun k => spec_l06Back.mono _ k) (key m)
theorem target_eq {q p f : Int} (h0 : 0 ≤ p) (h1 : p ≤ 23) (hf0 : 0 ≤ f) (hf1 : f ≤ 3) : impl_Face_target.f q p f = some (rd (permL p) f) := if_pos ⟨h0, h1, hf0, hf1⟩
theorem partner_eq {q p a : Int} (h0 : 0 ≤ p) (h1 : p ≤ 23) : impl_Face_partner.f q p a = some (a, invP p) := by
  unfold impl_Face_partner.f impl_invert.f
  rw [if_pos ⟨h0, h1⟩]; rfl
abbrev Tri := List (List SFace)
/-- No list of t is longer than a million. -/
def Small (t : Tri) : Prop := t.length ≤ 1048576 ∧ ∀ r ∈ t, r.length ≤ 1048576
def SmallL (t : List (List SLawFace)) : Prop := t.length ≤ 1048576 ∧ ∀ r ∈ t, r.length ≤ 1048576
def Fits (t : List (List SLawFace)) : Prop := t.length ≤ 9223372036854775807 ∧ ∀ r ∈ t, r.length ≤ 9223372036854775807
theorem rd_LLawFace_lt (t : List (List SLawFace)) (n : Nat) (h : n < t.length) : rd_LLawFace t (n : Int) = t[n] := by simp [rd_LLawFace, h]
theorem rd_LFace_lt (t : Tri) (n : Nat) (h : n < t.length) : rd_LFace t (n : Int) = t[n] := by simp [rd_LFace, h]
theorem rd_LawFace_lt (t : List SLawFace) (n : Nat) (h : n < t.length) : rd_LawFace t (n : Int) = t[n] := by simp [rd_LawFace, h]
theorem rd_Face_lt (t : List SFace) (n : Nat) (h : n < t.length) : rd_Face t (n : Int) = t[n] := by simp [rd_Face, h]
theorem szFaceS_eq (r : List SLawFace) (a : Int) (h0 : 0 ≤ a) (h1 : a ≤ 1048576) (h : r.length ≤ 9223372036854775807) : laws_szFaceS.f r a = some (if a - r.length < 0 then -1 else a - r.length) := by
  unfold laws_szFaceS.f
  rw [wrap_id (by omega) (by omega)]
  split <;> rfl
/-- The copies of the law's values. -/
def cvF (x : SLawFace) : SFace := ⟨x.f0, x.f1⟩
def cvR (r : List SLawFace) : List SFace := r.map cvF
def cvT (t : List (List SLawFace)) : Tri := t.map cvR
theorem cvT_small {t : List (List SLawFace)} (h : SmallL t) : Small (cvT t) := by
  refine ⟨by simp [cvT]; exact h.1, fun r hr => ?_⟩
  obtain ⟨s, hs, rfl⟩ := List.mem_map.1 hr
  simp [cvR]; exact h.2 s hs
theorem map_take_set {α β : Type} (f : α → β) (l : List α) (z : β) (n : Nat) (h : n < l.length) :
    ((l.take n).map f ++ List.replicate (l.length - n) z).set n (f l[n]) = (l.take (n + 1)).map f ++ List.replicate (l.length - (n + 1)) z := by
  have e : l.length - n = (l.length - (n + 1)) + 1 := by omega
  rw [e, List.replicate_succ, List.set_append_right _ _ (by simp; omega)]
  have : n - ((l.take n).map f).length = 0 := by simp; omega
  rw [this, yby, List.take_succ_eq_append_getElem h, List.map_append, List.append_assoc]
  rfl
theorem toFaceS_ev (l : List SLawFace) (h : l.length ≤ 1048576) : Ev (fun k => laws_toFaceS.f k l) (cvR l) := by
  have hl : Ev (fun k => laws_toFaceS.l0 k l (List.replicate l.length zFace) 0) (cvR l) := by
    refine ev_loop0 (fun k (s : List SFace × Int) => laws_toFaceS.l0 k l s.1 s.2) (fun s => ∃ n : Nat, n ≤ l.length ∧ s.2 = n ∧ s.1 = (l.take n).map cvF ++ List.replicate (l.length - n) zFace) (fun s => l.length - s.2.toNat) (fun _ => cvR l) ?_ (List.replicate l.length zFace, 0) ⟨0, by omega, rfl, by simp⟩
    rintro ⟨a, i⟩ ⟨n, hn, rfl, rfl⟩
    dsimp only
    by_cases hlt : n < l.length
    · refine .inr ⟨((l.take (n + 1)).map cvF ++ List.replicate (l.length - (n + 1)) zFace, ((n + 1 : Nat) : Int)), ⟨n + 1, by omega, rfl, rfl⟩, by simp; omega, rfl, fun k => ?_⟩
      simp only [laws_toFaceS.l0, laws_toFace.f, yfy]
      rw [if_pos (by omega), if_pos (by omega), if_pos (by simp; omega), wrap_succ (by omega), Int.toNat_natCast, rd_LawFace_lt l n hlt]
      have := map_take_set cvF l zFace n hlt
      rw [← this]
      rfl
    · obtain rfl : n = l.length := by omega
      refine .inl fun k => ?_
      simp only [laws_toFaceS.l0]
      rw [if_neg (by omega)]
      simp [cvR]
  refine Ev.congr (fun k => ?_) hl
  unfold laws_toFaceS.f
  rw [if_pos (by omega), if_pos (by simp; omega), Int.toNat_natCast]
theorem toFaceSS_ev (l : List (List SLawFace)) (h : SmallL l) : Ev (fun k => laws_toFaceSS.f k l) (cvT l) := by
  have hl : Ev (fun k => laws_toFaceSS.l0 k l (List.replicate l.length []) 0) (cvT l) := by
    refine ev_loop (fun k (s : Tri × Int) => laws_toFaceSS.l0 k l s.1 s.2) (fun s => ∃ n : Nat, n ≤ l.length ∧ s.2 = n ∧ s.1 = (l.take n).map cvR ++ List.replicate (l.length - n) []) (fun s => l.length - s.2.toNat) (fun _ => cvT l) ?_ (List.replicate l.length [], 0) ⟨0, by omega, rfl, by simp⟩
    rintro ⟨a, i⟩ ⟨n, hn, rfl, rfl⟩
    dsimp only
    by_cases hlt : n < l.length
    · obtain ⟨K, hK⟩ := toFaceS_ev l[n] (h.2 _ (List.getElem_mem hlt))
      refine .inr ⟨((l.take (n + 1)).map cvR ++ List.replicate (l.length - (n + 1)) [], ((n + 1 : Nat) : Int)), K, ⟨n + 1, by omega, rfl, rfl⟩, by simp; omega, rfl, fun k hk => ?_⟩
      have e : laws_toFaceS.f k l[n] = some _ := hK k hk
      have h1 := h.1
      simp only [laws_toFaceSS.l0]
      rw [if_pos (by omega), if_pos (by omega), rd_LLawFace_lt l n hlt, e, yfy, if_pos (by simp; omega), wrap_succ (by omega), Int.toNat_natCast, map_take_set cvR l [] n hlt]
    · obtain rfl : n = l.length := by omega
      refine .inl ⟨0, fun k _ => ?_⟩
      simp only [laws_toFaceSS.l0]
      rw [if_neg (by omega)]
      simp [cvT]
  have h1 := h.1
  refine Ev.congr (fun k => ?_) hl
  unfold laws_toFaceSS.f
  rw [if_pos (by omega), if_pos (by simp; omega), Int.toNat_natCast]
theorem toTriangulation_ev (l : List (List SLawFace)) (h : SmallL l) : Ev (fun k => laws_toTriangulation.f k l) (cvT l) := Ev.bind (toFaceSS_ev l h) (Ev.now _)
theorem eqFaceS_ev (l : List SFace) (h : l.length ≤ 1048576) : Ev (fun k => laws_eqFaceS.f k l l) true := by
  have hl : Ev (fun k => laws_eqFaceS.l0 k l l 0) true := by
    refine ev_loop0 (fun k (s : Int) => laws_eqFaceS.l0 k l l s) (fun s => ∃ n : Nat, n ≤ l.length ∧ s = n) (fun s => l.length - s.toNat) (fun _ => true) ?_ 0 ⟨0, by omega, rfl⟩
    rintro i ⟨n, hn, rfl⟩
    by_cases hlt : n < l.length
    · refine .inr ⟨((n + 1 : Nat) : Int), ⟨n + 1, by omega, rfl⟩, by simp; omega, rfl, fun k => ?_⟩
      simp only [laws_eqFaceS.l0, laws_eqFace.f]
      rw [if_pos (by omega), if_pos (by omega), if_pos (by omega), if_pos trivial, if_pos trivial, yfy, if_pos rfl, wrap_succ (by omega)]
    · refine .inl fun k => ?_
      simp only [laws_eqFaceS.l0]
      rw [if_neg (by omega)]
  refine Ev.congr (fun k => ?_) hl
  unfold laws_eqFaceS.f
  rw [if_pos rfl]
theorem eqTriangulation_ev (l : Tri) (h : Small l) : Ev (fun k => laws_eqTriangulation.f k l l) true := by
  have hl : Ev (fun k => laws_eqFaceSS.l0 k l l 0) true := by
    refine ev_loop (fun k (s : Int) => laws_eqFaceSS.l0 k l l s) (fun s => ∃ n : Nat, n ≤ l.length ∧ s = n) (fun s => l.length - s.toNat) (fun _ => true) ?_ 0 ⟨0, by omega, rfl⟩
    rintro i ⟨n, hn, rfl⟩
    by_cases hlt : n < l.length
    · obtain ⟨K, hK⟩ := eqFaceS_ev l[n] (h.2 _ (List.getElem_mem hlt))
      refine .inr ⟨((n + 1 : Nat) : Int), K, ⟨n + 1, by omega, rfl⟩, by simp; omega, rfl, fun k hk => ?_⟩
      have e : laws_eqFaceS.f k l[n] l[n] = some _ := hK k hk
      have h1 := h.1
      simp only [laws_eqFaceSS.l0]
      rw [if_pos (by omega), if_pos (by omega), if_pos (by omega), rd_LFace_lt l n hlt, e, yfy, if_pos rfl, wrap_succ (by omega)]
    · refine .inl ⟨0, fun k _ => ?_⟩
      simp only [laws_eqFaceSS.l0]
      rw [if_neg (by omega)]
  have h2 : Ev (fun k => laws_eqFaceSS.f k l l) true := by
    refine Ev.congr (fun k => ?_) hl
    unfold laws_eqFaceSS.f
    rw [if_pos rfl]
  exact Ev.bind h2 (ev_pos rfl (Ev.now _))
/-- The face f of the tetrahedron a. -/
abbrev fc (t : Tri) (a f : Int) : SFace := rd_Face (rd_LFace t a) f
/-- Is a face as in a valid triangulation? -/
def goodF (t : Tri) (a f : Int) : Bool :=
  if (fc t a f).f0 = -1 then (fc t a f).f1 == 0
  else if 0 ≤ (fc t a f).f0 ∧ (fc t a f).f0 < (t.length : Int) ∧ 0 ≤ (fc t a f).f1 ∧ (fc t a f).f1 ≤ 23 then
    ((fc t (fc t a f).f0 (rd (permL (fc t a f).f1) f)).f0 == a && (fc t (fc t a f).f0 (rd (permL (fc t a f).f1) f)).f1 == invP (fc t a f).f1) && !((fc t a f).f0 == a && rd (permL (fc t a f).f1) f == f)
  else false
/-- d faces of a from f on are good. -/
def goodFs (t : Tri) (a : Int) : Int → Nat → Bool
  | _, 0 => true
  | f, d + 1 => goodF t a f && goodFs t a (f + 1) d
/-- d tetrahedra from a on are good. -/
def goodTs (t : Tri) : Int → Nat → Bool
  | _, 0 => true
  | a, d + 1 => goodFs t a 0 4 && goodTs t (a + 1) d
/-- A valid triangulation. -/
def isTri (t : Tri) : Bool := decide (t.length ≤ 8) && (t.all (fun r => decide (r.length = 4)) && goodTs t 0 t.length)
section
variable {t : Tri}
theorem row4 (h4 : ∀ r ∈ t, r.length = 4) {a : Int} (h0 : 0 ≤ a) (h1 : a < t.length) : (rd_LFace t a).length = 4 := by
  obtain ⟨n, rfl⟩ := Int.eq_ofNat_of_zero_le h0
  rw [rd_LFace_lt t n (by omega)]
  exact h4 _ (List.getElem_mem _)
theorem impl_isGood_ev (h4 : ∀ r ∈ t, r.length = 4) (hn : t.length ≤ 8) {a f : Int} (h0 : 0 ≤ a) (h1 : a < t.length) (hf0 : 0 ≤ f) (hf1 : f ≤ 3) : Ev (fun k => impl_Triangulation_isGood.f k t a f) (goodF t a f) := by
  have hr := row4 h4 h0 h1
  refine Ev.congr (fun k => by unfold impl_Triangulation_isGood.f; rw [if_pos h0, if_pos h1, if_pos hf0, if_pos (by omega)]) ?_
  change Ev (fun k => if (fc t a f).f0 = -1 then some ((fc t a f).f1 == 0) else _) (goodF t a f)
  unfold goodF
  by_cases hb : (fc t a f).f0 = -1
  · rw [if_pos hb]; exact ev_pos hb (Ev.now _)
  · refine ev_neg hb ?_
    rw [if_neg hb]
    have hix : impl_hasIndex_Simpl_Face.f t (fc t a f).f0 = some (decide (0 ≤ (fc t a f).f0) && decide ((fc t a f).f0 ≤ (t.length : Int) - 1)) := by
      unfold impl_hasIndex_Simpl_Face.f impl_size_Simpl_Face.f
      rw [yfy, wrap_id (by omega) (by omega), inRange_eq]; rfl
    have hfalse : Ev (fun k => impl_Triangulation_isGood.j0 k a f true t (fc t a f).f0 (fc t a f).f1) false := ev_step (fun k => by rw [impl_Triangulation_isGood.j0, if_pos rfl]) (Ev.now false)
    refine Ev.bind (ev_const hix) ?_
    by_cases hi : 0 ≤ (fc t a f).f0 ∧ (fc t a f).f0 < (t.length : Int)
    · refine ev_pos (by simp; omega) ?_
      refine Ev.bind (ev_const (isPerm_eq _)) ?_
      by_cases hp : 0 ≤ (fc t a f).f1 ∧ (fc t a f).f1 ≤ 23
      · rw [if_pos ⟨hi.1, hi.2, hp.1, hp.2⟩]
        have e : (!(decide (0 ≤ (fc t a f).f1) && decide ((fc t a f).f1 ≤ 23))) = false := by simp [hp]
        rw [e]
        refine ev_step (fun k => by rw [impl_Triangulation_isGood.j0, if_neg (by simp), target_eq hp.1 hp.2 hf0 hf1, yfy]) ?_
        obtain ⟨hg0, hg1⟩ := permL_sm hp.1 hp.2 hf0 hf1
        have hr2 := row4 h4 hi.1 hi.2
        refine ev_pos hi.1 (ev_pos hi.2 (ev_pos hg0 (ev_pos (by rw [hr2]; omega) ?_)))
        refine Ev.bind (ev_const (partner_eq hp.1 hp.2)) ?_
        change Ev (fun k => if ((fc t (fc t a f).f0 (rd (permL (fc t a f).f1) f)).f0 == a && (fc t (fc t a f).f0 (rd (permL (fc t a f).f1) f)).f1 == invP (fc t a f).f1) = true then _ else _) _
        generalize ((fc t (fc t a f).f0 (rd (permL (fc t a f).f1) f)).f0 == a && (fc t (fc t a f).f0 (rd (permL (fc t a f).f1) f)).f1 == invP (fc t a f).f1) = b
        cases b with
        | false => refine ev_neg (by simp) ?_; rw [Bool.false_and]; exact Ev.now false
        | true =>
          refine ev_pos rfl ?_
          rw [Bool.true_and]
          by_cases ha : (fc t a f).f0 = a
          · refine ev_pos ha (ev_some ?_)
            rw [ha]; simp [bne]
          · refine ev_neg ha (ev_some ?_)
            simp [ha]
      · rw [if_neg (by omega)]
        have e : (!(decide (0 ≤ (fc t a f).f1) && decide ((fc t a f).f1 ≤ 23))) = true := by
          rw [Bool.not_eq_true', Bool.and_eq_false_iff, decide_eq_false_iff_not, decide_eq_false_iff_not]; omega
        rw [e]
        exact hfalse
    · rw [if_neg (by omega)]
      refine ev_neg ?_ hfalse
      rw [Bool.and_eq_true, decide_eq_true_eq, decide_eq_true_eq]; omega
theorem impl_l1_ev (h4 : ∀ r ∈ t, r.length = 4) (hn : t.length ≤ 8) {a : Int} (h0 : 0 ≤ a) (h1 : a < t.length) {R : Bool} (hR : Ev (fun k => impl_isTriangulation.l0 k (t.length : Int) (a + 1) t) R) :
    ∀ (d : Nat) (f : Int), 0 ≤ f → f + d = 4 → Ev (fun k => impl_isTriangulation.l1 k a (t.length : Int) a f t) (goodFs t a f d && R)
  | 0, f, hf, he => by
    refine ev_step (fun k => by rw [impl_isTriangulation.l1, if_neg (by omega), wrap_id (by omega) (by omega)]) ?_
    rw [goodFs, Bool.true_and]; exact hR
  | d + 1, f, hf, he => by
    refine ev_step (fun k => by rw [impl_isTriangulation.l1, if_pos (by omega)]) ?_
    refine Ev.bind (impl_isGood_ev h4 hn h0 h1 hf (by omega)) ?_
    rw [goodFs]
    cases hg : goodF t a f with
    | false => exact ev_neg (by simp) (by rw [Bool.false_and, Bool.false_and]; exact Ev.now false)
    | true =>
      refine ev_pos rfl ?_
      rw [Bool.true_and]
      exact Ev.congr (fun k => by rw [wrap_id (by omega) (by omega)]) (impl_l1_ev h4 hn h0 h1 hR d (f + 1) (by omega) (by omega))
theorem impl_l0_ev (h4 : ∀ r ∈ t, r.length = 4) (hn : t.length ≤ 8) : ∀ (d : Nat) (a : Int), 0 ≤ a → a + d = t.length → Ev (fun k => impl_isTriangulation.l0 k (t.length : Int) a t) (goodTs t a d)
  | 0, a, ha, he => by
    refine ev_step (fun k => by rw [impl_isTriangulation.l0, if_neg (by omega)]) ?_
    exact Ev.now true
  | d + 1, a, ha, he => by
    refine ev_step (fun k => by rw [impl_isTriangulation.l0, if_pos (by omega)]) ?_
    rw [goodTs]
    exact impl_l1_ev h4 hn ha (by omega) (impl_l0_ev h4 hn d (a + 1) (by omega) (by omega)) 4 0 (by omega) (by omega)
theorem all4_iff : t.all (fun r => decide (r.length = 4)) = true ↔ ∀ r ∈ t, r.length = 4 := by simp
theorem contains4 (h : Small t) : slices_ContainsFunc_SSimpl_Face_at_impl_isTriangulation_1.f t = some (!(t.all fun r => decide (r.length = 4))) := by
  unfold slices_ContainsFunc_SSimpl_Face_at_impl_isTriangulation_1.f slices_IndexFunc_SSimpl_Face_at_impl_isTriangulation_1.f
  rw [contO (p := fun r => !(decide (r.length = 4))) t (fun r _ => by
    show impl_isTriangulation_1.f r = _
    unfold impl_isTriangulation_1.f
    congr 1
    by_cases h : r.length = 4
    · simp [h]
    · have : ¬ ((r.length : Int) = 4) := by omega
      simp [h, this]), List.not_all_eq_any_not]
theorem impl_isTri_ev (h : Small t) : Ev (fun k => impl_isTriangulation.f k t) (isTri t) := by
  have hfalse : Ev (fun k => impl_isTriangulation.j0 k true t) false := ev_step (fun k => by rw [impl_isTriangulation.j0, if_pos rfl]) (Ev.now false)
  unfold isTri
  by_cases h8 : t.length ≤ 8
  · refine Ev.congr (fun k => by unfold impl_isTriangulation.f; rw [if_neg (by omega), contains4 h, yfy]) ?_
    rw [ygy h8, Bool.true_and]
    cases hall : t.all (fun r => decide (r.length = 4)) with
    | false => rw [Bool.false_and]; exact hfalse
    | true =>
      rw [Bool.true_and]
      refine ev_step (fun k => by rw [impl_isTriangulation.j0, if_neg (by simp)]) ?_
      exact impl_l0_ev (all4_iff.1 hall) h8 t.length 0 (by omega) (by omega)
  · refine Ev.congr (fun k => by unfold impl_isTriangulation.f; rw [if_pos (by omega)]) ?_
    rw [yhy h8, Bool.false_and]; exact hfalse
theorem spec_l2_ev (h4 : ∀ r ∈ t, r.length = 4) (hn : t.length ≤ 8) {a : Int} (h0 : 0 ≤ a) (h1 : a < t.length) {R : Bool} (hR : Ev (fun k => spec_IsTriangulation.l1 k (a + 1) t) R) :
    ∀ (d : Nat) (f : Int), 0 ≤ f → f + d = 4 → Ev (fun k => spec_IsTriangulation.l2 k a f t) (goodFs t a f d && R)
  | 0, f, hf, he => by
    refine ev_step (fun k => by rw [spec_IsTriangulation.l2, if_neg (by omega), wrap_id (by omega) (by omega)]) ?_
    rw [goodFs, Bool.true_and]; exact hR
  | d + 1, f, hf, he => by
    have hr := row4 h4 h0 h1
    have ih : Ev (fun k => spec_IsTriangulation.l2 k a (wrap64 (f + 1)) t) (goodFs t a (f + 1) d && R) := Ev.congr (fun k => by rw [wrap_id (by omega) (by omega)]) (spec_l2_ev h4 hn h0 h1 hR d (f + 1) (by omega) (by omega))
    refine ev_step (fun k => by rw [spec_IsTriangulation.l2, if_pos (by omega), if_pos h0, if_pos h1, if_pos hf, if_pos (by omega)]) ?_
    change Ev (fun k => if (fc t a f).f0 = -1 then spec_IsTriangulation.j3 k a f ((fc t a f).f1 == 0) t (fc t a f).f0 (fc t a f).f1 else spec_IsTriangulation.j3 k a f false t (fc t a f).f0 (fc t a f).f1) _
    rw [goodFs]
    have hstop : ∀ b, Ev (fun k => spec_IsTriangulation.j4 k a f true t (fc t a f).f0 (fc t a f).f1) (false && b) := fun b => by
      rw [Bool.false_and]; exact ev_step (fun k => by rw [spec_IsTriangulation.j4, if_pos rfl]) (Ev.now false)
    have hgo : Ev (fun k => spec_IsTriangulation.j3 k a f true t (fc t a f).f0 (fc t a f).f1) (goodFs t a (f + 1) d && R) := ev_step (fun k => by rw [spec_IsTriangulation.j3, if_pos rfl]) ih
    have hrest : (¬ ((fc t a f).f0 = -1 ∧ (fc t a f).f1 = 0)) → Ev (fun k => spec_IsTriangulation.j3 k a f false t (fc t a f).f0 (fc t a f).f1) (goodF t a f && goodFs t a (f + 1) d && R) := by
      intro hnb
      refine ev_step (fun k => by rw [spec_IsTriangulation.j3, spec_l07Tets.f, if_neg (by simp), yfy, l07In_eq, yfy, wrap_id (by omega) (by omega)]) ?_
      unfold goodF
      by_cases hi : 0 ≤ (fc t a f).f0 ∧ (fc t a f).f0 < (t.length : Int)
      · refine ev_pos (by simp; omega) ?_
        refine Ev.bind (ev_const (l06Valid_eq _)) ?_
        rw [if_neg (by omega)]
        by_cases hp : 0 ≤ (fc t a f).f1 ∧ (fc t a f).f1 ≤ 23
        · rw [if_pos ⟨hi.1, hi.2, hp.1, hp.2⟩]
          have e : (!(decide (0 ≤ (fc t a f).f1) && decide ((fc t a f).f1 ≤ 23))) = false := by simp [hp]
          rw [e]
          obtain ⟨hg0, hg1⟩ := permL_sm hp.1 hp.2 hf (by omega)
          have hr2 := row4 h4 hi.1 hi.2
          refine ev_step (fun k => by rw [spec_IsTriangulation.j4, if_neg (by simp)]) ?_
          refine Ev.bind (l06At_ev hp.1 hp.2 hf (by omega)) ?_
          refine Ev.bind (l06Back_ev hp.1 hp.2) ?_
          refine ev_pos hi.1 (ev_pos hi.2 (ev_pos hg0 (ev_pos (by rw [hr2]; omega) ?_)))
          change Ev (fun k => if (!((fc t (fc t a f).f0 (rd (permL (fc t a f).f1) f)).f0 == a) || !((fc t (fc t a f).f0 (rd (permL (fc t a f).f1) f)).f1 == invP (fc t a f).f1)) = true then _ else _) _
          generalize ((fc t (fc t a f).f0 (rd (permL (fc t a f).f1) f)).f0 == a) = b1
          generalize ((fc t (fc t a f).f0 (rd (permL (fc t a f).f1) f)).f1 == invP (fc t a f).f1) = b2
          cases b1 with
          | false => exact ev_pos rfl (by rw [Bool.false_and, Bool.false_and, Bool.false_and, Bool.false_and]; exact Ev.now false)
          | true =>
            cases b2 with
            | false => exact ev_pos rfl (by rw [Bool.true_and, Bool.false_and, Bool.false_and, Bool.false_and]; exact Ev.now false)
            | true =>
              refine ev_neg (by simp) ?_
              rw [Bool.true_and, Bool.true_and]
              by_cases ha : (fc t a f).f0 = a
              · refine ev_pos ha ?_
                by_cases hg : rd (permL (fc t a f).f1) f = f
                · refine ev_pos hg ?_
                  rw [ha, hg]
                  simp
                  exact Ev.now false
                · refine ev_neg hg ?_
                  have : (rd (permL (fc t a f).f1) f == f) = false := by simp [hg]
                  rw [this, Bool.and_false, Bool.not_false, Bool.true_and]
                  exact ih
              · refine ev_neg ha ?_
                have : ((fc t a f).f0 == a) = false := by simp [ha]
                rw [this, Bool.false_and, Bool.not_false, Bool.true_and]
                exact ih
        · rw [if_neg (by omega)]
          have e : (!(decide (0 ≤ (fc t a f).f1) && decide ((fc t a f).f1 ≤ 23))) = true := by
            rw [Bool.not_eq_true', Bool.and_eq_false_iff, decide_eq_false_iff_not, decide_eq_false_iff_not]; omega
          rw [e, Bool.false_and]
          exact hstop R
      · have hg : (if (fc t a f).f0 = -1 then ((fc t a f).f1 == 0) else if 0 ≤ (fc t a f).f0 ∧ (fc t a f).f0 < (t.length : Int) ∧ 0 ≤ (fc t a f).f1 ∧ (fc t a f).f1 ≤ 23 then
            ((fc t (fc t a f).f0 (rd (permL (fc t a f).f1) f)).f0 == a && (fc t (fc t a f).f0 (rd (permL (fc t a f).f1) f)).f1 == invP (fc t a f).f1) && !((fc t a f).f0 == a && rd (permL (fc t a f).f1) f == f) else false) = false := by
          by_cases hb : (fc t a f).f0 = -1
          · rw [if_pos hb]; simp; intro h; exact hnb ⟨hb, h⟩
          · rw [if_neg hb, if_neg (by omega)]
        rw [hg, Bool.false_and]
        refine ev_neg ?_ (hstop R)
        rw [Bool.and_eq_true, decide_eq_true_eq, decide_eq_true_eq]; omega
    by_cases hb : (fc t a f).f0 = -1
    · refine ev_pos hb ?_
      by_cases h0' : (fc t a f).f1 = 0
      · have e : goodF t a f = true := by unfold goodF; rw [if_pos hb]; simp [h0']
        rw [e, Bool.true_and]
        have e2 : ((fc t a f).f1 == 0) = true := by simp [h0']
        rw [e2]; exact hgo
      · have e2 : ((fc t a f).f1 == 0) = false := by simp [h0']
        rw [e2]; exact hrest (fun h => h0' h.2)
    · exact ev_neg hb (hrest (fun h => hb h.1))
theorem spec_l1_ev (h4 : ∀ r ∈ t, r.length = 4) (hn : t.length ≤ 8) : ∀ (d : Nat) (a : Int), 0 ≤ a → a + d = t.length → Ev (fun k => spec_IsTriangulation.l1 k a t) (goodTs t a d)
  | 0, a, ha, he => by
    refine ev_step (fun k => by rw [spec_IsTriangulation.l1, spec_l07Tets.f, yfy, if_neg (by omega)]) ?_
    exact Ev.now true
  | d + 1, a, ha, he => by
    refine ev_step (fun k => by rw [spec_IsTriangulation.l1, spec_l07Tets.f, yfy, if_pos (by omega)]) ?_
    rw [goodTs]
    exact spec_l2_ev h4 hn ha (by omega) (spec_l1_ev h4 hn d (a + 1) (by omega) (by omega)) 4 0 (by omega) (by omega)
theorem spec_l0_ev (h8 : t.length ≤ 8) (d : Nat) : ∀ n : Nat, n + d = t.length → (t.all (fun r => decide (r.length = 4)) = (t.drop n).all (fun r => decide (r.length = 4))) → Ev (fun k => spec_IsTriangulation.l0 k (n : Int) t) (t.all (fun r => decide (r.length = 4)) && goodTs t 0 t.length) := by
  induction d with
  | zero =>
    intro n hn ha
    refine ev_step (fun k => by rw [spec_IsTriangulation.l0, if_neg (by omega)]) ?_
    have hall : t.all (fun r => decide (r.length = 4)) = true := by rw [ha, List.drop_eq_nil_of_le (by omega)]; rfl
    rw [hall, Bool.true_and]
    exact spec_l1_ev (all4_iff.1 hall) h8 t.length 0 (by omega) (by omega)
  | succ d ih =>
    intro n hn ha
    have hlt : n < t.length := by omega
    refine ev_step (fun k => by rw [spec_IsTriangulation.l0, if_pos (by omega), if_pos (by omega), rd_LFace_lt t n hlt]) ?_
    rw [List.drop_eq_getElem_cons hlt, List.all_cons] at ha
    by_cases h : t[n].length = 4
    · refine ev_pos (by omega) ?_
      refine Ev.congr (fun k => by rw [wrap_succ (by omega)]) (ih (n + 1) (by omega) ?_)
      rw [ha, ygy h, Bool.true_and]
    · refine ev_neg (by omega) ?_
      rw [ha, yhy h, Bool.false_and, Bool.false_and]
      exact Ev.now false
theorem spec_isTri_ev (t : Tri) : Ev (fun k => spec_IsTriangulation.f k t) (isTri t) := by
  refine Ev.congr (fun k => by unfold spec_IsTriangulation.f spec_l07Tets.f; rw [yfy]) ?_
  unfold isTri
  by_cases h8 : t.length ≤ 8
  · refine ev_neg (by omega) ?_
    rw [ygy h8, Bool.true_and]
    exact spec_l0_ev h8 t.length 0 (by omega) (by rw [List.drop_zero])
  · refine ev_pos (by omega) ?_
    rw [yhy h8, Bool.false_and]
    exact Ev.now false
end
theorem isTri_good {t : Tri} (h : isTri t = true) : t.length ≤ 8 ∧ (∀ r ∈ t, r.length = 4) ∧ goodTs t 0 t.length = true := by
  unfold isTri at h
  rw [Bool.and_eq_true, Bool.and_eq_true, decide_eq_true_eq] at h
  exact ⟨h.1, all4_iff.1 h.2.1, h.2.2⟩
theorem goodFs_at (t : Tri) (a : Int) (d : Nat) : ∀ f, goodFs t a f d = true → ∀ g, f ≤ g → g < f + d → goodF t a g = true := by
  induction d with
  | zero => intro f _ g h1 h2; omega
  | succ d ih =>
    intro f h g h1 h2
    rw [goodFs, Bool.and_eq_true] at h
    by_cases e : g = f
    · rw [e]; exact h.1
    · exact ih (f + 1) h.2 g (by omega) (by omega)
theorem goodTs_at (t : Tri) (d : Nat) : ∀ a, goodTs t a d = true → ∀ b, a ≤ b → b < a + d → ∀ g, 0 ≤ g → g ≤ 3 → goodF t b g = true := by
  induction d with
  | zero => intro a _ b h1 h2; omega
  | succ d ih =>
    intro a h b h1 h2 g hg0 hg1
    rw [goodTs, Bool.and_eq_true] at h
    by_cases e : b = a
    · rw [e]; exact goodFs_at t a 4 0 h.1 g hg0 (by omega)
    · exact ih (a + 1) h.2 b (by omega) (by omega) g hg0 hg1
/-- A face of a valid triangulation: the boundary, or glued to a face that is glued back. -/
theorem face_good {t : Tri} (h : isTri t = true) {a f : Int} (h0 : 0 ≤ a) (h1 : a < t.length) (hf0 : 0 ≤ f) (hf1 : f ≤ 3) :
    ((fc t a f).f0 = -1 ∧ (fc t a f).f1 = 0) ∨
    ((0 ≤ (fc t a f).f0 ∧ (fc t a f).f0 < (t.length : Int) ∧ 0 ≤ (fc t a f).f1 ∧ (fc t a f).f1 ≤ 23) ∧
      (fc t (fc t a f).f0 (rd (permL (fc t a f).f1) f)).f0 = a ∧ (fc t (fc t a f).f0 (rd (permL (fc t a f).f1) f)).f1 = invP (fc t a f).f1 ∧ ¬ ((fc t a f).f0 = a ∧ rd (permL (fc t a f).f1) f = f)) := by
  have hg := goodTs_at t t.length 0 (isTri_good h).2.2 a h0 (by omega) f hf0 hf1
  unfold goodF at hg
  by_cases hb : (fc t a f).f0 = -1
  · rw [if_pos hb] at hg
    exact .inl ⟨hb, by simpa using hg⟩
  · rw [if_neg hb] at hg
    by_cases hi : 0 ≤ (fc t a f).f0 ∧ (fc t a f).f0 < (t.length : Int) ∧ 0 ≤ (fc t a f).f1 ∧ (fc t a f).f1 ≤ 23
    · rw [if_pos hi, Bool.and_eq_true, Bool.and_eq_true, Bool.not_eq_true'] at hg
      refine .inr ⟨hi, eq_of_beq hg.1.1, eq_of_beq hg.1.2, fun hc => ?_⟩
      have := hg.2
      rw [Bool.and_eq_false_iff] at this
      rcases this with h2 | h2
      · exact absurd hc.1 (by simpa using h2)
      · exact absurd hc.2 (by simpa using h2)
    · rw [if_neg hi] at hg; cases hg
theorem isTri_small {t : Tri} (h : isTri t = true) : Small t := ⟨by have := (isTri_good h).1; omega, fun r hr => by have := (isTri_good h).2.1 r hr; omega⟩
/-- Each of 0 to n - 1 once: what both sides look up, element by element. -/
def permGo (n : Nat) : List Int → List Bool → Bool
  | [], _ => true
  | x :: xs, seen => if (0 ≤ x ∧ x < (n : Int)) ∧ seen.getD x.toNat false = false then permGo n xs (seen.set x.toNat true) else false
def isPermL (n : Nat) (l : List Int) : Bool := permGo n l (List.replicate n false) && decide (l.length = n)
theorem permGo_fin (n : Nat) : ∀ (l : List Int) (seen : List Bool), seen.length = n → permGo n l seen = true →
    ∃ fin : List Bool, fin.length = n ∧ fin.count true = seen.count true + l.length ∧ ∀ i : Nat, fin[i]? = some true → seen[i]? = some true ∨ (i : Int) ∈ l
  | [], seen, hl, _ => ⟨seen, hl, by simp, fun i h => .inl h⟩
  | x :: xs, seen, hl, h => by
    rw [permGo] at h
    by_cases hc : (0 ≤ x ∧ x < (n : Int)) ∧ seen.getD x.toNat false = false
    · rw [if_pos hc] at h
      obtain ⟨⟨h0, h1⟩, h2⟩ := hc
      have hlt : x.toNat < seen.length := by omega
      obtain ⟨fin, f1, f2, f3⟩ := permGo_fin n xs (seen.set x.toNat true) (by simp [hl]) h
      have hx : seen[x.toNat] = false := by simpa [hlt] using h2
      refine ⟨fin, f1, ?_, fun i hi => ?_⟩
      · rw [f2, List.count_set hlt, hx]; simp; omega
      · rcases f3 i hi with h4 | h4
        · rw [List.getElem?_set] at h4
          by_cases e : x.toNat = i
          · exact .inr (by rw [← e, Int.toNat_of_nonneg h0]; exact List.mem_cons_self)
          · rw [if_neg e] at h4; exact .inl h4
        · exact .inr (List.mem_cons_of_mem _ h4)
    · rw [if_neg hc] at h; cases h
theorem permGo_range (n : Nat) : ∀ (l : List Int) (seen : List Bool), permGo n l seen = true → ∀ x ∈ l, 0 ≤ x ∧ x < (n : Int)
  | [], _, _ => fun x hx => by cases hx
  | y :: ys, seen, h => by
    rw [permGo] at h
    by_cases hc : (0 ≤ y ∧ y < (n : Int)) ∧ seen.getD y.toNat false = false
    · rw [if_pos hc] at h
      intro x hx
      rcases List.mem_cons.1 hx with rfl | hx
      · exact hc.1
      · exact permGo_range n ys _ h x hx
    · rw [if_neg hc] at h; cases h
theorem isPermL_len {n : Nat} {l : List Int} (h : isPermL n l = true) : l.length = n := by
  unfold isPermL at h; rw [Bool.and_eq_true, decide_eq_true_eq] at h; exact h.2
theorem isPermL_range {n : Nat} {l : List Int} (h : isPermL n l = true) : ∀ x ∈ l, 0 ≤ x ∧ x < (n : Int) := by
  unfold isPermL at h; rw [Bool.and_eq_true] at h; exact permGo_range n l _ h.1
theorem isPermL_all {n : Nat} {l : List Int} (h : isPermL n l = true) : ∀ i : Nat, i < n → (i : Int) ∈ l := by
  have hlen := isPermL_len h
  unfold isPermL at h; rw [Bool.and_eq_true] at h
  obtain ⟨fin, f1, f2, f3⟩ := permGo_fin n l _ (by simp) h.1
  have e : fin.count true = fin.length := by rw [f2, f1, hlen, List.count_replicate]; simp
  rw [List.count_eq_length] at e
  intro i hi
  have h2 : i < fin.length := by omega
  rcases f3 i (by rw [List.getElem?_eq_getElem h2, ← e fin[i] (List.getElem_mem h2)]) with h3 | h3
  · rw [List.getElem?_replicate, if_pos hi] at h3; cases h3
  · exact h3
theorem relN_get (t : Tri) (ts ps : List Int) (i : Nat) : ∀ (m : Nat) (u v : Tri), u.length = v.length → ((∃ a : Nat, a < m ∧ rd ts (a : Int) = (i : Int)) ∨ u[i]? = v[i]?) → (relN t ts ps m u)[i]? = (relN t ts ps m v)[i]?
  | 0, u, v, hl, h => by
    rcases h with ⟨a, ha, _⟩ | h
    · omega
    · exact h
  | m + 1, u, v, hl, h => by
    rw [relN, relN, List.getElem?_set, List.getElem?_set, relN_length, relN_length, hl]
    by_cases e : (rd ts (m : Int)).toNat = i
    · rw [if_pos e, if_pos e]
    · rw [if_neg e, if_neg e]
      refine relN_get t ts ps i m u v hl ?_
      rcases h with ⟨a, ha, h⟩ | h
      · rcases Nat.lt_or_ge a m with h2 | h2
        · exact .inl ⟨a, h2, h⟩
        · obtain rfl : a = m := by omega
          exact absurd (by rw [h]; rfl) e
      · exact .inr h
/-- What the list began with is all written over. -/
theorem relN_any (t : Tri) (ts ps : List Int) {n : Nat} (hp : isPermL n ts = true) {u v : Tri} (hu : u.length = n) (hv : v.length = n) : relN t ts ps n u = relN t ts ps n v := by
  apply List.ext_getElem?
  intro i
  by_cases hi : i < n
  · obtain ⟨a, ha, he⟩ := List.getElem_of_mem (isPermL_all hp i hi)
    refine relN_get t ts ps i n u v (by omega) (.inl ⟨a, by have := isPermL_len hp; omega, ?_⟩)
    rw [rd_lt _ _ ha]; exact he
  · rw [List.getElem?_eq_none (by rw [relN_length]; omega), List.getElem?_eq_none (by rw [relN_length]; omega)]
theorem spec_own_ev {t : Tri} (hs : Small t) : Ev (fun k => spec_l07Own.f k t) t := by
  refine ev_loop0 (fun k (s : Int × Tri) => spec_l07Own.l0 k s.1 t s.2) (fun s => ∃ n : Nat, n ≤ t.length ∧ s.1 = n ∧ s.2 = t.take n) (fun s => t.length - s.1.toNat) (fun _ => t) ?_ (0, []) ⟨0, by omega, rfl, by simp⟩
  rintro ⟨i, acc⟩ ⟨n, hn, rfl, rfl⟩
  dsimp only
  have hl := hs.1
  by_cases hlt : n < t.length
  · have hr := hs.2 t[n] (List.getElem_mem hlt)
    refine .inr ⟨(((n + 1 : Nat) : Int), t.take (n + 1)), ⟨n + 1, by omega, rfl, rfl⟩, by simp; omega, rfl, fun k => ?_⟩
    simp only [spec_l07Own.l0]
    rw [if_pos (by omega), yfy, if_pos (by omega), rd_LFace_lt t n hlt, if_pos (by simp; omega), if_pos (by simp; omega), wrap_succ (by omega), List.nil_append, List.take_succ_eq_append_getElem hlt]
  · obtain rfl : n = t.length := by omega
    refine .inl fun k => ?_
    simp only [spec_l07Own.l0]
    rw [if_neg (by omega), List.take_length]
/-- Numbers by which a triangulation of n tetrahedra can be relabelled. -/
def okPs (n : Nat) (ps : List Int) : Bool := decide (ps.length = n) && ps.all (fun p => decide (0 ≤ p) && decide (p ≤ 23))
def okLab (n : Nat) (ts ps : List Int) : Bool := isPermL n ts && okPs n ps
theorem okLab_h {n : Nat} {ts ps : List Int} (h : okLab n ts ps = true) : ts.length = n ∧ (∀ x ∈ ts, 0 ≤ x ∧ x < (n : Int)) ∧ ps.length = n ∧ ∀ x ∈ ps, 0 ≤ x ∧ x ≤ 23 := by
  unfold okLab okPs at h
  simp only [Bool.and_eq_true, decide_eq_true_eq, List.all_eq_true] at h
  exact ⟨isPermL_len h.1, isPermL_range h.1, h.2.1, h.2.2⟩
def relT (t : Tri) (ts ps : List Int) : Tri := relN t ts ps t.length (List.replicate t.length [])
theorem relN_rows (t : Tri) (ts ps : List Int) (u : Tri) (hu : ∀ r ∈ u, r.length ≤ 4) : ∀ n, ∀ r ∈ relN t ts ps n u, r.length ≤ 4
  | 0 => hu
  | n + 1 => fun r hr => by
    rw [relN] at hr
    rcases List.mem_or_eq_of_mem_set hr with h | h
    · exact relN_rows t ts ps u hu n r h
    · rw [h, relK_length]; omega
theorem relT_small {t : Tri} (h : t.length ≤ 8) (ts ps : List Int) : Small (relT t ts ps) :=
  ⟨by unfold relT; rw [relN_length, List.length_replicate]; omega, fun r hr => by have := relN_rows t ts ps _ (fun r hr => by rw [(List.mem_replicate.1 hr).2]; simp) _ r hr; omega⟩
theorem okRel_of {t : Tri} (h : isTri t = true) {ts ps : List Int} (hl : okLab t.length ts ps = true) : okRel t ts ps = true := by
  obtain ⟨h8, h4, _⟩ := isTri_good h
  obtain ⟨a, b, c, d⟩ := okLab_h hl
  unfold okRel
  simp only [Bool.and_eq_true, decide_eq_true_eq, List.all_eq_true]
  refine ⟨⟨⟨⟨⟨by omega, fun r hr => ⟨h4 r hr, fun x hx => ?_⟩⟩, a⟩, b⟩, c⟩, d⟩
  unfold okF
  by_cases hb : x.f0 < 0
  · rw [ygy hb]; rfl
  · rw [yhy hb, Bool.false_or, Bool.and_eq_true, Bool.and_eq_true, decide_eq_true_eq, decide_eq_true_eq, decide_eq_true_eq]
    obtain ⟨i, hi, rfl⟩ := List.getElem_of_mem hr
    obtain ⟨j, hj, rfl⟩ := List.getElem_of_mem hx
    have hj4 := h4 _ (List.getElem_mem hi)
    have e : fc t (i : Int) (j : Int) = t[i][j] := by show rd_Face (rd_LFace t (i : Int)) (j : Int) = _; rw [rd_LFace_lt t i hi, rd_Face_lt _ j hj]
    rcases face_good h (a := (i : Int)) (f := (j : Int)) (by omega) (by omega) (by omega) (by omega) with ⟨e1, _⟩ | ⟨e1, _⟩
    · rw [e] at e1; exact absurd (by omega) hb
    · rw [e] at e1; exact ⟨⟨e1.2.1, e1.2.2.1⟩, e1.2.2.2⟩
theorem impl_relabeled_eq {t : Tri} (h : isTri t = true) {ts ps : List Int} (hl : okLab t.length ts ps = true) : impl_Triangulation_relabeled.f t ts ps = some (relT t ts ps) := by
  unfold impl_Triangulation_relabeled.f; rw [if_pos (okRel_of h hl)]; rfl
theorem permsOk_from : ∀ d : Nat, permsOk (40 + d) = true
  | 0 => by decide +kernel
  | d + 1 => permsOk_mono (permsOk_from d)
theorem permsOk_ev {α : Type} {g h : Nat → Option α} {r : α} (k : Ev g r) : Ev (fun n => if permsOk n = true then g n else h n) r := by
  obtain ⟨K, hK⟩ := k
  refine ⟨K + 40, fun n hn => ?_⟩
  have := permsOk_from (n - 40)
  rw [show 40 + (n - 40) = n by omega] at this
  show (if permsOk n = true then g n else h n) = some r
  rw [if_pos this]
  exact hK n (by omega)
theorem spec_rel_ev {t : Tri} {ts ps : List Int} (h : isTri t = true) (hl : okLab t.length ts ps = true) : Ev (fun k => spec_l07Relabel.f k t ts ps) (relT t ts ps) := by
  refine Ev.bind (spec_own_ev (isTri_small h)) (ev_pos (okRel_of h hl) (permsOk_ev (ev_pos rfl (ev_some ?_))))
  have hp : isPermL t.length ts = true := by unfold okLab at hl; rw [Bool.and_eq_true] at hl; exact hl.1
  exact (relN_any t ts ps hp (u := List.replicate t.length []) (v := t) (by simp) rfl).symm
theorem impl_isPerm_l0 (n : Nat) (hn : n ≤ 8) (l : List Int) (hl : l.length ≤ 1048576) : ∀ (d i : Nat) (seen : List Bool), i + d = l.length → seen.length = n →
    Ev (fun k => impl_isPermutation.l0 k l (n : Int) seen l (l.length : Int) (i : Int)) (permGo n (l.drop i) seen && decide (l.length = n)) := by
  intro d
  induction d with
  | zero =>
    intro i seen hi hs
    rw [List.drop_eq_nil_of_le (by omega), permGo, Bool.true_and]
    refine ev_step (f := fun k => (impl_size_int64.f l).bind fun x => some (x == (n : Int))) (fun k => by rw [impl_isPermutation.l0, if_neg (by omega)]) (Ev.bind (a := (l.length : Int)) (ev_const (by unfold impl_size_int64.f; rfl)) (ev_some ?_))
    rw [Bool.eq_iff_iff]; simp; omega
  | succ d ih =>
    intro i seen hi hs
    have hlt : i < l.length := by omega
    refine ev_step (fun k => by rw [impl_isPermutation.l0, if_pos (by omega), if_pos (by omega), if_pos (by omega), rd_lt l i hlt]) (Ev.bind (ev_const (inRange_eq _ _ _)) ?_)
    rw [List.drop_eq_getElem_cons hlt, permGo, wrap_id (by omega) (by omega)]
    generalize l[i] = x
    by_cases hx : 0 ≤ x ∧ x < (n : Int)
    · refine ev_pos (by rw [Bool.and_eq_true, decide_eq_true_eq, decide_eq_true_eq]; omega) (ev_pos hx.1 (ev_pos (by omega) ?_))
      cases hb : rdOf false seen x with
      | true =>
        refine ev_pos rfl (ev_some ?_)
        rw [if_neg (fun hc => by have := hc.2; unfold rdOf at hb; rw [this] at hb; cases hb), Bool.false_and]
      | false =>
        refine ev_neg (by simp) ?_
        rw [if_pos ⟨hx, hb⟩]
        exact Ev.congr (fun k => by rw [wrap_succ (by omega)]) (ih (i + 1) _ (by omega) (by simp [hs]))
    · refine ev_neg (by rw [Bool.and_eq_true, decide_eq_true_eq, decide_eq_true_eq]; omega) (ev_some ?_)
      rw [if_neg (fun hc => hx hc.1), Bool.false_and]
theorem impl_isPerm_ev (n : Nat) (hn : n ≤ 8) (l : List Int) (hl : l.length ≤ 1048576) : Ev (fun k => impl_isPermutation.f k l (n : Int)) (isPermL n l) := by
  refine ev_pos (by omega) (ev_pos (by omega) ?_)
  have := impl_isPerm_l0 n hn l hl l.length 0 (List.replicate n false) (by omega) (by simp)
  rw [List.drop_zero] at this
  exact this
theorem spec_isPerm_l0 (n : Nat) (hn : n ≤ 8) (l : List Int) (hl : l.length ≤ 1048576) : ∀ (d i : Nat) (seen : List Bool), i + d = l.length → seen.length = n →
    Ev (fun k => spec_l07Permutation.l0 k l (n : Int) seen (i : Int)) (permGo n (l.drop i) seen && decide (l.length = n)) := by
  intro d
  induction d with
  | zero =>
    intro i seen hi hs
    rw [List.drop_eq_nil_of_le (by omega), permGo, Bool.true_and]
    refine ev_step (fun k => by rw [spec_l07Permutation.l0, if_neg (by omega)]) (ev_some ?_)
    rw [Bool.eq_iff_iff]; simp; omega
  | succ d ih =>
    intro i seen hi hs
    have hlt : i < l.length := by omega
    refine ev_step (fun k => by rw [spec_l07Permutation.l0, if_pos (by omega), if_pos (by omega), rd_lt l i hlt]) (Ev.bind (ev_const (l07In_eq _ _ _)) ?_)
    rw [List.drop_eq_getElem_cons hlt, permGo, wrap_id (by omega) (by omega)]
    generalize l[i] = x
    by_cases hx : 0 ≤ x ∧ x < (n : Int)
    · refine ev_pos (by rw [Bool.and_eq_true, decide_eq_true_eq, decide_eq_true_eq]; omega) (ev_pos hx.1 (ev_pos (by omega) ?_))
      cases hb : rdOf false seen x with
      | true =>
        refine ev_pos rfl (ev_some ?_)
        rw [if_neg (fun hc => by have := hc.2; unfold rdOf at hb; rw [this] at hb; cases hb), Bool.false_and]
      | false =>
        refine ev_neg (by simp) ?_
        rw [if_pos ⟨hx, hb⟩]
        exact Ev.congr (fun k => by rw [wrap_succ (by omega)]) (ih (i + 1) _ (by omega) (by simp [hs]))
    · refine ev_neg (by rw [Bool.and_eq_true, decide_eq_true_eq, decide_eq_true_eq]; omega) (ev_some ?_)
      rw [if_neg (fun hc => hx hc.1), Bool.false_and]
theorem spec_isPerm_ev (n : Nat) (hn : n ≤ 8) (l : List Int) (hl : l.length ≤ 1048576) : Ev (fun k => spec_l07Permutation.f k l (n : Int)) (isPermL n l) := by
  refine ev_pos (by omega) (ev_pos (by omega) ?_)
  have := spec_isPerm_l0 n hn l hl l.length 0 (List.replicate n false) (by omega) (by simp)
  rw [List.drop_zero] at this
  exact this
def valP (p : Int) : Bool := decide (0 ≤ p) && decide (p ≤ 23)
theorem okLab_eq (n : Nat) (ts ps : List Int) : okLab n ts ps = (ps.all valP && (isPermL n ts && decide (ps.length = n))) := by
  unfold okLab okPs
  rw [show (fun p : Int => decide (0 ≤ p) && decide (p ≤ 23)) = valP from rfl, ← Bool.and_assoc, Bool.and_comm]
theorem spec_labels_ev (t : Tri) (ht : t.length ≤ 8) (ts ps : List Int) (h1 : ts.length ≤ 1048576) (h2 : ps.length ≤ 1048576) : Ev (fun k => spec_l07Labels.f k t ts ps) (okLab t.length ts ps) := by
  have key : ∀ d i : Nat, i + d = ps.length → Ev (fun k => spec_l07Labels.l0 k ts ps (i : Int) t) ((ps.drop i).all valP && (isPermL t.length ts && decide (ps.length = t.length))) := by
    intro d
    induction d with
    | zero =>
      intro i hi
      rw [List.drop_eq_nil_of_le (by omega), List.all_nil, Bool.true_and]
      refine ev_step (fun k => by rw [spec_l07Labels.l0, if_neg (by omega)]) (Ev.bind (spec_isPerm_ev t.length ht ts h1) ?_)
      cases isPermL t.length ts with
      | true => refine ev_pos rfl (ev_some ?_); rw [Bool.true_and, Bool.eq_iff_iff]; simp; omega
      | false => exact ev_neg (by simp) (Ev.now _)
    | succ d ih =>
      intro i hi
      have hlt : i < ps.length := by omega
      refine ev_step (fun k => by rw [spec_l07Labels.l0, if_pos (by omega), if_pos (by omega), rd_lt ps i hlt]) (Ev.bind (ev_const (l06Valid_eq _)) ?_)
      rw [List.drop_eq_getElem_cons hlt, List.all_cons]
      generalize ps[i] = x
      cases hv : valP x with
      | true => exact ev_pos hv (by rw [Bool.true_and]; exact Ev.congr (fun k => by rw [wrap_succ (by omega)]) (ih (i + 1) (by omega)))
      | false => exact ev_neg (by show ¬ valP x = true; rw [hv]; simp) (Ev.now _)
  have := key ps.length 0 (by omega)
  rw [List.drop_zero, ← okLab_eq] at this
  exact this
theorem impl_relabeling_ev (t : Tri) (ht : t.length ≤ 8) (ts ps : List Int) (h1 : ts.length ≤ 1048576) : Ev (fun k => impl_isRelabeling.f k t ts ps) (okLab t.length ts ps) := by
  have e1 : impl_size_Simpl_Face.f t = some (t.length : Int) := by unfold impl_size_Simpl_Face.f; rfl
  refine Ev.bind (ev_const e1) (Ev.bind (impl_isPerm_ev t.length ht ts h1) ?_)
  rw [okLab_eq]
  cases isPermL t.length ts with
  | false => refine ev_neg (by simp) (ev_some ?_); rw [Bool.false_and, Bool.and_false]
  | true =>
    refine ev_pos rfl ?_
    by_cases hl : (ps.length : Int) = (t.length : Int)
    · refine ev_pos hl (Ev.bind (a := ps.any fun p => !(valP p)) (ev_const ?_) (ev_some ?_))
      · exact contO ps (fun p _ => by show (impl_isPerm.f p).bind _ = _; rw [isPerm_eq]; rfl)
      · have e2 : decide (ps.length = t.length) = true := ygy (by omega)
        rw [Bool.true_and, e2, Bool.and_true, List.all_eq_not_any_not]
    · refine ev_neg hl (ev_some ?_)
      have e2 : decide (ps.length = t.length) = false := yhy (by omega)
      rw [Bool.true_and, e2, Bool.and_false]
theorem face_ne (x y : SFace) : (!(x.f0 == y.f0) || !(x.f1 == y.f1)) = true ↔ x ≠ y := by
  obtain ⟨a, b⟩ := x
  obtain ⟨c, d⟩ := y
  simp only [Bool.or_eq_true, Bool.not_eq_true', beq_eq_false_iff_ne, ne_eq, SFace.mk.injEq]
  omega
theorem drop_eq {α : Type} {x y : List α} {i : Nat} (h1 : i < x.length) (h2 : i < y.length) : x.drop i = y.drop i ↔ x[i] = y[i] ∧ x.drop (i + 1) = y.drop (i + 1) := by
  rw [List.drop_eq_getElem_cons h1, List.drop_eq_getElem_cons h2, List.cons.injEq]
theorem eqS_l0 (x y : List SFace) (hl : x.length = y.length) (hs : x.length ≤ 1048576) : ∀ d i : Nat, i + d = x.length → ∃ r : Bool, Ev (fun k => slices_Equal_Simpl_Face.l0 k x y (x.length : Int) (i : Int)) r ∧ (r = true ↔ x.drop i = y.drop i) := by
  intro d
  induction d with
  | zero =>
    intro i hi
    refine ⟨true, ev_step (fun k => by rw [slices_Equal_Simpl_Face.l0, if_neg (by omega)]) (Ev.now _), ?_⟩
    rw [List.drop_eq_nil_of_le (by omega), List.drop_eq_nil_of_le (by omega)]; simp
  | succ d ih =>
    intro i hi
    have h1 : i < x.length := by omega
    have h2 : i < y.length := by omega
    rw [drop_eq h1 h2]
    have hstep : ∀ {r : Bool}, Ev (fun k => if (!((rd_Face x (i : Int)).f0 == (rd_Face y (i : Int)).f0) || !((rd_Face x (i : Int)).f1 == (rd_Face y (i : Int)).f1)) = true then some false else slices_Equal_Simpl_Face.l0 k x y (x.length : Int) (wrap64 ((i : Int) + 1))) r → Ev (fun k => slices_Equal_Simpl_Face.l0 k x y (x.length : Int) (i : Int)) r := fun hr =>
      ev_step (fun k => by rw [slices_Equal_Simpl_Face.l0, if_pos (by omega), if_pos (by omega), if_pos (by omega), if_pos (by omega)]) hr
    by_cases hc : (!((rd_Face x (i : Int)).f0 == (rd_Face y (i : Int)).f0) || !((rd_Face x (i : Int)).f1 == (rd_Face y (i : Int)).f1)) = true
    · refine ⟨false, hstep (ev_pos hc (Ev.now _)), ?_⟩
      rw [face_ne, rd_Face_lt x i h1, rd_Face_lt y i h2] at hc
      simp [hc]
    · obtain ⟨r, hr, hr2⟩ := ih (i + 1) (by omega)
      refine ⟨r, hstep (ev_neg hc (Ev.congr (fun k => by rw [wrap_succ (by omega)]) hr)), ?_⟩
      rw [face_ne, rd_Face_lt x i h1, rd_Face_lt y i h2] at hc
      rw [hr2]; simp at hc; simp [hc]
theorem eqS_ev (x y : List SFace) (hs : x.length ≤ 1048576) (hs2 : y.length ≤ 1048576) : ∃ r : Bool, Ev (fun k => slices_Equal_Simpl_Face.f k x y) r ∧ (r = true ↔ x = y) := by
  by_cases hl : (x.length : Int) = (y.length : Int)
  · obtain ⟨r, hr, hr2⟩ := eqS_l0 x y (by omega) hs x.length 0 (by omega)
    rw [List.drop_zero, List.drop_zero] at hr2
    exact ⟨r, ev_pos hl hr, hr2⟩
  · refine ⟨false, ev_neg hl (Ev.now _), ?_⟩
    have : x ≠ y := fun e => hl (by rw [e])
    simp [this]
theorem eqRows_ev : ∀ (a b : Tri), a.length = b.length → (∀ r ∈ a, r.length ≤ 1048576) → (∀ r ∈ b, r.length ≤ 1048576) → ∃ r : Bool, Ev (fun k => eqRows k a b) r ∧ (r = true ↔ a = b)
  | [], [], _, _, _ => ⟨true, Ev.now _, by simp⟩
  | [], y :: ys, h, _, _ => by simp at h
  | x :: xs, [], h, _, _ => by simp at h
  | x :: xs, y :: ys, h, ha, hb => by
    obtain ⟨e, he, he2⟩ := eqS_ev x y (ha x List.mem_cons_self) (hb y List.mem_cons_self)
    obtain ⟨r, hr, hr2⟩ := eqRows_ev xs ys (by simpa using h) (fun z hz => ha z (List.mem_cons_of_mem _ hz)) (fun z hz => hb z (List.mem_cons_of_mem _ hz))
    cases e with
    | true =>
      refine ⟨r, Ev.bind he (ev_pos rfl hr), ?_⟩
      rw [hr2, List.cons.injEq]; simp [he2.1 rfl]
    | false =>
      refine ⟨false, Ev.bind he (ev_neg (by simp) (Ev.now _)), ?_⟩
      have : x ≠ y := fun e => by have := he2.2 e; cases this
      simp [this]
theorem same_ev (a b : Tri) (ha : Small a) (hb : Small b) : ∃ r : Bool, Ev (fun k => impl_sameFaces.f k a b) r ∧ (r = true ↔ a = b) := by
  by_cases hl : a.length = b.length
  · obtain ⟨r, hr, hr2⟩ := eqRows_ev a b hl ha.2 hb.2
    exact ⟨r, ev_pos hl hr, hr2⟩
  · refine ⟨false, ev_neg hl (Ev.now _), ?_⟩
    have : a ≠ b := fun e => hl (by rw [e])
    simp [this]
theorem l11_l1 (a b : Tri) (i : Nat) (h1 : i < a.length) (h2 : i < b.length) (l1 : a[i].length = 4) (l2 : b[i].length = 4) (R : Bool) (P : Prop) (hR : Ev (fun k => spec_l11Equal.l0 k (wrap64 ((i : Int) + 1)) a b) R) (hP : R = true ↔ P) :
    ∀ d f : Nat, f + d = 4 → ∃ r : Bool, Ev (fun k => spec_l11Equal.l1 k (i : Int) (f : Int) a b) r ∧ (r = true ↔ a[i].drop f = b[i].drop f ∧ P) := by
  intro d
  induction d with
  | zero =>
    intro f hf
    refine ⟨R, ev_step (fun k => by rw [spec_l11Equal.l1, if_neg (by omega)]) hR, ?_⟩
    rw [List.drop_eq_nil_of_le (by omega), List.drop_eq_nil_of_le (by omega)]; simp [hP]
  | succ d ih =>
    intro f hf
    have g1 : f < a[i].length := by omega
    have g2 : f < b[i].length := by omega
    have ea := rd_LFace_lt a i h1
    have eb := rd_LFace_lt b i h2
    rw [drop_eq g1 g2]
    have hstep : ∀ {r : Bool}, Ev (fun k => if (!((rd_Face a[i] (f : Int)).f0 == (rd_Face b[i] (f : Int)).f0) || !((rd_Face a[i] (f : Int)).f1 == (rd_Face b[i] (f : Int)).f1)) = true then some false else spec_l11Equal.l1 k (i : Int) (wrap64 ((f : Int) + 1)) a b) r → Ev (fun k => spec_l11Equal.l1 k (i : Int) (f : Int) a b) r := fun hr =>
      ev_step (fun k => by rw [spec_l11Equal.l1, ea, eb, if_pos (by omega), if_pos (by omega), if_pos (by omega), if_pos (by omega), if_pos (by omega), if_pos (by omega), if_pos (by omega)]) hr
    by_cases hc : (!((rd_Face a[i] (f : Int)).f0 == (rd_Face b[i] (f : Int)).f0) || !((rd_Face a[i] (f : Int)).f1 == (rd_Face b[i] (f : Int)).f1)) = true
    · refine ⟨false, hstep (ev_pos hc (Ev.now _)), ?_⟩
      rw [face_ne, rd_Face_lt _ f g1, rd_Face_lt _ f g2] at hc
      simp [hc]
    · obtain ⟨r, hr, hr2⟩ := ih (f + 1) (by omega)
      refine ⟨r, hstep (ev_neg hc (Ev.congr (fun k => by rw [wrap_succ (by omega)]) hr)), ?_⟩
      rw [face_ne, rd_Face_lt _ f g1, rd_Face_lt _ f g2] at hc
      rw [hr2]; simp at hc; simp [hc]
theorem l11_l0 (a b : Tri) (hl : a.length = b.length) (h8 : a.length ≤ 8) (ha : ∀ r ∈ a, r.length = 4) (hb : ∀ r ∈ b, r.length = 4) : ∀ d i : Nat, i + d = a.length → ∃ r : Bool, Ev (fun k => spec_l11Equal.l0 k (i : Int) a b) r ∧ (r = true ↔ a.drop i = b.drop i) := by
  intro d
  induction d with
  | zero =>
    intro i hi
    refine ⟨true, ev_step (fun k => by rw [spec_l11Equal.l0, if_neg (by omega)]) (Ev.now _), ?_⟩
    rw [List.drop_eq_nil_of_le (by omega), List.drop_eq_nil_of_le (by omega)]; simp
  | succ d ih =>
    intro i hi
    have h1 : i < a.length := by omega
    have h2 : i < b.length := by omega
    obtain ⟨R, hR, hR2⟩ := ih (i + 1) (by omega)
    obtain ⟨r, hr, hr2⟩ := l11_l1 a b i h1 h2 (ha _ (List.getElem_mem h1)) (hb _ (List.getElem_mem h2)) R _ (by rw [wrap_succ (by omega)]; exact hR) hR2 4 0 (by omega)
    refine ⟨r, ev_step (f := fun k => spec_l11Equal.l1 k (i : Int) ((0 : Nat) : Int) a b) (fun k => by rw [spec_l11Equal.l0, if_pos (by omega)]; rfl) hr, ?_⟩
    rw [hr2, drop_eq h1 h2, List.drop_zero, List.drop_zero]
theorem l11_ev (a b : Tri) (h8 : a.length ≤ 8) (ha : ∀ r ∈ a, r.length = 4) (hb : ∀ r ∈ b, r.length = 4) : ∃ r : Bool, Ev (fun k => spec_l11Equal.f k a b) r ∧ (r = true ↔ a = b) := by
  by_cases hl : (a.length : Int) = (b.length : Int)
  · obtain ⟨r, hr, hr2⟩ := l11_l0 a b (by omega) h8 ha hb a.length 0 (by omega)
    rw [List.drop_zero, List.drop_zero] at hr2
    exact ⟨r, ev_pos hl hr, hr2⟩
  · refine ⟨false, ev_neg hl (Ev.now _), ?_⟩
    have : a ≠ b := fun e => hl (by rw [e])
    simp [this]
theorem relN_row4 (t : Tri) (ts ps : List Int) (u : Tri) (hu : ∀ r ∈ u, r.length = 4) : ∀ n, ∀ r ∈ relN t ts ps n u, r.length = 4
  | 0 => hu
  | n + 1 => fun r hr => by
    rw [relN] at hr
    rcases List.mem_or_eq_of_mem_set hr with h | h
    · exact relN_row4 t ts ps u hu n r h
    · rw [h, relK_length]
theorem relT_row4 {t : Tri} (h : isTri t = true) {ts ps : List Int} (hl : okLab t.length ts ps = true) : ∀ r ∈ relT t ts ps, r.length = 4 := by
  have hp : isPermL t.length ts = true := by unfold okLab at hl; rw [Bool.and_eq_true] at hl; exact hl.1
  unfold relT
  rw [relN_any t ts ps hp (u := List.replicate t.length []) (v := t) (by simp) rfl]
  exact relN_row4 t ts ps t (isTri_good h).2.1 t.length
theorem isIso_ev {a b : Tri} (ha : Small a) (hb : Small b) (ts ps : List Int) (h1 : ts.length ≤ 1048576) (h2 : ps.length ≤ 1048576) : ∃ r : Bool, Ev (fun k => spec_IsIsomorphism.f k a b ts ps) r ∧ Ev (fun k => impl_IsIsomorphism.f k a b ts ps) r := by
  have a1 := spec_isTri_ev a
  have a2 := impl_isTri_ev ha
  have b1 := spec_isTri_ev b
  have b2 := impl_isTri_ev hb
  cases h : isTri a with
  | false => rw [h] at a1 a2; exact ⟨false, Ev.bind a1 (ev_neg (by simp) (Ev.now _)), Ev.bind a2 (ev_neg (by simp) (Ev.now _))⟩
  | true =>
  cases g : isTri b with
  | false => rw [h] at a1 a2; rw [g] at b1 b2; exact ⟨false, Ev.bind a1 (ev_pos rfl (Ev.bind b1 (ev_neg (by simp) (Ev.now _)))), Ev.bind a2 (ev_pos rfl (Ev.bind b2 (ev_neg (by simp) (Ev.now _))))⟩
  | true =>
  rw [h] at a1 a2
  rw [g] at b1 b2
  have h8 := (isTri_good h).1
  have l1 := spec_labels_ev a h8 ts ps h1 h2
  have l2 := impl_relabeling_ev a h8 ts ps h1
  cases hl : okLab a.length ts ps with
  | false => rw [hl] at l1 l2; exact ⟨false, Ev.bind a1 (ev_pos rfl (Ev.bind b1 (ev_pos rfl (Ev.bind l1 (ev_neg (by simp) (Ev.now _)))))), Ev.bind a2 (ev_pos rfl (Ev.bind b2 (ev_pos rfl (Ev.bind l2 (ev_neg (by simp) (Ev.now _))))))⟩
  | true =>
  rw [hl] at l1 l2
  have hS := relT_small h8 ts ps
  obtain ⟨r, hr, hr2⟩ := l11_ev (relT a ts ps) b (by unfold relT; rw [relN_length, List.length_replicate]; exact h8) (relT_row4 h hl) (isTri_good g).2.1
  obtain ⟨q, hq, hq2⟩ := same_ev (relT a ts ps) b hS hb
  have e : r = q := by
    cases r <;> cases q
    · rfl
    · exact absurd (hr2.2 (hq2.1 rfl)) (by simp)
    · exact absurd (hq2.2 (hr2.1 rfl)) (by simp)
    · rfl
  subst e
  exact ⟨r, Ev.bind a1 (ev_pos rfl (Ev.bind b1 (ev_pos rfl (Ev.bind l1 (ev_pos rfl (Ev.bind (spec_rel_ev h hl) (Ev.bind hr (Ev.now _)))))))), Ev.bind a2 (ev_pos rfl (Ev.bind b2 (ev_pos rfl (Ev.bind l2 (ev_pos rfl (Ev.bind (ev_const (impl_relabeled_eq h hl)) (Ev.bind hq (Ev.now _))))))))⟩
theorem szF_go (t : List (List SLawFace)) (h : Fits t) (hl : t.length ≤ 1048576) : ∀ d n : Nat, ∀ a : Int, n + d = t.length → 0 ≤ a → a ≤ 1048576 → ∃ r, Ev (fun k => laws_szFaceSS.l0 k t a (n : Int)) r ∧ (0 ≤ r → ∀ x ∈ t.drop n, x.length ≤ 1048576) ∧ r ≤ 1048576 := by
  intro d
  induction d with
  | zero =>
    intro n a hn h0 h1
    refine ⟨a, ev_step (f := fun _ => some a) (fun k => ?_) (Ev.now a), fun _ x hx => ?_, h1⟩
    · simp only [laws_szFaceSS.l0]; rw [if_neg (by omega)]
    · rw [List.drop_eq_nil_of_le (by omega)] at hx; cases hx
  | succ d ih =>
    intro n a hn h0 h1
    have hlt : n < t.length := by omega
    have hf := h.2 t[n] (List.getElem_mem hlt)
    by_cases hc : a - t[n].length < 0
    · refine ⟨-1, ev_step (f := fun _ => some (-1)) (fun k => ?_) (Ev.now (-1)), fun h => by omega, by omega⟩
      simp only [laws_szFaceSS.l0]
      rw [if_pos (by omega), if_pos (by omega), rd_LLawFace_lt t n hlt, szFaceS_eq _ a h0 h1 hf, yfy, if_pos hc]
      rfl
    · obtain ⟨r, hr, hr2, hr3⟩ := ih (n + 1) (a - t[n].length) (by omega) (by omega) (by omega)
      refine ⟨r, ev_step (fun k => ?_) hr, fun h x hx => ?_, hr3⟩
      · simp only [laws_szFaceSS.l0]
        rw [if_pos (by omega), if_pos (by omega), rd_LLawFace_lt t n hlt, szFaceS_eq _ a h0 h1 hf, yfy, if_neg hc, if_neg (by omega), wrap_succ (by omega)]
      · rw [List.drop_eq_getElem_cons hlt] at hx
        rcases List.mem_cons.1 hx with rfl | hx
        · omega
        · exact hr2 h x hx
theorem szTriangulation_from (t : List (List SLawFace)) (h : Fits t) (a : Int) (h0 : 0 ≤ a) (h1 : a ≤ 1048576) : ∃ r, Ev (fun k => laws_szTriangulation.f k t a) r ∧ (¬ r < 0 → SmallL t) ∧ r ≤ 1048576 := by
  have hf := h.1
  by_cases hl : (a - (t.length : Int)) < 0
  · refine ⟨-1, ?_, fun h => by omega, by omega⟩
    refine Ev.bind (a := -1) (ev_const' (fun k => ?_)) (ev_pos (by omega) (Ev.now _))
    unfold laws_szFaceSS.f
    rw [wrap_id (by omega) (by omega), if_pos hl]
  · obtain ⟨r, hr, hr2, hr3⟩ := szF_go t h (by omega) t.length 0 (a - t.length) (by omega) (by omega) (by omega)
    have h2 : Ev (fun k => laws_szFaceSS.f k t a) r := by
      refine Ev.congr (fun k => ?_) hr
      unfold laws_szFaceSS.f
      rw [wrap_id (by omega) (by omega), if_neg hl]
      rfl
    by_cases hn : r < 0
    · exact ⟨-1, Ev.bind h2 (ev_pos hn (Ev.now _)), fun h => by omega, by omega⟩
    · exact ⟨r, Ev.bind h2 (ev_neg hn (Ev.now _)), fun _ => ⟨by omega, fun x hx => hr2 (by omega) x (by rwa [List.drop_zero])⟩, hr3⟩
theorem take_succ_rep {α : Type} (l : List α) (z : α) (n : Nat) (h : n < l.length) :
    (l.take n ++ List.replicate (l.length - n) z).set n l[n] = l.take (n + 1) ++ List.replicate (l.length - (n + 1)) z := by
  have e : l.length - n = (l.length - (n + 1)) + 1 := by omega
  rw [e, List.replicate_succ, List.set_append_right _ _ (by simp; omega)]
  have : n - (l.take n).length = 0 := by simp; omega
  rw [this, yby, List.take_succ_eq_append_getElem h, List.append_assoc]
  rfl
theorem toInt64S_ev (l : List Int) (h : l.length ≤ 4398046511104) : Ev (fun k => laws_toInt64S.f k l) l := by
  have hl : Ev (fun k => laws_toInt64S.l0 k l (List.replicate l.length 0) 0) l := by
    refine ev_loop0 (fun k (s : List Int × Int) => laws_toInt64S.l0 k l s.1 s.2) (fun s => ∃ n : Nat, n ≤ l.length ∧ s.2 = n ∧ s.1 = l.take n ++ List.replicate (l.length - n) 0) (fun s => l.length - s.2.toNat) (fun _ => l) ?_ (List.replicate l.length 0, 0) ⟨0, by omega, rfl, by simp⟩
    rintro ⟨a, i⟩ ⟨n, hn, rfl, rfl⟩
    dsimp only
    by_cases hlt : n < l.length
    · refine .inr ⟨(l.take (n + 1) ++ List.replicate (l.length - (n + 1)) 0, ((n + 1 : Nat) : Int)), ⟨n + 1, by omega, rfl, rfl⟩, by simp; omega, rfl, fun k => ?_⟩
      simp only [laws_toInt64S.l0]
      rw [if_pos (by omega), if_pos (by omega), if_pos (by simp; omega), wrap_succ (by omega), Int.toNat_natCast, rd_lt l n hlt, take_succ_rep l 0 n hlt]
    · obtain rfl : n = l.length := by omega
      refine .inl fun k => ?_
      simp only [laws_toInt64S.l0]
      rw [if_neg (by omega)]
      simp
  refine Ev.congr (fun k => ?_) hl
  unfold laws_toInt64S.f
  rw [if_pos (by omega), if_pos (by simp; omega), Int.toNat_natCast]
theorem eqInt64S_ev (l : List Int) (h : l.length ≤ 4398046511104) : Ev (fun k => laws_eqInt64S.f k l l) true := by
  have hl : Ev (fun k => laws_eqInt64S.l0 k l l 0) true := by
    refine ev_loop0 (fun k (s : Int) => laws_eqInt64S.l0 k l l s) (fun s => ∃ n : Nat, n ≤ l.length ∧ s = n) (fun s => l.length - s.toNat) (fun _ => true) ?_ 0 ⟨0, by omega, rfl⟩
    rintro i ⟨n, hn, rfl⟩
    by_cases hlt : n < l.length
    · refine .inr ⟨((n + 1 : Nat) : Int), ⟨n + 1, by omega, rfl⟩, by simp; omega, rfl, fun k => ?_⟩
      simp only [laws_eqInt64S.l0]
      rw [if_pos (by omega), if_pos (by omega), if_pos (by omega), if_pos trivial, wrap_succ (by omega)]
    · refine .inl fun k => ?_
      simp only [laws_eqInt64S.l0]
      rw [if_neg (by omega)]
  refine Ev.congr (fun k => ?_) hl
  unfold laws_eqInt64S.f
  rw [if_pos rfl]
end Go.Proofs.Ytdgdnnjigigkcaa.P
namespace Go.Proofs.Ytdgdnnjigigkcaa.Pure
open Go.RowKit Go.Proofs.Ytdgdnnjigigkcaa.P Go.Proofs.Ytdgdnnjigigkcaa.Lib Go.Proofs.YtdgdnnjigigkcaaW.PrintWords
set_option linter.unusedVariables false
theorem FnExactIsIsomorphism (l m : List (List SLawFace)) (x y : List Int) (h : Fits l) (h' : Fits m) (hx : x.length ≤ 9223372036854775807) (hy : y.length ≤ 9223372036854775807) : ∃ k, laws_FnExactIsIsomorphism.f k l m x y = some true := by
  refine Ev.rounds ?_
  by_cases hx1 : (x.length : Int) > 1048576
  · exact ev_pos hx1 (Ev.now true)
  refine ev_neg hx1 ?_
  by_cases hy1 : (y.length : Int) > 1048576
  · exact ev_pos hy1 (Ev.now true)
  refine ev_neg hy1 ?_
  obtain ⟨r, hr, hs, hle⟩ := szTriangulation_from l h 1048576 (by omega) (by omega)
  refine Ev.bind hr ?_
  by_cases hn : r < 0
  · exact ev_pos hn (Ev.now true)
  refine ev_neg hn ?_
  obtain ⟨r2, hr2, hs2, _⟩ := szTriangulation_from m h' r (by omega) hle
  refine Ev.bind hr2 ?_
  by_cases hn2 : r2 < 0
  · exact ev_pos hn2 (Ev.now true)
  refine ev_neg hn2 ?_
  have hto := toTriangulation_ev l (hs hn)
  have htm := toTriangulation_ev m (hs2 hn2)
  have htx := toInt64S_ev x (by omega)
  have hty := toInt64S_ev y (by omega)
  have hS := cvT_small (hs hn)
  have hS2 := cvT_small (hs2 hn2)
  obtain ⟨o, hsp, him⟩ := isIso_ev hS hS2 x y (by omega) (by omega)
  have hex := eqInt64S_ev x (by omega)
  have hey := eqInt64S_ev y (by omega)
  refine Ev.bind hto ?_
  refine Ev.bind htm ?_
  refine Ev.bind htx ?_
  refine Ev.bind hty ?_
  refine Ev.bind hsp ?_
  refine Ev.bind hto ?_
  refine Ev.bind htm ?_
  refine Ev.bind htx ?_
  refine Ev.bind hty ?_
  refine Ev.bind him (ev_pos rfl ?_)
  refine Ev.bind hto ?_
  refine Ev.bind (eqTriangulation_ev _ hS) (ev_pos rfl ?_)
  refine Ev.bind htm ?_
  refine Ev.bind (eqTriangulation_ev _ hS2) (ev_pos rfl ?_)
  refine Ev.bind htx ?_
  refine Ev.bind hex (ev_pos rfl ?_)
  refine Ev.bind hty ?_
  exact Ev.bind hey (ev_pos rfl (Ev.now true))
end Go.Proofs.Ytdgdnnjigigkcaa.Pure
